/- Ytndedmkjmahohaa: what Go functions come to, and that they do: walks, printed by a program of this session or typed by hand; no statement of the seat stands here. -/
import Derived.Test.YtndedmkjmahohaaP0
import Derived.Test.YtndedmkjmahohaaPF62
import Derived.Test.YtndedmkjmahohaaPF59
import Derived.Test.YtndedmkjmahohaaPF38
import Derived.BigRegion
import Derived.Deep.DeepCutAuto
import Derived.LoopTactic
import Derived.RegionTactic
import Derived.Test.YtndedmkjmahohaaPF38
namespace Go.Proofs.Ytndedmkjmahohaa.P
open Go.RowKit Go.Proofs.YtndedmkjmahohaaW.PrintWords Go.Proofs.YtndedmkjmahohaaW.PrintLast Go.Proofs.YtndedmkjmahohaaW.PrintMore
attribute [local go_sem] max2_int min2_int max_two min_two max_three min_three max_four min_four   -- for this text's walks alone
set_option linter.unusedVariables false
set_option linter.unusedSimpArgs false


/-! ### pianolaref12_Load: function 39 -/
-- IMPORT Derived.RegionTactic
-- IMPORT Derived.BigRegion
-- IMPORT Derived.Deep.DeepCutAuto
-- IMPORT Derived.LoopTactic
-- IMPORT Derived.Test.YtndedmkjmahohaaPF38
def pianolaref12_Load.f (a0 : Int) (a1 : Int) : Option (List S55) :=
  if -9223372036854775808 ≤ a1 ∧ a1 < 9223372036854775808 then encode_Load.f a0 a1 else none
theorem and_low16 (n : Int) (h1 : -9223372036854775808 ≤ n) (h2 : n < 9223372036854775808) : bits .and .i64 n 65535 = n % 65536 := by
  have hm : (BitVec.ofInt 64 65535).toNat = 2 ^ 16 - 1 := by decide
  have key : (BitVec.ofInt 64 n &&& BitVec.ofInt 64 65535).toNat = (n % ((2 ^ 64 : Nat) : Int)).toNat % 2 ^ 16 := by
    rw [BitVec.toNat_and, BitVec.toNat_ofInt, hm, Nat.and_two_pow_sub_one_eq_mod]
  show IntKind.i64.wrap ((BitVec.ofInt 64 n &&& BitVec.ofInt 64 65535).toNat : Nat) = n % 65536
  rw [key, IntKind.wrap_i64]
  omega
theorem nat_xor16 (a : Nat) (h : a < 65536) : a ^^^ 65535 = 65535 - a := by
  have e := congrArg BitVec.toNat (BitVec.xor_allOnes (x := BitVec.ofNat 16 a))
  rw [BitVec.toNat_xor, BitVec.toNat_not, BitVec.toNat_ofNat, BitVec.toNat_allOnes, Nat.mod_eq_of_lt h] at e
  exact e
theorem xor_small (a b c : Nat) (ha : a < 65536) (hb : b < 65536) (hc : a ^^^ b = c) (h : c < 65536) : bits .xor .i64 (a : Int) (b : Int) = (c : Int) := by
  show IntKind.i64.wrap ((BitVec.ofInt 64 (a : Int) ^^^ BitVec.ofInt 64 (b : Int)).toNat : Int) = _
  rw [BitVec.toNat_xor, BitVec.ofInt_natCast, BitVec.ofInt_natCast, BitVec.toNat_ofNat, BitVec.toNat_ofNat, Nat.mod_eq_of_lt (by omega), Nat.mod_eq_of_lt (by omega), hc, IntKind.wrap_i64]
  omega
theorem xor_low16 (p : Int) (h0 : 0 ≤ p) (h1 : p < 65536) : bits .xor .i64 p 65535 = wrap64 (65535 - p) := by
  obtain ⟨a, rfl⟩ := Int.eq_ofNat_of_zero_le h0
  have h := xor_small a 65535 (65535 - a) (by omega) (by decide) (nat_xor16 a (by omega)) (by omega)
  refine h.trans ?_
  unfold wrap64
  omega
theorem xor_zero64 (p : Int) (h0 : 0 ≤ p) (h1 : p < 65536) : bits .xor .i64 p 0 = p := by
  obtain ⟨a, rfl⟩ := Int.eq_ofNat_of_zero_le h0
  exact xor_small a 0 a (by omega) (by decide) (Nat.xor_zero a) (by omega)
theorem ref_piece (n : Int) (k : Nat) (hk : k < 4) (h1 : -9223372036854775808 ≤ n) (h2 : n < 9223372036854775808) : wrap64 ((IntKind.u64.wrap n / 2 ^ (16 * k)).tmod 65536) = load_piece n k := by
  have e : bits .and .i64 (n / 2 ^ (16 * k)) 65535 = (n / 2 ^ (16 * k)) % 65536 := by
    have hr : -9223372036854775808 ≤ n / 2 ^ (16 * k) ∧ n / 2 ^ (16 * k) < 9223372036854775808 := by
      have : k = 0 ∨ k = 1 ∨ k = 2 ∨ k = 3 := by omega
      rcases this with rfl | rfl | rfl | rfl <;> simp only [Nat.mul_zero, Nat.mul_one, Nat.reduceMul, Int.reducePow] <;> omega
    exact and_low16 _ hr.1 hr.2
  unfold load_piece
  rw [e]
  have hu : IntKind.u64.wrap n = n % 18446744073709551616 := by simp [IntKind.wrap, IntKind.bits, IntKind.signed]
  rw [hu]
  have : k = 0 ∨ k = 1 ∨ k = 2 ∨ k = 3 := by omega
  rcases this with rfl | rfl | rfl | rfl <;> simp only [Nat.mul_zero, Nat.mul_one, Nat.reduceMul, Int.reducePow] <;> (rw [Int.tmod_eq_emod_of_nonneg (by omega)]; unfold wrap64; omega)
theorem piece_range (n : Int) (k : Nat) (hk : k < 4) (h1 : -9223372036854775808 ≤ n) (h2 : n < 9223372036854775808) : 0 ≤ load_piece n k ∧ load_piece n k < 65536 := by
  rw [← ref_piece n k hk h1 h2]
  have hu : IntKind.u64.wrap n = n % 18446744073709551616 := by simp [IntKind.wrap, IntKind.bits, IntKind.signed]
  rw [hu]
  have : k = 0 ∨ k = 1 ∨ k = 2 ∨ k = 3 := by omega
  rcases this with rfl | rfl | rfl | rfl <;> simp only [Nat.mul_zero, Nat.mul_one, Nat.reduceMul, Int.reducePow] <;> (rw [Int.tmod_eq_emod_of_nonneg (by omega)]; unfold wrap64; omega)
set_option maxHeartbeats 8000000 in
set_option maxRecDepth 100000 in
theorem refload_neg (a0 a1 : Int) (w : World) (g0 : ¬ a0 < 0) (g1 : ¬ a0 ≥ 31) (g2 : a1 < 0) (n1 : -9223372036854775808 ≤ a1) (n2 : a1 < 9223372036854775808) :
    Calls Try.prog 39 #[.int .i64 a0, .int .i64 a1] w fun e w' => ∃ v0_ : Value, e = .returned v0_ ∧ Kd.R k55 55 w' w.heap.size (fun _ => True) v0_ (load_all a0 18 65535 a1) ∧ Below w.heap.size w w' := by
  go_enter Try.func39, Try.ntmps39
  go_wp2
  go_loopw [7, 8] (fun v7 v8 W => ∃ k : Nat, v8 = .int .i64 k ∧ k ≤ 4 ∧ Kd.R k55 55 W w.heap.size (fun _ => True) v7 (load_upto a0 18 65535 a1 k) ∧ Below w.heap.size w W) (fun _ v8 _ => 4 - (intOf v8).toNat)
  case atStart => exact ⟨0, rfl, by omega, Kd.R_nil _ _ _ _ _, Below.refl _ w⟩
  case round =>
    obtain ⟨k, rfl, hk, hR, hB⟩ := hrel
    obtain ⟨A, c, hv'⟩ := Kd.R_slice hR
    subst hv'
    have hL := load_upto_len a0 18 65535 a1 k
    have hs : w.heap.size ≤ wr.heap.size := below_size hB
    have HB := Aside0.mk hB
    have HR := Aside0.mk hR
    clear hR hB
    by_cases hk4 : k < 4
    · have HP := Aside0.mk (ref_piece a1 k hk4 n1 n2)
      have HPR := Aside0.mk (piece_range a1 k hk4 n1 n2)
      by_cases hp : load_piece a1 k = 65535
      · have hq : (wrap64 ((IntKind.u64.wrap a1 / 2 ^ (16 * k)).tmod 65536) == 65535) = true := by rw [HP.out, beq_iff_eq]; exact hp
        have HE := Aside0.mk hp
        clear hp
        go_wp2_with fail
        go_roundw
        case rel => exact ⟨k + 1, by go_num, by omega, by simp only [load_upto, load_step]; rw [if_pos HE.out]; exact HR.out, HB.out⟩
        case measure => simp [intOf]; omega
      · have hq : (wrap64 ((IntKind.u64.wrap a1 / 2 ^ (16 * k)).tmod 65536) == 65535) = false := by rw [HP.out, beq_eq_false_iff_ne]; exact hp
        have HE := Aside0.mk hp
        clear hp
        obtain ⟨P, hP⟩ : ∃ P, P = wrap64 ((IntKind.u64.wrap a1 / 2 ^ (16 * k)).tmod 65536) := ⟨_, rfl⟩
        by_cases ho : (load_upto a0 18 65535 a1 k).length = 0
        · have hz : (((load_upto a0 18 65535 a1 k).length : Int) == 0) = true := by rw [ho]; rfl
          have HZ := Aside0.mk ho
          clear ho
          go_upto_region 13 with (fail)
          rw [← hP]
          have HPP := Aside0.mk hP
          clear hP hq
          obtain ⟨W2, hW2⟩ : ∃ W2, W2 = wr.alloc (.cells #[.int .i64 (17), .int .i64 (a0), .int .i64 (0), .int .i64 (0), .int .i64 (0), .int .i64 (P), .int .i64 ((k : Int)), .int .i64 (0)] 55) := ⟨_, rfl⟩
          rw [← hW2]
          have hx : W2.heap[wr.heap.size]? = some (.cells #[.int .i64 (17), .int .i64 (a0), .int .i64 (0), .int .i64 (0), .int .i64 (0), .int .i64 (P), .int .i64 ((k : Int)), .int .i64 (0)] 55 (0, 0)) := by rw [hW2]; exact heap_alloc_new wr _
          have x0 : W2.cell? ⟨wr.heap.size, 0, none⟩ = some (.int .i64 (17)) := blk_cell hx 0
          have x1 : W2.cell? ⟨wr.heap.size, 1, none⟩ = some (.int .i64 (a0)) := blk_cell hx 1
          have x2 : W2.cell? ⟨wr.heap.size, 2, none⟩ = some (.int .i64 (0)) := blk_cell hx 2
          have x3 : W2.cell? ⟨wr.heap.size, 3, none⟩ = some (.int .i64 (0)) := blk_cell hx 3
          have x4 : W2.cell? ⟨wr.heap.size, 4, none⟩ = some (.int .i64 (0)) := blk_cell hx 4
          have x5 : W2.cell? ⟨wr.heap.size, 5, none⟩ = some (.int .i64 (P)) := blk_cell hx 5
          have x6 : W2.cell? ⟨wr.heap.size, 6, none⟩ = some (.int .i64 ((k : Int))) := blk_cell hx 6
          have x7 : W2.cell? ⟨wr.heap.size, 7, none⟩ = some (.int .i64 (0)) := blk_cell hx 7
          have fz0 := blk_free hx 0
          have fz5 := blk_free hx 5
          have hz2 : W2.heap.size = wr.heap.size + 1 := by rw [hW2]; exact World.size_alloc _ _
          have hK2 : ∀ k, k < wr.heap.size → W2.heap[k]? = wr.heap[k]? := by rw [hW2]; exact fun k hk => (below_alloc (Below.refl _ wr) _).block k hk
          have HK2 := Aside0.mk hK2
          have hB2 : Below w.heap.size w W2 := by rw [hW2]; exact HB.out.alloc (by omega) _
          have HB2 := Aside0.mk hB2
          have lx : wr.heap.size < W2.heap.size := by omega
          have Z2 := Aside0.mk hz2
          clear hK2 hB2 hW2 hz2
          have HX := Aside0.mk hx
          clear hx
          go_upto_region 17 with (fail)
          clear hz
          obtain ⟨W3, hW3⟩ : ∃ W3, W3 = (W2.setCell ⟨wr.heap.size, 0, none⟩ (.int .i64 18)).setCell ⟨wr.heap.size, 5, none⟩ (.int .i64 (wrap64 (65535 - P))) := ⟨_, rfl⟩
          rw [← hW3]
          clear x0 x1 x2 x3 x4 x5 x6 x7
          have hy : W3.heap[wr.heap.size]? = some (.cells #[.int .i64 (18), .int .i64 (a0), .int .i64 (0), .int .i64 (0), .int .i64 (0), .int .i64 (wrap64 (65535 - P)), .int .i64 ((k : Int)), .int .i64 (0)] 55 (0, 0)) := by rw [hW3]; exact blk_put (blk_put HX.out 0 (.int .i64 18) rfl) 5 (.int .i64 (wrap64 (65535 - P))) rfl
          have y0 : W3.cell? ⟨wr.heap.size, 0, none⟩ = some (.int .i64 (18)) := blk_cell hy 0
          have y1 : W3.cell? ⟨wr.heap.size, 1, none⟩ = some (.int .i64 (a0)) := blk_cell hy 1
          have y2 : W3.cell? ⟨wr.heap.size, 2, none⟩ = some (.int .i64 (0)) := blk_cell hy 2
          have y3 : W3.cell? ⟨wr.heap.size, 3, none⟩ = some (.int .i64 (0)) := blk_cell hy 3
          have y4 : W3.cell? ⟨wr.heap.size, 4, none⟩ = some (.int .i64 (0)) := blk_cell hy 4
          have y5 : W3.cell? ⟨wr.heap.size, 5, none⟩ = some (.int .i64 (wrap64 (65535 - P))) := blk_cell hy 5
          have y6 : W3.cell? ⟨wr.heap.size, 6, none⟩ = some (.int .i64 ((k : Int))) := blk_cell hy 6
          have y7 : W3.cell? ⟨wr.heap.size, 7, none⟩ = some (.int .i64 (0)) := blk_cell hy 7
          have HK3 := Aside0.mk (show ∀ k, k < wr.heap.size → W3.heap[k]? = wr.heap[k]? by rw [hW3]; exact fun k hk => (Below.heap_setCell _ _ _ k (by show k ≠ wr.heap.size; omega)).trans ((Below.heap_setCell _ _ _ k (by show k ≠ wr.heap.size; omega)).trans (HK2.out k hk)))
          have HB3 := Aside0.mk (show Below w.heap.size w W3 by rw [hW3]; exact (HB2.out.setCell (p := ⟨wr.heap.size, 0, none⟩) (by show w.heap.size ≤ wr.heap.size; omega) _).setCell (p := ⟨wr.heap.size, 5, none⟩) (by show w.heap.size ≤ wr.heap.size; omega) _)
          have hz3 : W3.heap.size = wr.heap.size + 1 := by rw [hW3]; simp; exact Z2.out
          have l3 : wr.heap.size < W3.heap.size := by omega
          have Z3 := Aside0.mk hz3
          clear hz3 hy hW3 lx fz0 fz5
          go_wp2_with ((with_reducible refine gate_builtin (b := .append) (xs := #[.tmp 47, .tmp 49]) rfl ?_); at_builtin; refine Kd.R_append k55 (w0 := w) w.heap.size rfl (.tmp 47) (.tmp 49) 62 55 (.agg #[.int .i64 0, .int .i64 0, .int .i64 0, .int .i64 0, .int .i64 0, .int .i64 0, .int .i64 0, .int .i64 0]) 64 rfl Try.underlying62 info_A64 rfl (by decide) (by omega) (.slice A (load_upto a0 18 65535 a1 k).length c) (load_upto a0 18 65535 a1 k) (⟨18, a0, 0, 0, 0, wrap64 (65535 - P), (k : Int), 0⟩ : S55) [.int .i64 (18), .int .i64 (a0), .int .i64 (0), .int .i64 (0), .int .i64 (0), .int .i64 (wrap64 (65535 - P)), .int .i64 ((k : Int)), .int .i64 (0)] (fun _ => True) (fun _ => False) rfl (by first | (go_simp; done) | (go_simp; rfl)) ?aP (fun _ hk => hk.elim) (fun _ _ => trivial) ?aO ?aB ?aS ?aL ?_; (case aP => exact k55_mkM _ _ _ (⟨18, a0, 0, 0, 0, wrap64 (65535 - P), (k : Int), 0⟩ : S55)); (case aL => omega); (case aS => have := Z3.out; omega); (case aO => exact R_later HR.out (fun k _ hk => HK3.out k hk)); (case aB => exact HB3.out); intro v1 w1 ho hb1 hg hat; obtain ⟨A1, c1, hv⟩ : ∃ A1 c1, v1 = .slice A1 ((load_upto a0 18 65535 a1 k).length + 1) c1 := (by obtain ⟨A1, c1, hv⟩ := Kd.R_slice ho; exact ⟨A1, c1, by rw [hv]; simp⟩); subst hv; clear hat hg; have HO1 := Aside0.mk ho; have HB1 := Aside0.mk hb1; clear ho hb1)
          have he : load_item a0 18 65535 (load_piece a1 k) k (load_upto a0 18 65535 a1 k) = (⟨18, a0, 0, 0, 0, wrap64 (65535 - P), (k : Int), 0⟩ : S55) := by unfold load_item; rw [if_pos HZ.out, ← HP.out, ← HPP.out]; rw [xor_low16 P (by have := HPR.out; rw [← HP.out, ← HPP.out] at this; exact this.1) (by have := HPR.out; rw [← HP.out, ← HPP.out] at this; exact this.2)]
          go_roundw
          case rel => exact ⟨k + 1, by go_num, by omega, by simp only [load_upto, load_step]; rw [if_neg HE.out, he]; exact HO1.out, HB1.out⟩
          case measure => simp [intOf]; omega
        · have hz : (((load_upto a0 18 65535 a1 k).length : Int) == 0) = false := beq_eq_false_iff_ne.mpr (by omega)
          have HZ := Aside0.mk ho
          clear ho
          go_upto_region 13 with (fail)
          rw [← hP]
          have HPP := Aside0.mk hP
          clear hP hq
          obtain ⟨W2, hW2⟩ : ∃ W2, W2 = wr.alloc (.cells #[.int .i64 (17), .int .i64 (a0), .int .i64 (0), .int .i64 (0), .int .i64 (0), .int .i64 (P), .int .i64 ((k : Int)), .int .i64 (0)] 55) := ⟨_, rfl⟩
          rw [← hW2]
          have hx : W2.heap[wr.heap.size]? = some (.cells #[.int .i64 (17), .int .i64 (a0), .int .i64 (0), .int .i64 (0), .int .i64 (0), .int .i64 (P), .int .i64 ((k : Int)), .int .i64 (0)] 55 (0, 0)) := by rw [hW2]; exact heap_alloc_new wr _
          have x0 : W2.cell? ⟨wr.heap.size, 0, none⟩ = some (.int .i64 (17)) := blk_cell hx 0
          have x1 : W2.cell? ⟨wr.heap.size, 1, none⟩ = some (.int .i64 (a0)) := blk_cell hx 1
          have x2 : W2.cell? ⟨wr.heap.size, 2, none⟩ = some (.int .i64 (0)) := blk_cell hx 2
          have x3 : W2.cell? ⟨wr.heap.size, 3, none⟩ = some (.int .i64 (0)) := blk_cell hx 3
          have x4 : W2.cell? ⟨wr.heap.size, 4, none⟩ = some (.int .i64 (0)) := blk_cell hx 4
          have x5 : W2.cell? ⟨wr.heap.size, 5, none⟩ = some (.int .i64 (P)) := blk_cell hx 5
          have x6 : W2.cell? ⟨wr.heap.size, 6, none⟩ = some (.int .i64 ((k : Int))) := blk_cell hx 6
          have x7 : W2.cell? ⟨wr.heap.size, 7, none⟩ = some (.int .i64 (0)) := blk_cell hx 7
          have fz0 := blk_free hx 0
          have fz5 := blk_free hx 5
          have hz2 : W2.heap.size = wr.heap.size + 1 := by rw [hW2]; exact World.size_alloc _ _
          have hK2 : ∀ k, k < wr.heap.size → W2.heap[k]? = wr.heap[k]? := by rw [hW2]; exact fun k hk => (below_alloc (Below.refl _ wr) _).block k hk
          have HK2 := Aside0.mk hK2
          have hB2 : Below w.heap.size w W2 := by rw [hW2]; exact HB.out.alloc (by omega) _
          have HB2 := Aside0.mk hB2
          have lx : wr.heap.size < W2.heap.size := by omega
          have Z2 := Aside0.mk hz2
          clear hK2 hB2 hW2 hz2
          clear hx fz0 fz5
          go_wp2_with ((with_reducible refine gate_builtin (b := .append) (xs := #[.tmp 47, .tmp 49]) rfl ?_); at_builtin; refine Kd.R_append k55 (w0 := w) w.heap.size rfl (.tmp 47) (.tmp 49) 62 55 (.agg #[.int .i64 0, .int .i64 0, .int .i64 0, .int .i64 0, .int .i64 0, .int .i64 0, .int .i64 0, .int .i64 0]) 64 rfl Try.underlying62 info_A64 rfl (by decide) (by omega) (.slice A (load_upto a0 18 65535 a1 k).length c) (load_upto a0 18 65535 a1 k) (⟨17, a0, 0, 0, 0, P, (k : Int), 0⟩ : S55) [.int .i64 (17), .int .i64 (a0), .int .i64 (0), .int .i64 (0), .int .i64 (0), .int .i64 (P), .int .i64 ((k : Int)), .int .i64 (0)] (fun _ => True) (fun _ => False) rfl (by first | (go_simp; done) | (go_simp; rfl)) ?aP (fun _ hk => hk.elim) (fun _ _ => trivial) ?aO ?aB ?aS ?aL ?_; (case aP => exact k55_mkM _ _ _ (⟨17, a0, 0, 0, 0, P, (k : Int), 0⟩ : S55)); (case aL => omega); (case aS => have := Z2.out; omega); (case aO => exact R_later HR.out (fun k _ hk => HK2.out k hk)); (case aB => exact HB2.out); intro v1 w1 ho hb1 hg hat; obtain ⟨A1, c1, hv⟩ : ∃ A1 c1, v1 = .slice A1 ((load_upto a0 18 65535 a1 k).length + 1) c1 := (by obtain ⟨A1, c1, hv⟩ := Kd.R_slice ho; exact ⟨A1, c1, by rw [hv]; simp⟩); subst hv; clear hat hg; have HO1 := Aside0.mk ho; have HB1 := Aside0.mk hb1; clear ho hb1)
          have he : load_item a0 18 65535 (load_piece a1 k) k (load_upto a0 18 65535 a1 k) = (⟨17, a0, 0, 0, 0, P, (k : Int), 0⟩ : S55) := by unfold load_item; rw [if_neg HZ.out, ← HP.out, ← HPP.out]
          go_roundw
          case rel => exact ⟨k + 1, by go_num, by omega, by simp only [load_upto, load_step]; rw [if_neg HE.out, he]; exact HO1.out, HB1.out⟩
          case measure => simp [intOf]; omega
    · obtain rfl : k = 4 := by omega
      by_cases ho : (load_upto a0 18 65535 a1 4).length = 0
      · have hz : (((load_upto a0 18 65535 a1 4).length : Int) == 0) = true := by rw [ho]; rfl
        have HZ := Aside0.mk ho
        clear ho
        go_wp2_with ((with_reducible refine gate_builtin (b := .append) (xs := #[.tmp 54, .tmp 58]) rfl ?_); at_builtin; refine Kd.R_append k55 (w0 := w) w.heap.size rfl (.tmp 54) (.tmp 58) 62 55 (.agg #[.int .i64 0, .int .i64 0, .int .i64 0, .int .i64 0, .int .i64 0, .int .i64 0, .int .i64 0, .int .i64 0]) 64 rfl Try.underlying62 info_A64 rfl (by decide) (by omega) (.slice A (load_upto a0 18 65535 a1 4).length c) (load_upto a0 18 65535 a1 4) (⟨18, a0, 0, 0, 0, 0, 0, 0⟩ : S55) [.int .i64 (18), .int .i64 (a0), .int .i64 (0), .int .i64 (0), .int .i64 (0), .int .i64 (0), .int .i64 (0), .int .i64 (0)] (fun _ => True) (fun _ => False) rfl (by first | (go_simp; done) | (go_simp; rfl)) ?aP (fun _ hk => hk.elim) (fun _ _ => trivial) ?aO ?aB ?aS ?aL ?_; (case aP => exact k55_mkM _ _ _ (⟨18, a0, 0, 0, 0, 0, 0, 0⟩ : S55)); (case aL => omega); (case aS => omega); (case aO => exact HR.out); (case aB => exact HB.out); intro v1 w1 ho hb1 hg hat; obtain ⟨A1, c1, hv⟩ : ∃ A1 c1, v1 = .slice A1 ((load_upto a0 18 65535 a1 4).length + 1) c1 := (by obtain ⟨A1, c1, hv⟩ := Kd.R_slice ho; exact ⟨A1, c1, by rw [hv]; simp⟩); subst hv; clear hat hg; have HO1 := Aside0.mk ho; have HB1 := Aside0.mk hb1; clear ho hb1)
        go_ret
        have he : load_item a0 18 65535 65535 0 (load_upto a0 18 65535 a1 4) = (⟨18, a0, 0, 0, 0, 0, 0, 0⟩ : S55) := by unfold load_item; rw [if_pos HZ.out]; rfl
        exact ⟨_, rfl, by unfold load_all; rw [if_pos HZ.out, he]; exact HO1.out, HB1.out⟩
      · have hz : (((load_upto a0 18 65535 a1 4).length : Int) == 0) = false := beq_eq_false_iff_ne.mpr (by omega)
        have HZ := Aside0.mk ho
        clear ho
        go_wp2_with fail
        go_ret
        exact ⟨_, rfl, by unfold load_all; rw [if_neg HZ.out]; exact HR.out, HB.out⟩
set_option maxHeartbeats 8000000 in
set_option maxRecDepth 100000 in
theorem refload_pos (a0 a1 : Int) (w : World) (g0 : ¬ a0 < 0) (g1 : ¬ a0 ≥ 31) (g2 : ¬ a1 < 0) (n1 : -9223372036854775808 ≤ a1) (n2 : a1 < 9223372036854775808) :
    Calls Try.prog 39 #[.int .i64 a0, .int .i64 a1] w fun e w' => ∃ v0_ : Value, e = .returned v0_ ∧ Kd.R k55 55 w' w.heap.size (fun _ => True) v0_ (load_all a0 16 0 a1) ∧ Below w.heap.size w w' := by
  go_enter Try.func39, Try.ntmps39
  go_wp2
  go_loopw [7, 8] (fun v7 v8 W => ∃ k : Nat, v8 = .int .i64 k ∧ k ≤ 4 ∧ Kd.R k55 55 W w.heap.size (fun _ => True) v7 (load_upto a0 16 0 a1 k) ∧ Below w.heap.size w W) (fun _ v8 _ => 4 - (intOf v8).toNat)
  case atStart => exact ⟨0, rfl, by omega, Kd.R_nil _ _ _ _ _, Below.refl _ w⟩
  case round =>
    obtain ⟨k, rfl, hk, hR, hB⟩ := hrel
    obtain ⟨A, c, hv'⟩ := Kd.R_slice hR
    subst hv'
    have hL := load_upto_len a0 16 0 a1 k
    have hs : w.heap.size ≤ wr.heap.size := below_size hB
    have HB := Aside0.mk hB
    have HR := Aside0.mk hR
    clear hR hB
    by_cases hk4 : k < 4
    · have HP := Aside0.mk (show wrap64 ((a1 / 2 ^ (16 * k)).tmod 65536) = load_piece a1 k from by have h := ref_piece a1 k hk4 n1 n2; rw [show IntKind.u64.wrap a1 = a1 from by have : IntKind.u64.wrap a1 = a1 % 18446744073709551616 := (by simp [IntKind.wrap, IntKind.bits, IntKind.signed]); omega] at h; exact h)
      have HPR := Aside0.mk (piece_range a1 k hk4 n1 n2)
      by_cases hp : load_piece a1 k = 0
      · have hq : (wrap64 ((a1 / 2 ^ (16 * k)).tmod 65536) == 0) = true := by rw [HP.out, beq_iff_eq]; exact hp
        have HE := Aside0.mk hp
        clear hp
        go_wp2_with fail
        go_roundw
        case rel => exact ⟨k + 1, by go_num, by omega, by simp only [load_upto, load_step]; rw [if_pos HE.out]; exact HR.out, HB.out⟩
        case measure => simp [intOf]; omega
      · have hq : (wrap64 ((a1 / 2 ^ (16 * k)).tmod 65536) == 0) = false := by rw [HP.out, beq_eq_false_iff_ne]; exact hp
        have HE := Aside0.mk hp
        clear hp
        obtain ⟨P, hP⟩ : ∃ P, P = wrap64 ((a1 / 2 ^ (16 * k)).tmod 65536) := ⟨_, rfl⟩
        by_cases ho : (load_upto a0 16 0 a1 k).length = 0
        · have hz : (((load_upto a0 16 0 a1 k).length : Int) == 0) = true := by rw [ho]; rfl
          have HZ := Aside0.mk ho
          clear ho
          go_upto_region 13 with (fail)
          rw [← hP]
          have HPP := Aside0.mk hP
          clear hP hq
          obtain ⟨W2, hW2⟩ : ∃ W2, W2 = wr.alloc (.cells #[.int .i64 (17), .int .i64 (a0), .int .i64 (0), .int .i64 (0), .int .i64 (0), .int .i64 (P), .int .i64 ((k : Int)), .int .i64 (0)] 55) := ⟨_, rfl⟩
          rw [← hW2]
          have hx : W2.heap[wr.heap.size]? = some (.cells #[.int .i64 (17), .int .i64 (a0), .int .i64 (0), .int .i64 (0), .int .i64 (0), .int .i64 (P), .int .i64 ((k : Int)), .int .i64 (0)] 55 (0, 0)) := by rw [hW2]; exact heap_alloc_new wr _
          have x0 : W2.cell? ⟨wr.heap.size, 0, none⟩ = some (.int .i64 (17)) := blk_cell hx 0
          have x1 : W2.cell? ⟨wr.heap.size, 1, none⟩ = some (.int .i64 (a0)) := blk_cell hx 1
          have x2 : W2.cell? ⟨wr.heap.size, 2, none⟩ = some (.int .i64 (0)) := blk_cell hx 2
          have x3 : W2.cell? ⟨wr.heap.size, 3, none⟩ = some (.int .i64 (0)) := blk_cell hx 3
          have x4 : W2.cell? ⟨wr.heap.size, 4, none⟩ = some (.int .i64 (0)) := blk_cell hx 4
          have x5 : W2.cell? ⟨wr.heap.size, 5, none⟩ = some (.int .i64 (P)) := blk_cell hx 5
          have x6 : W2.cell? ⟨wr.heap.size, 6, none⟩ = some (.int .i64 ((k : Int))) := blk_cell hx 6
          have x7 : W2.cell? ⟨wr.heap.size, 7, none⟩ = some (.int .i64 (0)) := blk_cell hx 7
          have fz0 := blk_free hx 0
          have fz5 := blk_free hx 5
          have hz2 : W2.heap.size = wr.heap.size + 1 := by rw [hW2]; exact World.size_alloc _ _
          have hK2 : ∀ k, k < wr.heap.size → W2.heap[k]? = wr.heap[k]? := by rw [hW2]; exact fun k hk => (below_alloc (Below.refl _ wr) _).block k hk
          have HK2 := Aside0.mk hK2
          have hB2 : Below w.heap.size w W2 := by rw [hW2]; exact HB.out.alloc (by omega) _
          have HB2 := Aside0.mk hB2
          have lx : wr.heap.size < W2.heap.size := by omega
          have Z2 := Aside0.mk hz2
          clear hK2 hB2 hW2 hz2
          have HX := Aside0.mk hx
          clear hx
          go_upto_region 17 with (fail)
          clear hz
          obtain ⟨W3, hW3⟩ : ∃ W3, W3 = W2.setCell ⟨wr.heap.size, 0, none⟩ (.int .i64 16) := ⟨_, rfl⟩
          rw [← hW3]
          clear x0 x1 x2 x3 x4 x5 x6 x7
          have hy : W3.heap[wr.heap.size]? = some (.cells #[.int .i64 (16), .int .i64 (a0), .int .i64 (0), .int .i64 (0), .int .i64 (0), .int .i64 (P), .int .i64 ((k : Int)), .int .i64 (0)] 55 (0, 0)) := by rw [hW3]; exact blk_put HX.out 0 (.int .i64 16) rfl
          have y0 : W3.cell? ⟨wr.heap.size, 0, none⟩ = some (.int .i64 (16)) := blk_cell hy 0
          have y1 : W3.cell? ⟨wr.heap.size, 1, none⟩ = some (.int .i64 (a0)) := blk_cell hy 1
          have y2 : W3.cell? ⟨wr.heap.size, 2, none⟩ = some (.int .i64 (0)) := blk_cell hy 2
          have y3 : W3.cell? ⟨wr.heap.size, 3, none⟩ = some (.int .i64 (0)) := blk_cell hy 3
          have y4 : W3.cell? ⟨wr.heap.size, 4, none⟩ = some (.int .i64 (0)) := blk_cell hy 4
          have y5 : W3.cell? ⟨wr.heap.size, 5, none⟩ = some (.int .i64 (P)) := blk_cell hy 5
          have y6 : W3.cell? ⟨wr.heap.size, 6, none⟩ = some (.int .i64 ((k : Int))) := blk_cell hy 6
          have y7 : W3.cell? ⟨wr.heap.size, 7, none⟩ = some (.int .i64 (0)) := blk_cell hy 7
          have HK3 := Aside0.mk (show ∀ k, k < wr.heap.size → W3.heap[k]? = wr.heap[k]? by rw [hW3]; exact fun k hk => (Below.heap_setCell _ _ _ k (by show k ≠ wr.heap.size; omega)).trans (HK2.out k hk))
          have HB3 := Aside0.mk (show Below w.heap.size w W3 by rw [hW3]; exact HB2.out.setCell (p := ⟨wr.heap.size, 0, none⟩) (by show w.heap.size ≤ wr.heap.size; omega) _)
          have hz3 : W3.heap.size = wr.heap.size + 1 := by rw [hW3]; simp; exact Z2.out
          have l3 : wr.heap.size < W3.heap.size := by omega
          have Z3 := Aside0.mk hz3
          clear hz3 hy hW3 lx fz0 fz5
          go_wp2_with ((with_reducible refine gate_builtin (b := .append) (xs := #[.tmp 47, .tmp 49]) rfl ?_); at_builtin; refine Kd.R_append k55 (w0 := w) w.heap.size rfl (.tmp 47) (.tmp 49) 62 55 (.agg #[.int .i64 0, .int .i64 0, .int .i64 0, .int .i64 0, .int .i64 0, .int .i64 0, .int .i64 0, .int .i64 0]) 64 rfl Try.underlying62 info_A64 rfl (by decide) (by omega) (.slice A (load_upto a0 16 0 a1 k).length c) (load_upto a0 16 0 a1 k) (⟨16, a0, 0, 0, 0, P, (k : Int), 0⟩ : S55) [.int .i64 (16), .int .i64 (a0), .int .i64 (0), .int .i64 (0), .int .i64 (0), .int .i64 (P), .int .i64 ((k : Int)), .int .i64 (0)] (fun _ => True) (fun _ => False) rfl (by first | (go_simp; done) | (go_simp; rfl)) ?aP (fun _ hk => hk.elim) (fun _ _ => trivial) ?aO ?aB ?aS ?aL ?_; (case aP => exact k55_mkM _ _ _ (⟨16, a0, 0, 0, 0, P, (k : Int), 0⟩ : S55)); (case aL => omega); (case aS => have := Z3.out; omega); (case aO => exact R_later HR.out (fun k _ hk => HK3.out k hk)); (case aB => exact HB3.out); intro v1 w1 ho hb1 hg hat; obtain ⟨A1, c1, hv⟩ : ∃ A1 c1, v1 = .slice A1 ((load_upto a0 16 0 a1 k).length + 1) c1 := (by obtain ⟨A1, c1, hv⟩ := Kd.R_slice ho; exact ⟨A1, c1, by rw [hv]; simp⟩); subst hv; clear hat hg; have HO1 := Aside0.mk ho; have HB1 := Aside0.mk hb1; clear ho hb1)
          have he : load_item a0 16 0 (load_piece a1 k) k (load_upto a0 16 0 a1 k) = (⟨16, a0, 0, 0, 0, P, (k : Int), 0⟩ : S55) := by unfold load_item; rw [if_pos HZ.out, ← HP.out, ← HPP.out]; rw [xor_zero64 P (by have := HPR.out; rw [← HP.out, ← HPP.out] at this; exact this.1) (by have := HPR.out; rw [← HP.out, ← HPP.out] at this; exact this.2)]
          go_roundw
          case rel => exact ⟨k + 1, by go_num, by omega, by simp only [load_upto, load_step]; rw [if_neg HE.out, he]; exact HO1.out, HB1.out⟩
          case measure => simp [intOf]; omega
        · have hz : (((load_upto a0 16 0 a1 k).length : Int) == 0) = false := beq_eq_false_iff_ne.mpr (by omega)
          have HZ := Aside0.mk ho
          clear ho
          go_upto_region 13 with (fail)
          rw [← hP]
          have HPP := Aside0.mk hP
          clear hP hq
          obtain ⟨W2, hW2⟩ : ∃ W2, W2 = wr.alloc (.cells #[.int .i64 (17), .int .i64 (a0), .int .i64 (0), .int .i64 (0), .int .i64 (0), .int .i64 (P), .int .i64 ((k : Int)), .int .i64 (0)] 55) := ⟨_, rfl⟩
          rw [← hW2]
          have hx : W2.heap[wr.heap.size]? = some (.cells #[.int .i64 (17), .int .i64 (a0), .int .i64 (0), .int .i64 (0), .int .i64 (0), .int .i64 (P), .int .i64 ((k : Int)), .int .i64 (0)] 55 (0, 0)) := by rw [hW2]; exact heap_alloc_new wr _
          have x0 : W2.cell? ⟨wr.heap.size, 0, none⟩ = some (.int .i64 (17)) := blk_cell hx 0
          have x1 : W2.cell? ⟨wr.heap.size, 1, none⟩ = some (.int .i64 (a0)) := blk_cell hx 1
          have x2 : W2.cell? ⟨wr.heap.size, 2, none⟩ = some (.int .i64 (0)) := blk_cell hx 2
          have x3 : W2.cell? ⟨wr.heap.size, 3, none⟩ = some (.int .i64 (0)) := blk_cell hx 3
          have x4 : W2.cell? ⟨wr.heap.size, 4, none⟩ = some (.int .i64 (0)) := blk_cell hx 4
          have x5 : W2.cell? ⟨wr.heap.size, 5, none⟩ = some (.int .i64 (P)) := blk_cell hx 5
          have x6 : W2.cell? ⟨wr.heap.size, 6, none⟩ = some (.int .i64 ((k : Int))) := blk_cell hx 6
          have x7 : W2.cell? ⟨wr.heap.size, 7, none⟩ = some (.int .i64 (0)) := blk_cell hx 7
          have fz0 := blk_free hx 0
          have fz5 := blk_free hx 5
          have hz2 : W2.heap.size = wr.heap.size + 1 := by rw [hW2]; exact World.size_alloc _ _
          have hK2 : ∀ k, k < wr.heap.size → W2.heap[k]? = wr.heap[k]? := by rw [hW2]; exact fun k hk => (below_alloc (Below.refl _ wr) _).block k hk
          have HK2 := Aside0.mk hK2
          have hB2 : Below w.heap.size w W2 := by rw [hW2]; exact HB.out.alloc (by omega) _
          have HB2 := Aside0.mk hB2
          have lx : wr.heap.size < W2.heap.size := by omega
          have Z2 := Aside0.mk hz2
          clear hK2 hB2 hW2 hz2
          clear hx fz0 fz5
          go_wp2_with ((with_reducible refine gate_builtin (b := .append) (xs := #[.tmp 47, .tmp 49]) rfl ?_); at_builtin; refine Kd.R_append k55 (w0 := w) w.heap.size rfl (.tmp 47) (.tmp 49) 62 55 (.agg #[.int .i64 0, .int .i64 0, .int .i64 0, .int .i64 0, .int .i64 0, .int .i64 0, .int .i64 0, .int .i64 0]) 64 rfl Try.underlying62 info_A64 rfl (by decide) (by omega) (.slice A (load_upto a0 16 0 a1 k).length c) (load_upto a0 16 0 a1 k) (⟨17, a0, 0, 0, 0, P, (k : Int), 0⟩ : S55) [.int .i64 (17), .int .i64 (a0), .int .i64 (0), .int .i64 (0), .int .i64 (0), .int .i64 (P), .int .i64 ((k : Int)), .int .i64 (0)] (fun _ => True) (fun _ => False) rfl (by first | (go_simp; done) | (go_simp; rfl)) ?aP (fun _ hk => hk.elim) (fun _ _ => trivial) ?aO ?aB ?aS ?aL ?_; (case aP => exact k55_mkM _ _ _ (⟨17, a0, 0, 0, 0, P, (k : Int), 0⟩ : S55)); (case aL => omega); (case aS => have := Z2.out; omega); (case aO => exact R_later HR.out (fun k _ hk => HK2.out k hk)); (case aB => exact HB2.out); intro v1 w1 ho hb1 hg hat; obtain ⟨A1, c1, hv⟩ : ∃ A1 c1, v1 = .slice A1 ((load_upto a0 16 0 a1 k).length + 1) c1 := (by obtain ⟨A1, c1, hv⟩ := Kd.R_slice ho; exact ⟨A1, c1, by rw [hv]; simp⟩); subst hv; clear hat hg; have HO1 := Aside0.mk ho; have HB1 := Aside0.mk hb1; clear ho hb1)
          have he : load_item a0 16 0 (load_piece a1 k) k (load_upto a0 16 0 a1 k) = (⟨17, a0, 0, 0, 0, P, (k : Int), 0⟩ : S55) := by unfold load_item; rw [if_neg HZ.out, ← HP.out, ← HPP.out]
          go_roundw
          case rel => exact ⟨k + 1, by go_num, by omega, by simp only [load_upto, load_step]; rw [if_neg HE.out, he]; exact HO1.out, HB1.out⟩
          case measure => simp [intOf]; omega
    · obtain rfl : k = 4 := by omega
      by_cases ho : (load_upto a0 16 0 a1 4).length = 0
      · have hz : (((load_upto a0 16 0 a1 4).length : Int) == 0) = true := by rw [ho]; rfl
        have HZ := Aside0.mk ho
        clear ho
        go_wp2_with ((with_reducible refine gate_builtin (b := .append) (xs := #[.tmp 54, .tmp 58]) rfl ?_); at_builtin; refine Kd.R_append k55 (w0 := w) w.heap.size rfl (.tmp 54) (.tmp 58) 62 55 (.agg #[.int .i64 0, .int .i64 0, .int .i64 0, .int .i64 0, .int .i64 0, .int .i64 0, .int .i64 0, .int .i64 0]) 64 rfl Try.underlying62 info_A64 rfl (by decide) (by omega) (.slice A (load_upto a0 16 0 a1 4).length c) (load_upto a0 16 0 a1 4) (⟨16, a0, 0, 0, 0, 0, 0, 0⟩ : S55) [.int .i64 (16), .int .i64 (a0), .int .i64 (0), .int .i64 (0), .int .i64 (0), .int .i64 (0), .int .i64 (0), .int .i64 (0)] (fun _ => True) (fun _ => False) rfl (by first | (go_simp; done) | (go_simp; rfl)) ?aP (fun _ hk => hk.elim) (fun _ _ => trivial) ?aO ?aB ?aS ?aL ?_; (case aP => exact k55_mkM _ _ _ (⟨16, a0, 0, 0, 0, 0, 0, 0⟩ : S55)); (case aL => omega); (case aS => omega); (case aO => exact HR.out); (case aB => exact HB.out); intro v1 w1 ho hb1 hg hat; obtain ⟨A1, c1, hv⟩ : ∃ A1 c1, v1 = .slice A1 ((load_upto a0 16 0 a1 4).length + 1) c1 := (by obtain ⟨A1, c1, hv⟩ := Kd.R_slice ho; exact ⟨A1, c1, by rw [hv]; simp⟩); subst hv; clear hat hg; have HO1 := Aside0.mk ho; have HB1 := Aside0.mk hb1; clear ho hb1)
        go_ret
        have he : load_item a0 16 0 0 0 (load_upto a0 16 0 a1 4) = (⟨16, a0, 0, 0, 0, 0, 0, 0⟩ : S55) := by unfold load_item; rw [if_pos HZ.out]; rfl
        exact ⟨_, rfl, by unfold load_all; rw [if_pos HZ.out, he]; exact HO1.out, HB1.out⟩
      · have hz : (((load_upto a0 16 0 a1 4).length : Int) == 0) = false := beq_eq_false_iff_ne.mpr (by omega)
        have HZ := Aside0.mk ho
        clear ho
        go_wp2_with fail
        go_ret
        exact ⟨_, rfl, by unfold load_all; rw [if_neg HZ.out]; exact HR.out, HB.out⟩
set_option maxHeartbeats 4000000 in
theorem pianolaref12_Load.calls (a0 : Int) (a1 : Int) (r : List S55) (w : World) (h : pianolaref12_Load.f a0 a1 = some r) :
    Calls Try.prog 39 #[.int .i64 a0, .int .i64 a1] w fun e w' => ∃ v0_ : Value, e = .returned v0_ ∧ Kd.R k55 55 w' w.heap.size (fun _ => True) v0_ r ∧ Below w.heap.size w w' := by
  unfold pianolaref12_Load.f at h
  by_cases hw : -9223372036854775808 ≤ a1 ∧ a1 < 9223372036854775808
  · rw [if_pos hw] at h
    obtain ⟨n1, n2⟩ := hw
    unfold encode_Load.f at h
    by_cases g0 : a0 < 0
    · rw [if_pos g0] at h
      obtain rfl := Option.some.inj h
      clear h
      go_enter Try.func39, Try.ntmps39
      go_wp2
      go_ret
      exact ⟨_, rfl, Kd.R_nil _ _ _ _ _, Below.refl _ w⟩
    rw [if_neg g0] at h
    by_cases g1 : a0 ≥ 31
    · rw [if_pos g1] at h
      obtain rfl := Option.some.inj h
      clear h
      go_enter Try.func39, Try.ntmps39
      go_wp2
      go_ret
      exact ⟨_, rfl, Kd.R_nil _ _ _ _ _, Below.refl _ w⟩
    rw [if_neg g1] at h
    by_cases g2 : a1 < 0
    · rw [if_pos g2] at h
      obtain rfl := Option.some.inj h
      exact refload_neg a0 a1 w g0 g1 g2 n1 n2
    · rw [if_neg g2] at h
      obtain rfl := Option.some.inj h
      exact refload_pos a0 a1 w g0 g1 g2 n1 n2
  · rw [if_neg hw] at h
    cases h

end Go.Proofs.Ytndedmkjmahohaa.P
