/- Ytjhgbddcenhkfaa: what Go functions come to, and that they do: walks, printed by a program of this session or typed by hand; no statement of the seat stands here. -/
import Derived.Test.YtjhgbddcenhkfaaP0
import Derived.Test.YtjhgbddcenhkfaaPF49
import Derived.BigRegion
import Derived.Deep.DeepCutAuto
import Derived.LoopTactic
import Derived.RegionTactic
namespace Go.Proofs.Ytjhgbddcenhkfaa.P
open Go.RowKit Go.Proofs.YtjhgbddcenhkfaaW.PrintWords Go.Proofs.YtjhgbddcenhkfaaW.PrintLast Go.Proofs.YtjhgbddcenhkfaaW.PrintMore
attribute [local go_sem] max2_int min2_int max_two min_two max_three min_three max_four min_four   -- for this text's walks alone
set_option linter.unusedVariables false
set_option linter.unusedSimpArgs false


/-! ### encode_Load: function 32 -/
-- IMPORT Derived.RegionTactic
-- IMPORT Derived.BigRegion
-- IMPORT Derived.Deep.DeepCutAuto
-- IMPORT Derived.LoopTactic
def load_piece (n : Int) (k : Nat) : Int := bits .and .i64 (n / 2 ^ (16 * k)) 65535
theorem cell_of_heap {w w1 : World} {b o : Nat} (h : w1.heap[b]? = w.heap[b]?) : w1.cell? ⟨b, o, none⟩ = w.cell? ⟨b, o, none⟩ := by simp [World.cell?, h]
def load_step (rd fop emp n : Int) (out : List S61) (k : Nat) : List S61 :=
  if load_piece n k = emp then out else out ++ [load_item rd fop emp (load_piece n k) k out]
def load_upto (rd fop emp n : Int) : Nat → List S61
  | 0 => []
  | k + 1 => load_step rd fop emp n (load_upto rd fop emp n k) k
def load_all (rd fop emp n : Int) : List S61 :=
  if (load_upto rd fop emp n 4).length = 0 then load_upto rd fop emp n 4 ++ [load_item rd fop emp emp 0 (load_upto rd fop emp n 4)] else load_upto rd fop emp n 4
def encode_Load.f (a0 : Int) (a1 : Int) : Option (List S61) :=
  if a0 < 0 then some [] else if a0 ≥ 31 then some [] else if a1 < 0 then some (load_all a0 18 65535 a1) else some (load_all a0 16 0 a1)
/-- The boxes between two rounds. -/
structure LoadInv (w W : World) (rd fop emp : Int) (out : List S61) : Prop where
  h2 : W.cell? ⟨w.heap.size, 0, none⟩ = some (.int .i64 rd)
  h4 : W.cell? ⟨w.heap.size + 1, 0, none⟩ = some (.int .i64 fop)
  h5 : W.cell? ⟨w.heap.size + 2, 0, none⟩ = some (.int .i64 emp)
  h3 : ∃ v, W.heap[w.heap.size + 3]? = some (.cells #[v] 47 (0, 0)) ∧ Kd.R k61 61 W (w.heap.size + 4) (fun _ => True) v out
  hs : w.heap.size + 4 ≤ W.heap.size
  hb : Below w.heap.size w W
theorem LoadInv.next {w W W' : World} {rd fop emp : Int} {out out' : List S61} (h : LoadInv w W rd fop emp out) {v' : Value} (hv : W'.heap[w.heap.size + 3]? = some (.cells #[v'] 47 (0, 0)))
    (hR : Kd.R k61 61 W' (w.heap.size + 4) (fun _ => True) v' out') (hsz : W.heap.size ≤ W'.heap.size) (hk : ∀ k, k < w.heap.size + 4 → k ≠ w.heap.size + 3 → W'.heap[k]? = W.heap[k]?) (hB : ∀ B w0, B ≤ w.heap.size + 3 → Below B w0 W → Below B w0 W') : LoadInv w W' rd fop emp out' :=
  ⟨(cell_of_heap (hk _ (by omega) (by omega))).trans h.h2, (cell_of_heap (hk _ (by omega) (by omega))).trans h.h4, (cell_of_heap (hk _ (by omega) (by omega))).trans h.h5, ⟨v', hv, hR⟩, Nat.le_trans h.hs hsz, hB _ _ (by omega) h.hb⟩
theorem LoadInv.start (w : World) (rd fop emp : Int) : LoadInv w ((((w.alloc (.cells #[.int .i64 rd] 3)).alloc (.cells #[.int .i64 fop, .int .i64 rd, .int .i64 0, .int .i64 0, .int .i64 0, .int .i64 0, .int .i64 0, .int .i64 0] 61)).alloc (.cells #[.int .i64 emp] 3)).alloc (.cells #[.slice none 0 0] 47)) rd fop emp [] := by
  refine ⟨?_, ?_, ?_, ⟨.slice none 0 0, ?_, Kd.R_nil _ _ _ _ _⟩, by simp, ?_⟩
  · rw [World.cell?_alloc_lt _ _ _ (by simp; omega), World.cell?_alloc_lt _ _ _ (by simp; omega), World.cell?_alloc_lt _ _ _ (by simp)]
    exact World.cell?_alloc_new _ _ _ _
  · rw [World.cell?_alloc_lt _ _ _ (by simp), World.cell?_alloc_lt _ _ _ (by simp)]
    simp
  · rw [World.cell?_alloc_lt _ _ _ (by simp)]
    have := World.cell?_alloc_new (w := (w.alloc (.cells #[.int .i64 rd] 3)).alloc (.cells #[.int .i64 fop, .int .i64 rd, .int .i64 0, .int .i64 0, .int .i64 0, .int .i64 0, .int .i64 0, .int .i64 0] 61)) #[Value.int .i64 emp] 3 0
    simpa using this
  · have := heap_alloc_new (((w.alloc (.cells #[.int .i64 rd] 3)).alloc (.cells #[.int .i64 fop, .int .i64 rd, .int .i64 0, .int .i64 0, .int .i64 0, .int .i64 0, .int .i64 0, .int .i64 0] 61)).alloc (.cells #[.int .i64 emp] 3)) (.cells #[.slice none 0 0] 47)
    simpa using this
  · exact ((((Below.refl _ w).alloc (Nat.le_refl _) _).alloc (by simp) _).alloc (by simp; omega) _).alloc (by simp; omega) _
theorem load_upto_len (rd fop emp n : Int) : ∀ k, (load_upto rd fop emp n k).length ≤ k
  | 0 => Nat.le_refl _
  | k + 1 => by
    have := load_upto_len rd fop emp n k
    simp only [load_upto, load_step]
    split
    · omega
    · simp; omega
set_option maxHeartbeats 8000000 in
set_option maxRecDepth 100000 in
theorem encode_Load.calls (a0 : Int) (a1 : Int) (r : List S61) (w : World) (h : encode_Load.f a0 a1 = some r) :
    Calls Try.prog 32 #[.int .i64 a0, .int .i64 a1] w fun e w' => ∃ v0_ : Value, e = .returned v0_ ∧ Kd.R k61 61 w' w.heap.size (fun _ => True) v0_ r ∧ Below w.heap.size w w' := by
  unfold encode_Load.f at h
  by_cases g0 : a0 < 0
  · rw [if_pos g0] at h
    obtain rfl := Option.some.inj h
    clear h
    go_enter Try.func32, Try.ntmps32
    go_wp2
    go_ret
    exact ⟨_, rfl, Kd.R_nil _ _ _ _ _, (Below.refl _ w).alloc (Nat.le_refl _) _⟩
  rw [if_neg g0] at h
  by_cases g1 : a0 ≥ 31
  · rw [if_pos g1] at h
    obtain rfl := Option.some.inj h
    clear h
    go_enter Try.func32, Try.ntmps32
    go_wp2
    go_ret
    exact ⟨_, rfl, Kd.R_nil _ _ _ _ _, (Below.refl _ w).alloc (Nat.le_refl _) _⟩
  rw [if_neg g1] at h
  by_cases g2 : a1 < 0
  · rw [if_pos g2] at h
    obtain rfl := Option.some.inj h
    clear h
    go_enter Try.func32, Try.ntmps32
    go_wp2
    go_loopw [23] (fun v23 W => ∃ k : Nat, v23 = .int .i64 k ∧ k ≤ 4 ∧ LoadInv w W a0 18 65535 (load_upto a0 18 65535 a1 k)) (fun v23 _ => 4 - (intOf v23).toNat)
    case atStart => exact ⟨0, rfl, by omega, LoadInv.start w a0 18 65535⟩
    case round =>
      obtain ⟨k, rfl, hk, hI⟩ := hrel
      have c2 := hI.h2
      have c4 := hI.h4
      have c5 := hI.h5
      obtain ⟨v, hv, hR⟩ := hI.h3
      obtain ⟨A, c, hv'⟩ := Kd.R_slice hR
      subst hv'
      have hL := load_upto_len a0 18 65535 a1 k
      have c3 : wr.cell? ⟨w.heap.size + 3, 0, none⟩ = some (.slice A (load_upto a0 18 65535 a1 k).length c) := blk_cell hv 0
      have hs := hI.hs
      have HI := Aside0.mk hI
      have HV := Aside0.mk hv
      have HR := Aside0.mk hR
      clear hI hv hR
      by_cases hk4 : k < 4
      · by_cases hp : load_piece a1 k = 65535
        · have hp1 : (bits BinOp.and IntKind.i64 (a1 / 2 ^ (16 * k)) 65535 != 65535) = false := by rw [bne_eq_false_iff_eq]; exact hp
          have HP := Aside0.mk hp
          clear hp
          go_wp2_with fail
          go_roundw
          case rel => exact ⟨k + 1, by go_num, by omega, by simp only [load_upto, load_step]; rw [if_pos HP.out]; exact HI.out⟩
          case measure => simp [intOf]; omega
        · have hp1 : (bits BinOp.and IntKind.i64 (a1 / 2 ^ (16 * k)) 65535 != 65535) = true := by rw [bne_iff_ne]; exact hp
          have HP := Aside0.mk hp
          clear hp
          go_wp2_with fail
          refine (load_add wr (w.heap.size + 4) w.heap.size (w.heap.size + 1 + 1 + 1) (w.heap.size + 1) (w.heap.size + 1 + 1) a0 18 65535 _ _ _ (load_upto a0 18 65535 a1 k) (by omega) (by omega) (by omega) (by omega) hs ⟨HI.out.h2, HV.out, HI.out.h4, HI.out.h5⟩ HR.out (by omega)).mono ?_
          rintro e W' ⟨rfl, v', hv', hR', hsz, hkp, hB'⟩
          have HN := Aside0.mk (HI.out.next hv' hR' hsz hkp hB')
          clear hv' hR' hsz hkp hB' c2 c3 c4 c5
          go_wp2_with fail
          go_roundw
          case rel => exact ⟨k + 1, by go_num, by omega, by simp only [load_upto, load_step]; rw [if_neg HP.out]; exact HN.out⟩
          case measure => simp [intOf]; omega
      · obtain rfl : k = 4 := by omega
        by_cases hl : (load_upto a0 18 65535 a1 4).length = 0
        · have hl1 : (((load_upto a0 18 65535 a1 4).length : Int) == 0) = true := by rw [hl]; rfl
          have HLn := Aside0.mk hl
          clear hl
          go_wp2_with fail
          refine (load_add wr (w.heap.size + 4) w.heap.size (w.heap.size + 1 + 1 + 1) (w.heap.size + 1) (w.heap.size + 1 + 1) a0 18 65535 _ _ _ (load_upto a0 18 65535 a1 4) (by omega) (by omega) (by omega) (by omega) hs ⟨HI.out.h2, HV.out, HI.out.h4, HI.out.h5⟩ HR.out (by omega)).mono ?_
          rintro e W' ⟨rfl, v', hv', hR', hsz, hkp, hB'⟩
          have c3' : W'.cell? ⟨w.heap.size + 3, 0, none⟩ = some v' := blk_cell hv' 0
          have HN := Aside0.mk (HI.out.next hv' hR' hsz hkp hB')
          have HRn := Aside0.mk hR'
          obtain ⟨A1, c1, hw⟩ : ∃ A1 c1, v' = .slice A1 ((load_upto a0 18 65535 a1 4).length + 1) c1 := by obtain ⟨A1, c1, hw⟩ := Kd.R_slice hR'; exact ⟨A1, c1, by rw [hw]; simp⟩
          subst hw
          clear hv' hR' hsz hkp hB' c2 c3 c4 c5
          go_wp2_with fail
          go_ret
          exact ⟨_, rfl, by unfold load_all; rw [if_pos HLn.out]; exact Kd.R_lower (base := w.heap.size + 4) (base' := w.heap.size) HRn.out (by omega), HN.out.hb⟩
        · have hl1 : (((load_upto a0 18 65535 a1 4).length : Int) == 0) = false := beq_eq_false_iff_ne.mpr (by omega)
          have HLn := Aside0.mk hl
          clear hl
          go_wp2_with fail
          go_ret
          exact ⟨_, rfl, by unfold load_all; rw [if_neg HLn.out]; exact Kd.R_lower (base := w.heap.size + 4) (base' := w.heap.size) HR.out (by omega), HI.out.hb⟩
  · rw [if_neg g2] at h
    obtain rfl := Option.some.inj h
    clear h
    go_enter Try.func32, Try.ntmps32
    go_wp2
    go_loopw [23] (fun v23 W => ∃ k : Nat, v23 = .int .i64 k ∧ k ≤ 4 ∧ LoadInv w W a0 16 0 (load_upto a0 16 0 a1 k)) (fun v23 _ => 4 - (intOf v23).toNat)
    case atStart => exact ⟨0, rfl, by omega, LoadInv.start w a0 16 0⟩
    case round =>
      obtain ⟨k, rfl, hk, hI⟩ := hrel
      have c2 := hI.h2
      have c4 := hI.h4
      have c5 := hI.h5
      obtain ⟨v, hv, hR⟩ := hI.h3
      obtain ⟨A, c, hv'⟩ := Kd.R_slice hR
      subst hv'
      have hL := load_upto_len a0 16 0 a1 k
      have c3 : wr.cell? ⟨w.heap.size + 3, 0, none⟩ = some (.slice A (load_upto a0 16 0 a1 k).length c) := blk_cell hv 0
      have hs := hI.hs
      have HI := Aside0.mk hI
      have HV := Aside0.mk hv
      have HR := Aside0.mk hR
      clear hI hv hR
      by_cases hk4 : k < 4
      · by_cases hp : load_piece a1 k = 0
        · have hp1 : (bits BinOp.and IntKind.i64 (a1 / 2 ^ (16 * k)) 65535 != 0) = false := by rw [bne_eq_false_iff_eq]; exact hp
          have HP := Aside0.mk hp
          clear hp
          go_wp2_with fail
          go_roundw
          case rel => exact ⟨k + 1, by go_num, by omega, by simp only [load_upto, load_step]; rw [if_pos HP.out]; exact HI.out⟩
          case measure => simp [intOf]; omega
        · have hp1 : (bits BinOp.and IntKind.i64 (a1 / 2 ^ (16 * k)) 65535 != 0) = true := by rw [bne_iff_ne]; exact hp
          have HP := Aside0.mk hp
          clear hp
          go_wp2_with fail
          refine (load_add wr (w.heap.size + 4) w.heap.size (w.heap.size + 1 + 1 + 1) (w.heap.size + 1) (w.heap.size + 1 + 1) a0 16 0 _ _ _ (load_upto a0 16 0 a1 k) (by omega) (by omega) (by omega) (by omega) hs ⟨HI.out.h2, HV.out, HI.out.h4, HI.out.h5⟩ HR.out (by omega)).mono ?_
          rintro e W' ⟨rfl, v', hv', hR', hsz, hkp, hB'⟩
          have HN := Aside0.mk (HI.out.next hv' hR' hsz hkp hB')
          clear hv' hR' hsz hkp hB' c2 c3 c4 c5
          go_wp2_with fail
          go_roundw
          case rel => exact ⟨k + 1, by go_num, by omega, by simp only [load_upto, load_step]; rw [if_neg HP.out]; exact HN.out⟩
          case measure => simp [intOf]; omega
      · obtain rfl : k = 4 := by omega
        by_cases hl : (load_upto a0 16 0 a1 4).length = 0
        · have hl1 : (((load_upto a0 16 0 a1 4).length : Int) == 0) = true := by rw [hl]; rfl
          have HLn := Aside0.mk hl
          clear hl
          go_wp2_with fail
          refine (load_add wr (w.heap.size + 4) w.heap.size (w.heap.size + 1 + 1 + 1) (w.heap.size + 1) (w.heap.size + 1 + 1) a0 16 0 _ _ _ (load_upto a0 16 0 a1 4) (by omega) (by omega) (by omega) (by omega) hs ⟨HI.out.h2, HV.out, HI.out.h4, HI.out.h5⟩ HR.out (by omega)).mono ?_
          rintro e W' ⟨rfl, v', hv', hR', hsz, hkp, hB'⟩
          have c3' : W'.cell? ⟨w.heap.size + 3, 0, none⟩ = some v' := blk_cell hv' 0
          have HN := Aside0.mk (HI.out.next hv' hR' hsz hkp hB')
          have HRn := Aside0.mk hR'
          obtain ⟨A1, c1, hw⟩ : ∃ A1 c1, v' = .slice A1 ((load_upto a0 16 0 a1 4).length + 1) c1 := by obtain ⟨A1, c1, hw⟩ := Kd.R_slice hR'; exact ⟨A1, c1, by rw [hw]; simp⟩
          subst hw
          clear hv' hR' hsz hkp hB' c2 c3 c4 c5
          go_wp2_with fail
          go_ret
          exact ⟨_, rfl, by unfold load_all; rw [if_pos HLn.out]; exact Kd.R_lower (base := w.heap.size + 4) (base' := w.heap.size) HRn.out (by omega), HN.out.hb⟩
        · have hl1 : (((load_upto a0 16 0 a1 4).length : Int) == 0) = false := beq_eq_false_iff_ne.mpr (by omega)
          have HLn := Aside0.mk hl
          clear hl
          go_wp2_with fail
          go_ret
          exact ⟨_, rfl, by unfold load_all; rw [if_neg HLn.out]; exact Kd.R_lower (base := w.heap.size + 4) (base' := w.heap.size) HR.out (by omega), HI.out.hb⟩

end Go.Proofs.Ytjhgbddcenhkfaa.P
