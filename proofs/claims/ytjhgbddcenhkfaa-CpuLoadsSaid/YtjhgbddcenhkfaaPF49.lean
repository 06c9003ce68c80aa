/- Ytjhgbddcenhkfaa: what Go functions come to, and that they do: walks, printed by a program of this session or typed by hand; no statement of the seat stands here. -/
import Derived.Test.YtjhgbddcenhkfaaP0
import Derived.Test.YtjhgbddcenhkfaaPF69
import Derived.BigRegion
import Derived.Deep.DeepCutAuto
import Derived.RegionTactic
namespace Go.Proofs.Ytjhgbddcenhkfaa.P
open Go.RowKit Go.Proofs.YtjhgbddcenhkfaaW.PrintWords Go.Proofs.YtjhgbddcenhkfaaW.PrintLast Go.Proofs.YtjhgbddcenhkfaaW.PrintMore
attribute [local go_sem] max2_int min2_int max_two min_two max_three min_three max_four min_four   -- for this text's walks alone
set_option linter.unusedVariables false
set_option linter.unusedSimpArgs false


/-! ### encode_Load_1: function 49 -/
-- IMPORT Derived.RegionTactic
-- IMPORT Derived.BigRegion
-- IMPORT Derived.Deep.DeepCutAuto
theorem R_later {α : Type} {d : Kd α} {e : Nat} {w w1 : World} {base : Nat} {ok : Nat → Prop} {v : Value} {xs : List α} (h : d.R e w base ok v xs) (hm : ∀ k, base ≤ k → k < w.heap.size → w1.heap[k]? = w.heap[k]?) : d.R e w1 base ok v xs :=
  Kd.R_mono (Kd.R_step (Kd.R_bound h) (fun k hk hlt => hm k hk.2.1 hlt)) (fun _ hk => hk.1)
/-- The blocks of a stretch stay. -/
def Kin (lo hi : Nat) (w w1 : World) : Prop := ∀ k, lo ≤ k → k < hi → w1.heap[k]? = w.heap[k]?
theorem Kin.refl (lo hi : Nat) (w : World) : Kin lo hi w w := fun _ _ _ => rfl
theorem Kin.alloc {lo hi : Nat} {w w1 : World} (h : Kin lo hi w w1) (hs : hi ≤ w1.heap.size) (o : Obj) : Kin lo hi w (w1.alloc o) := fun k h1 h2 => ((below_alloc (Below.refl _ w1) o).block k (Nat.lt_of_lt_of_le h2 hs)).trans (h k h1 h2)
theorem Kin.set {lo hi : Nat} {w w1 : World} (h : Kin lo hi w w1) (p : Addr) (hp : p.block < lo ∨ hi ≤ p.block) (u : Value) : Kin lo hi w (w1.setCell p u) := fun k h1 h2 => (Below.heap_setCell w1 p u k (by omega)).trans (h k h1 h2)
theorem Kin.drewN {lo hi : Nat} {w w1 : World} (h : Kin lo hi w w1) (n : Nat) : Kin lo hi w (w1.drewN n) := h
theorem Kin.drew {lo hi : Nat} {w w1 : World} (h : Kin lo hi w w1) : Kin lo hi w w1.drew := h
theorem Kin.trans {lo hi : Nat} {w w1 w2 : World} (h : Kin lo hi w w1) (k : Kin lo hi w1 w2) : Kin lo hi w w2 := fun i h1 h2 => (k i h1 h2).trans (h i h1 h2)
theorem Kin.grown {lo hi : Nat} {w w1 w2 : World} (h : Kin lo hi w w1) {row : Option Nat} (hg : w1.grownBy w2 row) (hs : hi ≤ w1.heap.size) (hr : ∀ k, row = some k → k < lo ∨ hi ≤ k) : Kin lo hi w w2 := fun k h1 h2 =>
  (hg.block k (Nat.lt_of_lt_of_le h2 hs) (fun e => by have := hr k e.symm; omega)).trans (h k h1 h2)
theorem info_A64 : (Try.prog.info? 61).map (fun i => (i.zero, i.size, i.bytes)) = some (some (.agg #[.int .i64 0, .int .i64 0, .int .i64 0, .int .i64 0, .int .i64 0, .int .i64 0, .int .i64 0, .int .i64 0]), 8, 64) := by kernel_rfl
/-- The boxes of Load: the register, what was made, the first op, what is left out. -/
structure LoadBoxes (W : World) (base b2 b3 b4 b5 : Nat) (rd fop emp : Int) (v : Value) : Prop where
  h2 : W.cell? ⟨b2, 0, none⟩ = some (.int .i64 rd)
  h3 : W.heap[b3]? = some (.cells #[v] 47 (0, 0))
  h4 : W.cell? ⟨b4, 0, none⟩ = some (.int .i64 fop)
  h5 : W.cell? ⟨b5, 0, none⟩ = some (.int .i64 emp)
/-- What 'add' adds. -/
def load_item (rd fop emp p shift : Int) (out : List S61) : S61 :=
  if out.length = 0 then ⟨fop, rd, 0, 0, 0, bits .xor .i64 p emp, shift, 0⟩ else ⟨17, rd, 0, 0, 0, p, shift, 0⟩
set_option maxHeartbeats 4000000 in
set_option maxRecDepth 100000 in
theorem load_add (W : World) (base b2 b3 b4 b5 : Nat) (rd fop emp p shift : Int) (v : Value) (out : List S61)
    (g2 : b2 < base) (g3 : b3 < base) (g4 : b4 < base) (g5 : b5 < base) (gb : base ≤ W.heap.size) (hb : LoadBoxes W base b2 b3 b4 b5 rd fop emp v)
    (HO : Kd.R k61 61 W base (fun _ => True) v out) (hl : out.length < 100) :
    Calls Try.prog 49 #[.int .i64 p, .int .i64 shift, .pointer (some ⟨b2, 0, none⟩), .pointer (some ⟨b3, 0, none⟩), .pointer (some ⟨b4, 0, none⟩), .pointer (some ⟨b5, 0, none⟩)] W fun e W' =>
      e = .returned (.tuple #[]) ∧ ∃ v', W'.heap[b3]? = some (.cells #[v'] 47 (0, 0)) ∧ Kd.R k61 61 W' base (fun _ => True) v' (out ++ [load_item rd fop emp p shift out]) ∧ W.heap.size ≤ W'.heap.size ∧
        (∀ k, k < base → k ≠ b3 → W'.heap[k]? = W.heap[k]?) ∧ (∀ B w0, B ≤ b3 → Below B w0 W → Below B w0 W') := by
  obtain ⟨h2, h3, h4, h5⟩ := hb
  obtain ⟨A, c, rfl⟩ := Kd.R_slice HO
  have h3c : W.cell? ⟨b3, 0, none⟩ = some (.slice A out.length c) := blk_cell h3 0
  have f3 := blk_free h3 0
  have e2 := World.new_ne W _ h2
  have e3 := World.new_ne W _ h3c
  have e4 := World.new_ne W _ h4
  have e5 := World.new_ne W _ h5
  have l2 : b2 < W.heap.size := by omega
  have l3 : b3 < W.heap.size := by omega
  have l4 : b4 < W.heap.size := by omega
  have l5 : b5 < W.heap.size := by omega
  have H3 := Aside0.mk h3
  have HOA := Aside0.mk HO
  clear h3 HO
  by_cases ho : out.length = 0
  · have hz : ((out.length : Int) == 0) = true := by rw [ho]; rfl
    have HZ := Aside0.mk ho
    clear ho
    go_enter Try.func49, Try.ntmps49
    go_wp2
    go_region
    clear hz
    obtain ⟨W2, hW2⟩ : ∃ W2, W2 = (W.alloc (.cells #[.int .i64 fop, .int .i64 rd, .int .i64 0, .int .i64 0, .int .i64 0, .int .i64 (bits .xor .i64 p emp), .int .i64 shift, .int .i64 0] 61)).drew := ⟨_, rfl⟩
    rw [← hW2]
    have hx : W2.heap[W.heap.size]? = some (.cells #[.int .i64 fop, .int .i64 rd, .int .i64 0, .int .i64 0, .int .i64 0, .int .i64 (bits .xor .i64 p emp), .int .i64 shift, .int .i64 0] 61 (0, 0)) := by rw [hW2]; exact heap_alloc_new W _
    have x0 : W2.cell? ⟨W.heap.size, 0, none⟩ = some (.int .i64 fop) := blk_cell hx 0
    have x1 : W2.cell? ⟨W.heap.size, 1, none⟩ = some (.int .i64 rd) := blk_cell hx 1
    have x2 : W2.cell? ⟨W.heap.size, 2, none⟩ = some (.int .i64 0) := blk_cell hx 2
    have x3 : W2.cell? ⟨W.heap.size, 3, none⟩ = some (.int .i64 0) := blk_cell hx 3
    have x4 : W2.cell? ⟨W.heap.size, 4, none⟩ = some (.int .i64 0) := blk_cell hx 4
    have x5 : W2.cell? ⟨W.heap.size, 5, none⟩ = some (.int .i64 (bits .xor .i64 p emp)) := blk_cell hx 5
    have x6 : W2.cell? ⟨W.heap.size, 6, none⟩ = some (.int .i64 shift) := blk_cell hx 6
    have x7 : W2.cell? ⟨W.heap.size, 7, none⟩ = some (.int .i64 0) := blk_cell hx 7
    have hz2 : W2.heap.size = W.heap.size + 1 := by rw [hW2]; exact World.size_alloc _ _
    have hK2 : ∀ k, k < W.heap.size → W2.heap[k]? = W.heap[k]? := by rw [hW2]; exact fun k hk => (below_alloc (Below.refl _ W) _).block k hk
    have KI := Aside0.mk (fun k _ hk => hK2 k hk : Kin base W.heap.size W W2)
    have K2 := Aside0.mk hK2
    have hB2 : ∀ B w0, Below B w0 W → B ≤ W.heap.size → Below B w0 W2 := by rw [hW2]; exact fun B w0 h hB => below_drew (h.alloc hB _)
    have BE := Aside0.mk (hB2 base W (Below.refl _ _) gb)
    have BB := Aside0.mk hB2
    have h3d : W2.cell? ⟨b3, 0, none⟩ = some (.slice A out.length c) := blk_cell ((hK2 b3 l3).trans H3.out) 0
    have l3' : b3 < W2.heap.size := by omega
    have lx : W.heap.size < W2.heap.size := by omega
    have lb : base ≤ W2.heap.size := by omega
    have Z2 := Aside0.mk hz2
    clear hx hK2 hB2 h2 h3c h4 h5 f3 e2 e3 e4 e5 l2 l4 l5 hW2 hz2
    go_wp2_with ((with_reducible refine gate_builtin (b := .append) (xs := #[.tmp 23, .tmp 25]) rfl ?_); at_builtin; refine Kd.R_append k61 (w0 := W) base rfl (.tmp 23) (.tmp 25) 47 61 (.agg #[.int .i64 0, .int .i64 0, .int .i64 0, .int .i64 0, .int .i64 0, .int .i64 0, .int .i64 0, .int .i64 0]) 64 rfl Try.underlying47 info_A64 rfl (by decide) (by omega) (.slice A out.length c) out (⟨fop, rd, 0, 0, 0, bits .xor .i64 p emp, shift, 0⟩ : S61) [.int .i64 fop, .int .i64 rd, .int .i64 0, .int .i64 0, .int .i64 0, .int .i64 (bits .xor .i64 p emp), .int .i64 shift, .int .i64 0] (fun _ => True) (fun _ => False) rfl (by first | (go_simp; done) | (go_simp; rfl)) ?aP (fun _ hk => hk.elim) (fun _ _ => trivial) ?aO ?aB ?aS ?aL ?_; (case aP => exact k61_mkM _ _ _ (⟨fop, rd, 0, 0, 0, bits .xor .i64 p emp, shift, 0⟩ : S61)); (case aL => omega); (case aS => omega); (case aO => exact R_later HOA.out KI.out); (case aB => exact BE.out); intro v1 w1 ho hb1 hg hat; obtain ⟨A1, c1, hv⟩ : ∃ A1 c1, v1 = .slice A1 (out.length + 1) c1 := (by obtain ⟨A1, c1, hv⟩ := Kd.R_slice ho; exact ⟨A1, c1, by rw [hv]; simp⟩); subst hv; clear hat; have hrow : ∀ k, Value.ownBlock (.slice A out.length c) = some k → base ≤ k := fun k hk => (Kd.R_bound HOA.out).1 k hk |>.2.1; have hk3 : w1.heap[b3]? = some (.cells #[.slice A out.length c] 47 (0, 0)) := (hg.block b3 l3' (fun e => by have := hrow b3 e.symm; omega)).trans ((K2.out b3 l3).trans H3.out); have f3 := blk_free hk3 0; have h3e : w1.cell? ⟨b3, 0, none⟩ = some (.slice A out.length c) := blk_cell hk3 0; have HK3 := Aside0.mk hk3; have HO1 := Aside0.mk ho; have HG := Aside0.mk hg; have HR := Aside0.mk hrow; have HB1 := Aside0.mk hb1; clear ho hg hrow hb1 hk3)
    go_end0
    refine ⟨rfl, .slice A1 (out.length + 1) c1, by simpa using blk_set HK3.out 0 (.slice A1 (out.length + 1) c1), ?_, ?_, ?_, ?_⟩
    · have he : load_item rd fop emp p shift out = (⟨fop, rd, 0, 0, 0, bits .xor .i64 p emp, shift, 0⟩ : S61) := by unfold load_item; rw [if_pos HZ.out]
      rw [he]
      exact R_later HO1.out (fun k hk _ => Below.heap_setCell w1 _ _ k (by show k ≠ b3; omega))
    · have := HG.out.size; have := Z2.out; simp; omega
    · intro k hk hne
      exact (Below.heap_setCell w1 _ _ k (by show k ≠ b3; exact hne)).trans ((HG.out.block k (by omega) (fun e => by have := HR.out k e.symm; omega)).trans (K2.out k (by omega)))
    · intro B w0 hB h0
      exact Below.setCell (p := ⟨b3, 0, none⟩) ((BB.out B w0 h0 (by omega)).grown HG.out (by omega) (fun k hk => by have := HR.out k hk; omega)) hB _
  · have hz : ((out.length : Int) == 0) = false := beq_eq_false_iff_ne.mpr (by omega)
    have HZ := Aside0.mk ho
    clear ho
    go_enter Try.func49, Try.ntmps49
    go_upto_region 3 with (fail)
    clear hz
    obtain ⟨W2, hW2⟩ : ∃ W2, W2 = (W.alloc (.cells #[.int .i64 17, .int .i64 rd, .int .i64 0, .int .i64 0, .int .i64 0, .int .i64 p, .int .i64 shift, .int .i64 0] 61)) := ⟨_, rfl⟩
    rw [← hW2]
    have hx : W2.heap[W.heap.size]? = some (.cells #[.int .i64 17, .int .i64 rd, .int .i64 0, .int .i64 0, .int .i64 0, .int .i64 p, .int .i64 shift, .int .i64 0] 61 (0, 0)) := by rw [hW2]; exact heap_alloc_new W _
    have x0 : W2.cell? ⟨W.heap.size, 0, none⟩ = some (.int .i64 17) := blk_cell hx 0
    have x1 : W2.cell? ⟨W.heap.size, 1, none⟩ = some (.int .i64 rd) := blk_cell hx 1
    have x2 : W2.cell? ⟨W.heap.size, 2, none⟩ = some (.int .i64 0) := blk_cell hx 2
    have x3 : W2.cell? ⟨W.heap.size, 3, none⟩ = some (.int .i64 0) := blk_cell hx 3
    have x4 : W2.cell? ⟨W.heap.size, 4, none⟩ = some (.int .i64 0) := blk_cell hx 4
    have x5 : W2.cell? ⟨W.heap.size, 5, none⟩ = some (.int .i64 p) := blk_cell hx 5
    have x6 : W2.cell? ⟨W.heap.size, 6, none⟩ = some (.int .i64 shift) := blk_cell hx 6
    have x7 : W2.cell? ⟨W.heap.size, 7, none⟩ = some (.int .i64 0) := blk_cell hx 7
    have hz2 : W2.heap.size = W.heap.size + 1 := by rw [hW2]; exact World.size_alloc _ _
    have hK2 : ∀ k, k < W.heap.size → W2.heap[k]? = W.heap[k]? := by rw [hW2]; exact fun k hk => (below_alloc (Below.refl _ W) _).block k hk
    have KI := Aside0.mk (fun k _ hk => hK2 k hk : Kin base W.heap.size W W2)
    have K2 := Aside0.mk hK2
    have hB2 : ∀ B w0, Below B w0 W → B ≤ W.heap.size → Below B w0 W2 := by rw [hW2]; exact fun B w0 h hB => h.alloc hB _
    have BE := Aside0.mk (hB2 base W (Below.refl _ _) gb)
    have BB := Aside0.mk hB2
    have h3d : W2.cell? ⟨b3, 0, none⟩ = some (.slice A out.length c) := blk_cell ((hK2 b3 l3).trans H3.out) 0
    have l3' : b3 < W2.heap.size := by omega
    have lx : W.heap.size < W2.heap.size := by omega
    have lb : base ≤ W2.heap.size := by omega
    have Z2 := Aside0.mk hz2
    clear hx hK2 hB2 h2 h3c h4 h5 f3 e2 e3 e4 e5 l2 l4 l5 hW2 hz2
    go_wp2_with ((with_reducible refine gate_builtin (b := .append) (xs := #[.tmp 23, .tmp 25]) rfl ?_); at_builtin; refine Kd.R_append k61 (w0 := W) base rfl (.tmp 23) (.tmp 25) 47 61 (.agg #[.int .i64 0, .int .i64 0, .int .i64 0, .int .i64 0, .int .i64 0, .int .i64 0, .int .i64 0, .int .i64 0]) 64 rfl Try.underlying47 info_A64 rfl (by decide) (by omega) (.slice A out.length c) out (⟨17, rd, 0, 0, 0, p, shift, 0⟩ : S61) [.int .i64 17, .int .i64 rd, .int .i64 0, .int .i64 0, .int .i64 0, .int .i64 p, .int .i64 shift, .int .i64 0] (fun _ => True) (fun _ => False) rfl (by first | (go_simp; done) | (go_simp; rfl)) ?aP (fun _ hk => hk.elim) (fun _ _ => trivial) ?aO ?aB ?aS ?aL ?_; (case aP => exact k61_mkM _ _ _ (⟨17, rd, 0, 0, 0, p, shift, 0⟩ : S61)); (case aL => omega); (case aS => omega); (case aO => exact R_later HOA.out KI.out); (case aB => exact BE.out); intro v1 w1 ho hb1 hg hat; obtain ⟨A1, c1, hv⟩ : ∃ A1 c1, v1 = .slice A1 (out.length + 1) c1 := (by obtain ⟨A1, c1, hv⟩ := Kd.R_slice ho; exact ⟨A1, c1, by rw [hv]; simp⟩); subst hv; clear hat; have hrow : ∀ k, Value.ownBlock (.slice A out.length c) = some k → base ≤ k := fun k hk => (Kd.R_bound HOA.out).1 k hk |>.2.1; have hk3 : w1.heap[b3]? = some (.cells #[.slice A out.length c] 47 (0, 0)) := (hg.block b3 l3' (fun e => by have := hrow b3 e.symm; omega)).trans ((K2.out b3 l3).trans H3.out); have f3 := blk_free hk3 0; have h3e : w1.cell? ⟨b3, 0, none⟩ = some (.slice A out.length c) := blk_cell hk3 0; have HK3 := Aside0.mk hk3; have HO1 := Aside0.mk ho; have HG := Aside0.mk hg; have HR := Aside0.mk hrow; have HB1 := Aside0.mk hb1; clear ho hg hrow hb1 hk3)
    go_end0
    refine ⟨rfl, .slice A1 (out.length + 1) c1, by simpa using blk_set HK3.out 0 (.slice A1 (out.length + 1) c1), ?_, ?_, ?_, ?_⟩
    · have he : load_item rd fop emp p shift out = (⟨17, rd, 0, 0, 0, p, shift, 0⟩ : S61) := by unfold load_item; rw [if_neg HZ.out]
      rw [he]
      exact R_later HO1.out (fun k hk _ => Below.heap_setCell w1 _ _ k (by show k ≠ b3; omega))
    · have := HG.out.size; have := Z2.out; simp; omega
    · intro k hk hne
      exact (Below.heap_setCell w1 _ _ k (by show k ≠ b3; exact hne)).trans ((HG.out.block k (by omega) (fun e => by have := HR.out k e.symm; omega)).trans (K2.out k (by omega)))
    · intro B w0 hB h0
      exact Below.setCell (p := ⟨b3, 0, none⟩) ((BB.out B w0 h0 (by omega)).grown HG.out (by omega) (fun k hk => by have := HR.out k hk; omega)) hB _

end Go.Proofs.Ytjhgbddcenhkfaa.P
