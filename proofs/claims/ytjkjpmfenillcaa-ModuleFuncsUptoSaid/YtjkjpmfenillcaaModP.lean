import Derived.Test.YtjkjpmfenillcaaCodecA
import Derived.Test.YtjkjpmfenillcaaModA
import Derived.Test.YtjkjpmfenillcaaPF12
import Derived.Test.YtjkjpmfenillcaaInstrPl
/- A module's code tells the module; plain; no statement of the seat. -/
set_option linter.unusedVariables false
set_option linter.unusedSimpArgs false
namespace Go.Proofs.Ytjkjpmfenillcaa.P
open Go.RowKit Go.Proofs.YtjkjpmfenillcaaW.PrintWords Go.Proofs.YtjkjpmfenillcaaW.PrintLast Go.Proofs.YtjkjpmfenillcaaW.PrintMore
/-- What was written is this code, and such things alone are written. -/
def InvS {α : Type} (S : List Int × Int → α → List Int × Int) (ok : α → Prop) (code : α → List Int) : Prop := ∀ s x bs, S s x = (bs, 0) → s.2 = 0 ∧ ok x ∧ bs = s.1 ++ code x
/-- This code is read. -/
def GetS {α : Type} (G : List Int × Bool → α × List Int × Bool) (ok : α → Prop) (code : α → List Int) : Prop := ∀ x r, ok x → G (code x ++ r, false) = (x, r, false)
section
variable {α β : Type} {S : List Int × Int → α → List Int × Int} {SB : List Int × Int → β → List Int × Int} {G : List Int × Bool → α × List Int × Bool} {GB : List Int × Bool → β × List Int × Bool} {ok : α → Prop} {okb : β → Prop} {c : α → List Int} {d : β → List Int}
theorem inv_both (hA : InvS S ok c) (hB : InvS SB okb d) : InvS (bothS2 S SB) (fun x => ok x.1 ∧ okb x.2) (fun x => c x.1 ++ d x.2) := by
  intro s x bs h
  obtain ⟨h1, h2, h3⟩ := hB (S s x.1) x.2 bs h
  obtain ⟨h4, h5, h6⟩ := hA s x.1 (S s x.1).1 (Prod.ext rfl h1)
  exact ⟨h4, ⟨h5, h2⟩, by rw [h3, h6, List.append_assoc]⟩
theorem get_both (hA : GetS G ok c) (hB : GetS GB okb d) : GetS (bothG2 G GB) (fun x => ok x.1 ∧ okb x.2) (fun x => c x.1 ++ d x.2) := by
  intro x r h
  unfold bothG2
  rw [List.append_assoc, hA x.1 _ h.1]
  dsimp only
  rw [hB x.2 r h.2]
theorem inv_go (h : InvS S ok c) : ∀ (l : List α) (s : List Int × Int) (bs : List Int), manyGo S l s = (bs, 0) → s.2 = 0 ∧ (∀ x ∈ l, ok x) ∧ bs = s.1 ++ l.flatMap c
  | [], s, bs, e => by
    have e : s = (bs, 0) := e
    rw [e]
    exact ⟨rfl, fun x hx => by simp at hx, by simp⟩
  | x :: l, s, bs, e => by
    rw [manyGo] at e
    by_cases hs : s.2 = 0
    · rw [if_pos hs] at e
      obtain ⟨h1, h2, h3⟩ := inv_go h l _ bs e
      obtain ⟨h4, h5, h6⟩ := h s x (S s x).1 (Prod.ext rfl h1)
      refine ⟨hs, fun y hy => ?_, by rw [h3, h6, List.flatMap_cons, List.append_assoc]⟩
      rcases List.mem_cons.mp hy with rfl | hy
      · exact h5
      · exact h2 y hy
    · rw [if_neg hs] at e
      rw [e] at hs
      exact absurd rfl hs
theorem inv_many (h : InvS S ok c) : InvS (manyS S) (fun l => l.length ≤ 4096 ∧ ∀ x ∈ l, ok x) (fun l => leB (l.length : Int) 2 ++ l.flatMap c) := by
  intro s l bs e
  unfold manyS at e
  obtain ⟨h1, h2, h3⟩ := inv_go h l _ bs e
  obtain ⟨h4, h5, h6⟩ := numS_inv s 2 4096 (l.length : Int) (numS s 2 4096 (l.length : Int)).1 (Prod.ext rfl h1)
  refine ⟨h4, ⟨?_, h2⟩, by rw [h3, h6, List.append_assoc]⟩
  rcases h5 with h5 | h5
  · cases h5
  · omega
theorem get_in (h : GetS G ok c) : ∀ (l acc : List α) (r : List Int), (∀ x ∈ l, ok x) → manyIn G l.length acc (l.flatMap c ++ r, false) = (acc ++ l, r, false)
  | [], acc, r, _ => by simp [manyIn]
  | x :: l, acc, r, hl => by
    rw [List.length_cons, manyIn, if_neg (by simp), List.flatMap_cons, List.append_assoc, h x _ (hl x (by simp))]
    dsimp only
    rw [get_in h l _ r (fun y hy => hl y (by simp [hy])), List.append_assoc]
    rfl
theorem get_many (h : GetS G ok c) : GetS (manyR G) (fun l => l.length ≤ 4096 ∧ ∀ x ∈ l, ok x) (fun l => leB (l.length : Int) 2 ++ l.flatMap c) := by
  intro l r hl
  have hle := hl.1
  have hn := low_leB (l.length : Int) 2 4096 (.inr (.inr (.inr (.inl ⟨rfl, rfl⟩)))) ⟨by omega, by omega⟩ (.inr ⟨by omega, by omega⟩) (l.flatMap c ++ r)
  unfold manyR
  rw [List.append_assoc, show lowI (leB (l.length : Int) 2 ++ (l.flatMap c ++ r), false) 2 4096 = _ from hn]
  dsimp only
  rw [Int.toNat_natCast, get_in h l [] r hl.2]
  rfl
end
theorem inv_byte : InvS byteS (fun x => okN 1 255 x) (fun x => leB x 1) := fun s x bs h => numS_inv s 1 255 x bs h
theorem get_byte : GetS byteG (fun x => okN 1 255 x) (fun x => leB x 1) := by
  intro x r h
  have hx : i64 x := by
    rcases h with h | h
    · cases h
    · exact ⟨by omega, by omega⟩
  exact low_leB x 1 255 (.inl ⟨rfl, rfl⟩) hx h r
theorem inv_int : InvS intS (fun _ => True) (fun x => leB x 8) := fun s x bs h => ⟨(numS_inv s 8 0 x bs h).1, trivial, (numS_inv s 8 0 x bs h).2.2⟩
theorem get_int : GetS intG i64 (fun x => leB x 8) := fun x r h => low_leB x 8 0 (.inr (.inr (.inr (.inr (.inl ⟨rfl, rfl⟩))))) h (.inl rfl) r
theorem inv_blob : InvS blobS (fun b => b.length ≤ 65536) (fun b => leB (b.length : Int) 4 ++ b) := fun s x bs h => blobS_inv s x bs h
theorem get_blob : GetS blobG (fun b => b.length ≤ 65536) (fun b => leB (b.length : Int) 4 ++ b) := by
  intro b r h
  rw [List.append_assoc]
  exact blobG_is b r h
theorem inv_fix : InvS (fixS 4) (fun b => b.length = 4) (fun b => b) := by
  intro s x bs h
  unfold fixS at h
  obtain ⟨h1, h2⟩ := putS_inv _ _ _ h
  split at h1
  · cases h1
  · rename_i hc
    rw [if_neg hc] at h2
    refine ⟨h1, ?_, h2⟩
    by_cases e : (x.length : Int) ≠ 4
    · exact absurd ⟨h1, .inr e⟩ hc
    · omega
theorem get_fix : GetS (fixG 4) (fun b => b.length = 4) (fun b => b) := by
  intro b r h
  unfold fixG
  have := takeS_app b r
  rw [h] at this
  exact this
def codeF (x : Fn3) : List Int := (leB x.1.1 1 ++ leB x.1.2 1) ++ (leB (x.2.length : Int) 4 ++ x.2)
def codeL (l : List Int) : List Int := leB (l.length : Int) 2 ++ l.flatMap fun x => leB x 8
def codeFs (l : List Fn3) : List Int := leB (l.length : Int) 2 ++ l.flatMap codeF
def codeW (x : Whole) : List Int := x.1 ++ (codeL x.2.1 ++ codeFs x.2.2)
def okF (x : Fn3) : Prop := (okN 1 255 x.1.1 ∧ okN 1 255 x.1.2) ∧ x.2.length ≤ 65536
theorem inv_fn : InvS fnS okF codeF := inv_both (inv_both inv_byte inv_byte) inv_blob
theorem get_fn : GetS fnG okF codeF := get_both (get_both get_byte get_byte) get_blob
def okW (x : Whole) : Prop := x.1.length = 4 ∧ (x.2.1.length ≤ 4096 ∧ ∀ y ∈ x.2.1, True) ∧ (x.2.2.length ≤ 4096 ∧ ∀ y ∈ x.2.2, okF y)
theorem inv_whole : InvS wholeS okW codeW := inv_both inv_fix (inv_both (inv_many inv_int) (inv_many inv_fn))
theorem get_whole : GetS wholeG (fun x => x.1.length = 4 ∧ (x.2.1.length ≤ 4096 ∧ ∀ y ∈ x.2.1, i64 y) ∧ (x.2.2.length ≤ 4096 ∧ ∀ y ∈ x.2.2, okF y)) codeW := get_both get_fix (get_both (get_many get_int) (get_many get_fn))
theorem whole_inj (x y : Whole) (bs : List Int) (hx : wholeS ([], 0) x = (bs, 0)) (hy : wholeS ([], 0) y = (bs, 0)) (ix : ∀ v ∈ x.2.1, i64 v) (iy : ∀ v ∈ y.2.1, i64 v) : x = y := by
  obtain ⟨_, ⟨a1, ⟨a2, _⟩, a3⟩, e1⟩ := inv_whole _ _ _ hx
  obtain ⟨_, ⟨b1, ⟨b2, _⟩, b3⟩, e2⟩ := inv_whole _ _ _ hy
  have g1 := get_whole x [] ⟨a1, ⟨a2, ix⟩, a3⟩
  have g2 := get_whole y [] ⟨b1, ⟨b2, iy⟩, b3⟩
  rw [List.nil_append] at e1 e2
  rw [← e1] at g1
  rw [← e2] at g2
  rw [g1] at g2
  exact (Prod.mk.inj g2).1
theorem encR_zero {s : List Int × Int} {bs : List Int} (h : encR s = (bs, 0)) : s = (bs, 0) := by
  unfold encR at h
  by_cases c : s.2 = 0
  · rw [if_pos c] at h
    exact Prod.ext (Prod.mk.inj h).1 c
  · rw [if_neg c] at h
    exact absurd (Prod.mk.inj h).2 c
theorem fn3_inj (x y : FnS) (h : fn3 x = fn3 y) : x = y := by
  obtain ⟨a, b, c⟩ := x
  obtain ⟨d, e, f⟩ := y
  simp only [fn3, Prod.mk.injEq] at h
  obtain ⟨⟨rfl, rfl⟩, rfl⟩ := h
  rfl
theorem map3_inj : ∀ (l m : List FnS), l.map fn3 = m.map fn3 → l = m
  | [], [], _ => rfl
  | [], _ :: _, h => by simp at h
  | _ :: _, [], h => by simp at h
  | x :: l, y :: m, h => by
    simp only [List.map_cons, List.cons.injEq] at h
    rw [fn3_inj x y h.1, map3_inj l m h.2]
/-- Two modules of the same code are the same. -/
theorem encM_inj (l0 m0 : List Int) (l1 m1 : List FnS) (bs : List Int) (hl : encM l0 l1 = (bs, 0)) (hm : encM m0 m1 = (bs, 0)) (il : ∀ v ∈ l0, i64 v) (im : ∀ v ∈ m0, i64 v) : l0 = m0 ∧ l1 = m1 := by
  unfold encM at hl hm
  split at hl
  · split at hm
    · have h := whole_inj _ _ bs (encR_zero hl) (encR_zero hm) il im
      simp only [Prod.mk.injEq, true_and] at h
      exact ⟨h.1, map3_inj _ _ h.2⟩
    · cases hm
  · cases hl
end Go.Proofs.Ytjkjpmfenillcaa.P
/- Whether two modules are the same, by the reference and by their codes; plain; no statement of the seat. -/
set_option linter.unusedVariables false
set_option linter.unusedSimpArgs false
namespace Go.Proofs.Ytjkjpmfenillcaa.P
open Go.RowKit Go.Proofs.YtjkjpmfenillcaaW.PrintWords Go.Proofs.YtjkjpmfenillcaaW.PrintLast Go.Proofs.YtjkjpmfenillcaaW.PrintMore
theorem rdf_get (l : List FnS) (i : Nat) (h : i < l.length) : rd_T41 l (i : Int) = l[i] := by
  unfold rd_T41
  rw [Int.toNat_natCast, List.getD_eq_getElem?_getD, List.getElem?_eq_getElem h]
  rfl
theorem rsame_l1 (l0 m0 : List Int) (l1 m1 : List FnS) (hl : l1.length = m1.length) (hm : l1.length ≤ 4611686018427387904) : ∀ (d i k : Nat), i + d = l1.length → pianolaref06_Same.l1 (k + 1 + d) (i : Int) l0 l1 m0 m1 = some (eqFs (l1.drop i) (m1.drop i))
  | 0, i, k, h => by
    rw [Nat.add_zero, pianolaref06_Same.l1, if_neg (by omega), List.drop_of_length_le (by omega), List.drop_of_length_le (by omega)]
    rfl
  | d + 1, i, k, h => by
    have hw : wrap64 ((i : Int) + 1) = ((i + 1 : Nat) : Int) := by unfold wrap64; omega
    have h0 : i < l1.length := by omega
    have h1 : i < m1.length := by omega
    rw [show k + 1 + (d + 1) = (k + 1 + d) + 1 by omega, pianolaref06_Same.l1, if_pos (by omega), if_pos (by omega), if_pos (by omega), rdf_get l1 i h0, rdf_get m1 i h1, hw]
    rw [← List.getElem_cons_drop h0, ← List.getElem_cons_drop h1, eqFs]
    unfold fnEq
    by_cases c0 : l1[i].f0 = m1[i].f0
    · by_cases c1 : l1[i].f1 = m1[i].f1
      · by_cases c2 : (strOfNums l1[i].f2).toList = (strOfNums m1[i].f2).toList
        · rw [if_pos c0, if_pos c1, if_pos c2, rsame_l1 l0 m0 l1 m1 hl hm d (i + 1) k (by omega), c0, c1, c2]
          simp
        · rw [if_pos c0, if_pos c1, if_neg c2, beq_eq_false_iff_ne.mpr c2]
          simp
      · rw [if_pos c0, if_neg c1, beq_eq_false_iff_ne.mpr c1]
        simp
    · rw [if_neg c0, beq_eq_false_iff_ne.mpr c0]
      simp
theorem rsame_l0 (l0 m0 : List Int) (l1 m1 : List FnS) (hl0 : l0.length = m0.length) (hm0 : l0.length ≤ 4611686018427387904) (hl : l1.length = m1.length) (hm : l1.length ≤ 4611686018427387904) : ∀ (d i : Nat), i + d = l0.length → pianolaref06_Same.l0 (1 + l1.length + 1 + d) (i : Int) l0 l1 m0 m1 = some ((l0.drop i == m0.drop i) && eqFs l1 m1)
  | 0, i, h => by
    rw [Nat.add_zero, pianolaref06_Same.l0, if_neg (by omega), List.drop_of_length_le (by omega), List.drop_of_length_le (by omega)]
    have := rsame_l1 l0 m0 l1 m1 hl hm l1.length 0 0 (by omega)
    rw [show 0 + 1 + l1.length = 1 + l1.length by omega] at this
    simpa using this
  | d + 1, i, h => by
    have hw : wrap64 ((i : Int) + 1) = ((i + 1 : Nat) : Int) := by unfold wrap64; omega
    have h0 : i < l0.length := by omega
    have h1 : i < m0.length := by omega
    have r0 : rd l0 (i : Int) = l0[i] := by unfold rd; rw [Int.toNat_natCast, List.getD_eq_getElem?_getD, List.getElem?_eq_getElem h0]; rfl
    have r1 : rd m0 (i : Int) = m0[i] := by unfold rd; rw [Int.toNat_natCast, List.getD_eq_getElem?_getD, List.getElem?_eq_getElem h1]; rfl
    rw [show 1 + l1.length + 1 + (d + 1) = (1 + l1.length + 1 + d) + 1 by omega, pianolaref06_Same.l0, if_pos (by omega), if_pos (by omega), if_pos (by omega), r0, r1, hw]
    rw [← List.getElem_cons_drop h0, ← List.getElem_cons_drop h1, List.cons_beq_cons]
    by_cases c : l0[i] = m0[i]
    · rw [if_pos c, rsame_l0 l0 m0 l1 m1 hl0 hm0 hl hm d (i + 1) (by omega), c, beq_self_eq_true, Bool.true_and]
    · rw [if_neg c, beq_eq_false_iff_ne.mpr c, Bool.false_and, Bool.false_and]
theorem rsame_is (l0 m0 : List Int) (l1 m1 : List FnS) (hm0 : l0.length ≤ 4611686018427387904) (hm : l1.length ≤ 4611686018427387904) : ∃ k, pianolaref06_Same.f k l0 l1 m0 m1 = some ((l0 == m0) && eqFs l1 m1) := by
  refine ⟨1 + l1.length + 1 + l0.length + 1, ?_⟩
  unfold pianolaref06_Same.f
  by_cases c0 : l0.length = m0.length
  · rw [if_pos (by omega), pianolaref06_Same.j0]
    by_cases c1 : l1.length = m1.length
    · rw [show ((l1.length : Int) != (m1.length : Int)) = false by simp [c1], if_neg (by decide)]
      have := rsame_l0 l0 m0 l1 m1 c0 hm0 c1 hm l0.length 0 (by omega)
      simpa using this
    · rw [show ((l1.length : Int) != (m1.length : Int)) = true by simp; omega, if_pos rfl, eqFs_len l1 m1 c1, Bool.and_false]
  · rw [if_neg (by omega), pianolaref06_Same.j0, if_pos rfl, show (l0 == m0) = false by rw [beq_eq_false_iff_ne]; intro e; exact c0 (by rw [e]), Bool.false_and]
theorem fnEq_refl (x : FnS) : fnEq x x = true := by unfold fnEq; simp
theorem eqFs_refl : ∀ l : List FnS, eqFs l l = true
  | [] => rfl
  | x :: l => by rw [eqFs, fnEq_refl, eqFs_refl l]; rfl
theorem fnEq_eq (x y : FnS) (hx : okB x.f2) (hy : okB y.f2) (h : fnEq x y = true) : x = y := by
  unfold fnEq at h
  rw [Bool.and_eq_true, Bool.and_eq_true] at h
  obtain ⟨h0, h1, h2⟩ := h
  obtain ⟨a, b, c⟩ := x
  obtain ⟨d, e, f⟩ := y
  have e0 : a = d := by simpa using h0
  have e1 : b = e := by simpa using h1
  subst e0
  subst e1
  by_cases q : c = f
  · rw [q]
  · have := strOf_ne hx hy q
    rw [this] at h2
    cases h2
theorem eqFs_eq : ∀ (l m : List FnS), (∀ x ∈ l, okB x.f2) → (∀ x ∈ m, okB x.f2) → eqFs l m = true → l = m
  | [], [], _, _, _ => rfl
  | [], _ :: _, _, _, h => by cases h
  | _ :: _, [], _, _, h => by cases h
  | x :: l, y :: m, hx, hy, h => by
    rw [eqFs, Bool.and_eq_true] at h
    rw [fnEq_eq x y (hx x (by simp)) (hy y (by simp)) h.1, eqFs_eq l m (fun z hz => hx z (by simp [hz])) (fun z hz => hy z (by simp [hz])) h.2]
theorem ok_app {a b : List Int} (ha : okB a) (hb : okB b) : okB (a ++ b) := fun x hx => (List.mem_append.mp hx).elim (ha x) (hb x)
theorem ok_flat {α : Type} {l : List α} {c : α → List Int} (h : ∀ x ∈ l, okB (c x)) : okB (l.flatMap c) := fun v hv => by
  obtain ⟨x, hx, hv⟩ := List.mem_flatMap.mp hv
  exact h x hx v hv
theorem codeW_ok (x : Whole) (h0 : okB x.1) (h2 : ∀ y ∈ x.2.2, okB y.2) : okB (codeW x) :=
  ok_app h0 (ok_app (ok_app (leB_ok _ _) (ok_flat fun _ _ => leB_ok _ _)) (ok_app (leB_ok _ _) (ok_flat fun y hy => ok_app (ok_app (leB_ok _ _) (leB_ok _ _)) (ok_app (leB_ok _ _) (h2 y hy)))))
theorem magic_ok : okB magicB := by unfold magicB okB; decide
theorem encM_ok (l0 : List Int) (l1 : List FnS) (bs : List Int) (h : encM l0 l1 = (bs, 0)) (hb : ∀ x ∈ l1, okB x.f2) : okB bs := by
  unfold encM at h
  split at h
  · obtain ⟨_, _, e⟩ := inv_whole _ _ _ (encR_zero h)
    rw [e, List.nil_append]
    refine codeW_ok _ magic_ok (fun y hy => ?_)
    obtain ⟨z, hz, rfl⟩ := List.mem_map.mp hy
    exact hb z hz
  · cases h
def okMod (l0 : List Int) (l1 : List FnS) : Bool := okInts l0 && decide (l0.length ≤ 1000000000000000) && decide (l1.length ≤ 1000000000000000) && l1.all (fun x => x.f2.all fun v => decide (0 ≤ v) && decide (v < 256))
theorem u8_wf {v : Int} (h : (Lit.int .u8 v).wf = true) : 0 ≤ v ∧ v < 256 := by
  simp [Lit.wf] at h
  have e1 : IntKind.u8.min = 0 := by kernel_rfl
  have e2 : IntKind.u8.max = 255 := by kernel_rfl
  omega
theorem okMod_of (l0 : List Int) (l1 : List FnS) (h0 : ∀ y ∈ l0, (Lit.int .i64 y).wf = true) (g0 : l0.length * 8 ≤ reachBytes) (h1 : ∀ y ∈ l1, ∀ z ∈ y.f2, (Lit.int .u8 z).wf = true) (g1 : l1.length * 40 ≤ reachBytes) : okMod l0 l1 = true := by
  unfold reachBytes at g0 g1
  unfold okMod
  rw [Bool.and_eq_true, Bool.and_eq_true, Bool.and_eq_true, decide_eq_true_eq, decide_eq_true_eq, List.all_eq_true]
  refine ⟨⟨⟨?_, by omega⟩, by omega⟩, fun x hx => List.all_eq_true.mpr fun v hv => ?_⟩
  · exact okInts_of l0 h0
  · have := u8_wf (h1 x hx v hv)
    rw [Bool.and_eq_true, decide_eq_true_eq, decide_eq_true_eq]
    exact this
theorem okMod_is {l0 : List Int} {l1 : List FnS} (h : okMod l0 l1 = true) : (∀ v ∈ l0, i64 v) ∧ l0.length ≤ 1000000000000000 ∧ l1.length ≤ 1000000000000000 ∧ ∀ x ∈ l1, okB x.f2 := by
  unfold okMod at h
  rw [Bool.and_eq_true, Bool.and_eq_true, Bool.and_eq_true, decide_eq_true_eq, decide_eq_true_eq, List.all_eq_true] at h
  obtain ⟨⟨⟨h1, h2⟩, h3⟩, h4⟩ := h
  refine ⟨okInts_is h1, h2, h3, fun x hx v hv => ?_⟩
  have h5 := List.all_eq_true.mp (h4 x hx) v hv
  rw [Bool.and_eq_true, decide_eq_true_eq, decide_eq_true_eq] at h5
  exact h5
/-- Codes are the same as texts just if the modules are. -/
theorem codes_same (l0 m0 : List Int) (l1 m1 : List FnS) (xs ys : List Int) (hx : encM l0 l1 = (xs, 0)) (hy : encM m0 m1 = (ys, 0)) (hl : okMod l0 l1 = true) (hm : okMod m0 m1 = true) : ((strOfNums xs).toList == (strOfNums ys).toList) = ((l0 == m0) && eqFs l1 m1) := by
  have L := okMod_is hl
  have M := okMod_is hm
  by_cases e : xs = ys
  · subst e
    obtain ⟨rfl, rfl⟩ := encM_inj l0 m0 l1 m1 xs hx hy L.1 M.1
    rw [eqFs_refl]
    simp
  · rw [strOf_ne (encM_ok l0 l1 xs hx L.2.2.2) (encM_ok m0 m1 ys hy M.2.2.2) e]
    symm
    rw [Bool.and_eq_false_iff]
    by_cases q : l0 = m0
    · right
      by_cases z : eqFs l1 m1 = true
      · have := eqFs_eq l1 m1 L.2.2.2 M.2.2.2 z
        subst q this
        rw [hx] at hy
        exact absurd (Prod.mk.inj hy).1 e
      · simpa using z
    · left
      rw [beq_eq_false_iff_ne]
      exact q
end Go.Proofs.Ytjkjpmfenillcaa.P
/- module.Code in all cases, by the plain answer; no statement of the seat. -/
set_option linter.unusedVariables false
set_option linter.unusedSimpArgs false
namespace Go.Proofs.Ytjkjpmfenillcaa.P
open Go.RowKit Go.Proofs.YtjkjpmfenillcaaW.PrintWords Go.Proofs.YtjkjpmfenillcaaW.PrintLast Go.Proofs.YtjkjpmfenillcaaW.PrintMore
set_option maxRecDepth 100000 in
set_option maxHeartbeats 4000000 in
theorem mcode_none (A0 : Option Addr) (c0 : Nat) (l0 : List Int) (A1 : Option Addr) (c1 : Nat) (l1 : List FnS) (f : Int) (hf : f < 0 ∨ f ≥ (l1.length : Int)) (w : World) (hmx : l1.length ≤ 9223372036854775807) :
    Calls Try.prog 15 #[.agg #[.slice A0 l0.length c0, .slice A1 l1.length c1], .int .i64 f] w fun e w' => e = .returned (.tuple #[.slice none 0 0, .slice none 0 0, .int .i64 4]) ∧ Below w.heap.size w w' := by
  go_enter Try.func15, Try.ntmps15
  go_upto_region 1 with (fail)
  by_cases c : f < 0
  · go_wp2_with fail
    go_ret3
    exact ⟨rfl, below_alloc (Below.refl _ _) _⟩
  · have d : f ≥ (l1.length : Int) := hf.resolve_left c
    clear hf
    go_wp2_with fail
    go_ret3
    exact ⟨rfl, below_alloc (Below.refl _ _) _⟩
set_option maxRecDepth 100000 in
set_option maxHeartbeats 4000000 in
theorem mcode_bad (A0 : Option Addr) (c0 : Nat) (l0 : List Int) (A1 : Option Addr) (c1 : Nat) (l1 : List FnS) (f : Nat) (hf : f < l1.length) (x : FnS) (hx : l1[f] = x) (r1 : List InS) (e r3 : Int) (he : e ≠ 0) (w : World) (h1 : Kd.C k41 w A1 l1.length l1) (hd : instr_Decode.f x.f2 = some (r1, e, r3)) :
    Calls Try.prog 15 #[.agg #[.slice A0 l0.length c0, .slice A1 l1.length c1], .int .i64 f] w fun r w' => r = .returned (.tuple #[.slice none 0 0, .slice none 0 0, .int .i64 e]) ∧ Below w.heap.size w w' := by
  have hmx := Kd.C_max h1
  obtain ⟨ad, A2, c2, rfl, a1, a2, a3, hl2, hC2⟩ := at_T41 h1 (f : Int) (by omega) (by omega)
  have hxx : rd_T41 l1 (f : Int) = x := by
    unfold rd_T41
    rw [Int.toNat_natCast, List.getD_eq_getElem?_getD, List.getElem?_eq_getElem hf, Option.getD_some, hx]
  rw [hxx] at a1 a2 a3 hl2 hC2
  simp only [Int.toNat_natCast] at a1 a2 a3
  have HC2 := Aside0.mk hC2
  have HL2 := Aside0.mk hl2
  have HD := Aside0.mk hd
  have a3' : ∀ o, (w.alloc o).cell? ⟨(ad.add (f * 3)).block, (ad.add (f * 3)).off + 2, none⟩ = some (.slice A2 x.f2.length c2) := fun o => pw_cell_below (below_alloc (Below.refl _ _) _) a3
  have hfi : (f : Int) < (l1.length : Int) := by omega
  have hf0 : decide ((f : Int) < 0) = false := by simp
  have hen : (e != 0) = true := by simpa using he
  clear hC2 hl2 hd h1 a1 a2 a3 hx hxx he
  go_enter Try.func15, Try.ntmps15
  go_wp2_with fail
  refine (instr_Decode.calls A2 c2 x.f2 r1 e r3 _ (Kd.C_alloc HC2.out _) HL2.out HD.out).mono ?_
  rintro e w2 ⟨v0, rfl, hR, hb2⟩
  have HB2 := Aside0.mk (below_step (below_alloc (Below.refl _ _) _) hb2)
  clear hR hb2 a3'
  go_wp2_with fail
  go_ret3
  exact ⟨rfl, HB2.out⟩
/-- What Code answers. -/
def codeM (l1 : List FnS) (f : Int) : List InS × List Int × Int :=
  if f < 0 ∨ f ≥ (l1.length : Int) then ([], [], 4) else
  if (Pl.decR (rd_T41 l1 f).f2).2.1 ≠ 0 then ([], [], (Pl.decR (rd_T41 l1 f).f2).2.1) else ((Pl.decR (rd_T41 l1 f).f2).1, (Pl.gone (rd_T41 l1 f).f2 ((rd_T41 l1 f).f2.length + 1) 0).1.map (·.1), 0)
theorem decR_len {b : List Int} (h : (Pl.decR b).2.1 = 0) : b.length ≤ 4096 ∧ (Pl.gone b (b.length + 1) 0).2 ≥ b.length ∧ (Pl.decR b).1 = (Pl.gone b (b.length + 1) 0).1.map (·.2) := by
  unfold Pl.decR at h ⊢
  split at h
  · cases h
  · rename_i c
    split at h
    · cases h
    · rename_i d
      rw [if_neg c, if_neg d]
      exact ⟨by omega, by omega, rfl⟩
theorem mcode_run (A0 : Option Addr) (c0 : Nat) (l0 : List Int) (A1 : Option Addr) (c1 : Nat) (l1 : List FnS) (f : Int) (w : World) (h1 : Kd.C k41 w A1 l1.length l1) (hb : ∀ x ∈ l1, okB x.f2) :
    Calls Try.prog 15 #[.agg #[.slice A0 l0.length c0, .slice A1 l1.length c1], .int .i64 f] w fun e w' => ∃ v0 v1 : Value, e = .returned (.tuple #[v0, v1, .int .i64 (codeM l1 f).2.2]) ∧ Kd.R k47 47 w' w.heap.size (fun _ => True) v0 (codeM l1 f).1 ∧ Kd.R (Kd.int .i64) 3 w' w.heap.size (fun _ => True) v1 (codeM l1 f).2.1 ∧ Below w.heap.size w w' := by
  by_cases hf : f < 0 ∨ f ≥ (l1.length : Int)
  · unfold codeM
    rw [if_pos hf]
    refine (mcode_none A0 c0 l0 A1 c1 l1 f hf w (Kd.C_max h1)).mono ?_
    rintro e w' ⟨rfl, hb'⟩
    exact ⟨_, _, rfl, Kd.R_nil _ _ _ _ _, Kd.R_nil _ _ _ _ _, hb'⟩
  · obtain ⟨n, rfl⟩ : ∃ n : Nat, f = (n : Int) := ⟨f.toNat, by omega⟩
    have hn : n < l1.length := by omega
    have hx := rdf_get l1 n hn
    have hok : okB l1[n].f2 := hb _ (List.getElem_mem hn)
    have hd := Pl.dec_all l1[n].f2 hok
    unfold codeM
    rw [if_neg hf, hx]
    by_cases he : (Pl.decR l1[n].f2).2.1 = 0
    · rw [if_neg (by simpa using he)]
      have hlen := decR_len he
      refine (mcode_ok A0 c0 l0 A1 c1 l1 n hn l1[n] rfl (Pl.decR l1[n].f2).1 (Pl.decR l1[n].f2).2.2 (Pl.gone l1[n].f2 (l1[n].f2.length + 1) 0).1 w h1 ?_ ?_ hlen.1).mono ?_
      · rw [hd, ← he]
      · rw [Pl.gone_more l1[n].f2 hok (l1[n].f2.length + 1) 5000 0 (by omega) (by omega)]
        exact Pl.allF_gone l1[n].f2 hok 5000 0 (by omega)
      · rintro e w' h
        exact h
    · rw [if_pos (by simpa using he)]
      refine (mcode_bad A0 c0 l0 A1 c1 l1 n hn l1[n] rfl (Pl.decR l1[n].f2).1 (Pl.decR l1[n].f2).2.1 (Pl.decR l1[n].f2).2.2 he w h1 hd).mono ?_
      rintro e w' ⟨rfl, hb'⟩
      exact ⟨_, _, rfl, Kd.R_nil _ _ _ _ _, Kd.R_nil _ _ _ _ _, hb'⟩
end Go.Proofs.Ytjkjpmfenillcaa.P
/- Where a function's instructions stand; plain; no statement of the seat. -/

set_option linter.unusedVariables false
set_option linter.unusedSimpArgs false
namespace Go.Proofs.Ytjkjpmfenillcaa.P
open Go.RowKit Go.Proofs.YtjkjpmfenillcaaW.PrintWords Go.Proofs.YtjkjpmfenillcaaW.PrintLast Go.Proofs.YtjkjpmfenillcaaW.PrintMore
theorem gone_placed (b : List Int) (h : okB b) : ∀ n a : Nat, a ≤ b.length → (Pl.gone b n a).1 = Pl.placed a ((Pl.gone b n a).1.map (·.2))
  | 0, a, _ => rfl
  | n + 1, a, ha => by
    rw [Pl.gone]
    by_cases c : a < b.length
    · rw [if_pos c]
      rcases Pl.gone_step b h a c with e | ⟨x, s, e, h1, h2, h3, h4, h5, h6⟩
      · rw [e, if_pos rfl]
        rfl
      · rw [e]
        dsimp only
        rw [if_neg (by omega), List.map_cons, Pl.placed]
        dsimp only
        rw [← h1, Int.toNat_natCast, ← gone_placed b h n (a + s) h4]
    · rw [if_neg c]
      rfl
/-- What is known of the instructions of bytes that are all instructions. -/
structure Stand (b : List Int) (l : List InS) (at_ : List Int) : Prop where
  len : at_.length = l.length
  rd : ∀ k, k < l.length → rd at_ (k : Int) = ((atK l k : Nat) : Int)
  next : ∀ k, k < l.length → atK l (k + 1) = atK l k + (Pl.sz (rd_T47 l (k : Int)).f0).toNat
  fin : atK l l.length = b.length
  le : ∀ k, atK l k ≤ b.length
  max : b.length ≤ 4096
  few : l.length ≤ b.length
theorem stand_of {b : List Int} (h : okB b) (he : (Pl.decR b).2.1 = 0) : Stand b (Pl.decR b).1 ((Pl.gone b (b.length + 1) 0).1.map (·.1)) := by
  obtain ⟨h1, h2, h3⟩ := decR_len he
  have hg := gone_placed b h (b.length + 1) 0 (Nat.zero_le _)
  have hl := Pl.gone_le b h (b.length + 1) 0 (Nat.zero_le _)
  have hc := (Pl.cat_gone b h (b.length + 1) 0 (Nat.zero_le _)).1
  rw [← h3] at hg hc
  have hcat : Pl.cat (Pl.decR b).1 = b := by
    rw [hc, List.drop_zero, List.take_of_length_le (by omega)]
  have hll : (Pl.gone b (b.length + 1) 0).1.length = (Pl.decR b).1.length := by rw [h3, List.length_map]
  refine ⟨by rw [List.length_map, hll], fun k hk => ?_, fun k hk => ?_, by rw [atK_all, hcat], fun k => ?_, h1, by omega⟩
  · have hp := placed_get (Pl.decR b).1 0 k _ (List.getElem?_eq_getElem hk)
    rw [← hg, Nat.zero_add] at hp
    unfold rd
    rw [Int.toNat_natCast, List.getD_eq_getElem?_getD, List.getElem?_map, hp]
    rfl
  · rw [Pl.rd_at _ k hk]
    exact atK_next _ k _ (List.getElem?_eq_getElem hk)
  · have := atK_le (Pl.decR b).1 k
    rw [hcat] at this
    exact this
/-- What Code answers, opened. -/
theorem codeM_cases (l1 : List FnS) (f : Int) (hb : ∀ x ∈ l1, okB x.f2) : ((codeM l1 f).1 = [] ∧ (codeM l1 f).2.1 = [] ∧ (codeM l1 f).2.2 ≠ 0) ∨ ((codeM l1 f).2.2 = 0 ∧ ∃ n : Nat, f = (n : Int) ∧ ∃ hn : n < l1.length, Stand l1[n].f2 (codeM l1 f).1 (codeM l1 f).2.1) := by
  unfold codeM
  by_cases hf : f < 0 ∨ f ≥ (l1.length : Int)
  · rw [if_pos hf]
    exact .inl ⟨rfl, rfl, by decide⟩
  · rw [if_neg hf]
    obtain ⟨n, rfl⟩ : ∃ n : Nat, f = (n : Int) := ⟨f.toNat, by omega⟩
    have hn : n < l1.length := by omega
    rw [rdf_get l1 n hn]
    have hok : okB l1[n].f2 := hb _ (List.getElem_mem hn)
    by_cases he : (Pl.decR l1[n].f2).2.1 = 0
    · rw [if_neg (by simpa using he)]
      exact .inr ⟨rfl, n, rfl, hn, stand_of hok he⟩
    · rw [if_pos (by simpa using he)]
      exact .inl ⟨rfl, rfl, he⟩
end Go.Proofs.Ytjkjpmfenillcaa.P
/- What must come of every program of chapter 06; no statement of the seat. -/
set_option linter.unusedVariables false
set_option linter.unusedSimpArgs false
namespace Go.Proofs.Ytjkjpmfenillcaa.P
open Go.RowKit Go.Proofs.YtjkjpmfenillcaaW.PrintWords Go.Proofs.YtjkjpmfenillcaaW.PrintLast Go.Proofs.YtjkjpmfenillcaaW.PrintMore
def lvF : FnS := ⟨0, 0, [38]⟩
def lvB : List Int := [80, 78, 76, 49, 0, 0, 1, 0, 0, 0, 1, 0, 0, 0, 38]
theorem lv_enc : encM [] [lvF] = (lvB, 0) := by kernel_rfl
theorem lv_dec : decM lvB = ([], [lvF], 0) := by kernel_rfl
theorem lv_same : pianolaref06_Same.f 10 [] [lvF] [] [lvF] = some true := by kernel_rfl
theorem lv_code : instr_Decode.f [38] = some ([⟨38, 0⟩], 0, 1) := by kernel_rfl
theorem lv_all : allF 200 [38] 5000 0 = some [(0, ⟨38, 0⟩)] := by kernel_rfl
theorem lv_ok : okL lvB := ⟨by unfold okB lvB; decide, by decide⟩
set_option maxRecDepth 100000 in
theorem calls_run (A0 : Option Addr) (c0 n0 : Nat) (A1 : Option Addr) (c1 n1 : Nat) (w : World) :
    Calls Try.prog 26 #[.agg #[.slice A0 n0 c0, .slice A1 n1 c1]] w fun e w' => e = .returned (.func (.func 52) #[] #[.pointer (some ⟨w.heap.size, 0, none⟩)]) ∧ w' = w.alloc (.cells #[.slice A0 n0 c0, .slice A1 n1 c1] 27) := by
  go_enter Try.func26, Try.ntmps26
  go_wp2_with fail
  go_ret
  exact ⟨rfl, rfl⟩
theorem C_one8 {w : World} {g : Nat} {v : Int} (h : w.heap[g]? = some (.cells #[.int .u8 v] 5 (0, 0))) : Kd.C (Kd.int .u8) w (some ⟨g, 0, none⟩) [v].length [v] := by
  refine Kd.C_of_reads (d := (0 : Int)) (h1 := fun _ => rfl) ⟨rfl, (show (1 : Nat) ≤ 9223372036854775807 by decide), fun _ => ⟨⟨g, 0, none⟩, rfl, fun j hj => ?_⟩⟩
  have hc := cell_of_row w g j _ _ _ h
  match j, hj with
  | 0, _ => exact hc
theorem C_lvF {w : World} {g g1 : Nat} (h : w.heap[g]? = some (.cells #[.int .i64 0, .int .i64 0, .slice (some ⟨g1, 0, none⟩) 1 1] 41 (0, 0))) (h1 : w.heap[g1]? = some (.cells #[.int .u8 38] 5 (0, 0))) : Kd.C k41 w (some ⟨g, 0, none⟩) [lvF].length [lvF] := by
  refine ⟨rfl, by decide, fun _ => ⟨⟨g, 0, none⟩, rfl, fun j p hp => ?_⟩⟩
  obtain rfl : j = 0 := by
    cases j with
    | zero => rfl
    | succ j => simp at hp
  obtain rfl : lvF = p := Option.some.inj hp
  refine ⟨[.int .i64 0, .int .i64 0, .slice (some ⟨g1, 0, none⟩) 1 1], rfl, k41_mk w lvF (c2 := 1) (Nat.le_refl 1) (C_one8 h1), fun i u hu => ?_⟩
  have hc := cell_of_row w g i _ _ _ h
  match i, hu with
  | 0, hu => exact hc.trans hu
  | 1, hu => exact hc.trans hu
  | 2, hu => exact hc.trans hu
  | i + 3, hu => simp at hu
set_option maxRecDepth 100000 in
set_option maxHeartbeats 4000000 in
theorem lives_run (w : World) : Calls Try.prog 9 #[] w fun e w' => e = .returned (.bool true) ∧ Below w.heap.size w w' := by
  have hnil : ∀ (b : Nat) (W : World), (binOp .neq 59 (.func (.func 52) #[] #[.pointer (some ⟨b, 0, none⟩)]) .nilFunc).run Try.prog W = .ok (.bool true) W := fun _ _ => by kernel_rfl
  go_enter Try.func9, Try.ntmps9
  go_upto_region 2 with (fail)
  obtain ⟨W3, hW3⟩ : ∃ W3, ((w.alloc (.cells #[.int .u8 38] 5)).alloc (.cells #[.int .i64 0, .int .i64 0, .slice (some ⟨w.heap.size, 0, none⟩) 1 1] 41)).alloc (.cells #[.slice none 0 0, .slice (some ⟨w.heap.size + 1, 0, none⟩) 1 1] 27) = W3 := ⟨_, rfl⟩
  have hb3 : Below w.heap.size w W3 := by rw [← hW3]; exact below_alloc (below_alloc (below_alloc (Below.refl _ _) _) _) _
  have g1 : W3.heap[w.heap.size]? = some (.cells #[.int .u8 38] 5 (0, 0)) := by rw [← hW3]; exact blk_alloc (blk_alloc (blk_new w _) _) _
  have g2 : W3.heap[w.heap.size + 1]? = some (.cells #[.int .i64 0, .int .i64 0, .slice (some ⟨w.heap.size, 0, none⟩) 1 1] 41 (0, 0)) := by
    rw [← hW3]
    have h := blk_alloc (blk_new (w.alloc (.cells #[.int .u8 38] 5)) (.cells #[.int .i64 0, .int .i64 0, .slice (some ⟨w.heap.size, 0, none⟩) 1 1] 41)) (.cells #[.slice none 0 0, .slice (some ⟨w.heap.size + 1, 0, none⟩) 1 1] 27)
    rw [World.size_alloc] at h
    exact h
  have g3 : W3.heap[w.heap.size + 1 + 1]? = some (.cells #[.slice none 0 0, .slice (some ⟨w.heap.size + 1, 0, none⟩) 1 1] 27 (0, 0)) := by
    rw [← hW3]
    have h := blk_new ((w.alloc (.cells #[.int .u8 38] 5)).alloc (.cells #[.int .i64 0, .int .i64 0, .slice (some ⟨w.heap.size, 0, none⟩) 1 1] 41)) (.cells #[.slice none 0 0, .slice (some ⟨w.heap.size + 1, 0, none⟩) 1 1] 27)
    rw [World.size_alloc, World.size_alloc] at h
    exact h
  rw [hW3]
  clear hW3
  have HF := Aside0.mk (C_lvF g2 g1)
  have HM3 := Aside0.mk g3
  have HB3 := Aside0.mk hb3
  have m0 := blk_cell g3 0
  have m1 := blk_cell g3 1
  clear g1 g2 hb3
  have henc := menc_run none 0 [] (some ⟨w.heap.size + 1, 0, none⟩) 1 [lvF] W3 (Kd.C_nil _ _) (Nat.le_refl _) HF.out (Nat.le_refl _)
  rw [lv_enc] at henc
  have HENC := Aside0.mk henc
  clear henc g3
  go_wp2_with fail
  refine HENC.out.mono ?_
  rintro r w4 ⟨A', c', rfl, hC4, hl4, hb4⟩
  have hdec := mdec_run A' c' lvB w4 hC4 hl4 lv_ok
  rw [lv_dec] at hdec
  have HDEC := Aside0.mk hdec
  have HB4 := Aside0.mk hb4
  have HM4 := Aside0.mk (blk_below HM3.out hb4)
  clear hdec hb4 hC4 hl4 m0 m1
  go_wp2_with fail
  refine HDEC.out.mono ?_
  rintro r w5 ⟨D0, e0, D1, e1, rfl, ⟨hCa, hla⟩, ⟨hCb, hlb⟩, hb5⟩
  have hm5 := blk_below HM4.out hb5
  have HC5 := Aside0.mk (And.intro hCa (And.intro hla (And.intro hCb hlb)))
  have HB5 := Aside0.mk (below_step HB4.out hb5)
  have m0 : ∀ o, (w5.alloc o).cell? ⟨w.heap.size + 1 + 1, 0, none⟩ = some (.slice none 0 0) := fun o => blk_cell (blk_alloc hm5 o) 0
  have m1 : ∀ o, (w5.alloc o).cell? ⟨w.heap.size + 1 + 1, 1, none⟩ = some (.slice (some ⟨w.heap.size + 1, 0, none⟩) 1 1) := fun o => blk_cell (blk_alloc hm5 o) 1
  have HM5 := Aside0.mk hm5
  clear hCa hla hCb hlb hb5 hm5
  go_wp2_with fail
  obtain ⟨W6, hW6⟩ : ∃ W6, w5.alloc (.cells #[.slice D0 0 e0, .slice D1 1 e1] 27) = W6 := ⟨_, rfl⟩
  have hb6 : Below w5.heap.size w5 W6 := by rw [← hW6]; exact below_alloc (Below.refl _ _) _
  have hx6 : W6.heap[w5.heap.size]? = some (.cells #[.slice D0 0 e0, .slice D1 1 e1] 27 (0, 0)) := by rw [← hW6]; exact blk_new w5 _
  have HCO := Aside0.mk (mcode_ok none 0 [] (some ⟨w.heap.size + 1, 0, none⟩) 1 [lvF] 0 (by decide) lvF rfl [⟨38, 0⟩] 1 [(0, ⟨38, 0⟩)] W6 (Kd.C_below HF.out (below_step HB5.out hb6)) lv_code lv_all (by decide))
  rw [hW6]
  have HM6 := Aside0.mk (blk_below HM5.out hb6)
  have HX6 := Aside0.mk hx6
  have HB6 := Aside0.mk (below_step HB5.out hb6)
  have HB56 := Aside0.mk hb6
  clear hW6 hb6 hx6 m0 m1
  refine HCO.out.mono ?_
  rintro r w7 ⟨v0, v1, rfl, hR0, hR1, hb7⟩
  obtain ⟨Av, cv, rfl⟩ := Kd.R_slice hR0
  obtain ⟨Ap, cp, rfl⟩ := Kd.R_slice hR1
  obtain ⟨ad, hA, l0, l1⟩ := at_T47 (Kd.R_reads' hR0).2.2 0 (by decide) (by decide)
  subst hA
  have l0 : w7.cell? (ad.add 0) = some (.int .i64 38) := l0
  rw [show ad.add 0 = ad by cases ad; rfl] at l0
  have hm7 := blk_below HM6.out hb7
  have hx7 := blk_below HX6.out hb7
  have p70 := blk_cell hm7 0
  have p71 := blk_cell hm7 1
  have q70 := blk_cell hx7 0
  have q71 := blk_cell hx7 1
  have HM7 := Aside0.mk hm7
  have HX7 := Aside0.mk hx7
  have HB7 := Aside0.mk (below_step HB6.out hb7)
  have hlm7 := blk_lt hm7
  have hlx7 := blk_lt hx7
  clear hm7 hx7
  have HB67 := Aside0.mk hb7
  have HCX := Aside0.mk (And.intro (Kd.C_below (Kd.C_below HC5.out.1 HB56.out) hb7) (Kd.C_below (Kd.C_below HC5.out.2.2.1 HB56.out) hb7))
  have HCM := Aside0.mk (Kd.C_below HF.out HB7.out)
  have L0 := Aside0.mk l0
  clear hR0 hR1 hb7 l1
  simp only [List.length_singleton]
  go_wp2_with (first
    | (go_at_call 12; go_loud (refine (pianolaref06_Same.calls 10 D0 e0 [] D1 e1 [lvF] none 0 [] (some ⟨w.heap.size + 1, 0, none⟩) 1 [lvF] true _ HCX.out.1 HC5.out.2.1 HCX.out.2 HC5.out.2.2.2 (Kd.C_nil _ _) (Nat.le_refl _) HCM.out (Nat.le_refl _) lv_same).mono ?_; rintro e w8 ⟨rfl, hb8⟩; have hm8 := blk_below HM7.out hb8; have hx8 := blk_below HX7.out hb8; have p80 := blk_cell hm8 0; have p81 := blk_cell hm8 1; have q80 := blk_cell hx8 0; have q81 := blk_cell hx8 1; have HM8 := Aside0.mk hm8; have HX8 := Aside0.mk hx8; have HB8 := Aside0.mk (below_step HB7.out hb8); have hlm8 := blk_lt hm8; have hlx8 := blk_lt hx8; clear hm8 hx8; have l8 := pw_cell_below hb8 L0.out; have HB78 := Aside0.mk hb8; clear hb8))
    | (go_at_call 14; go_loud (refine (msame_run D0 e0 [] D1 e1 [lvF] none 0 [] (some ⟨w.heap.size + 1, 0, none⟩) 1 [lvF] _ (Kd.C_below HCX.out.1 HB78.out) HC5.out.2.1 (Kd.C_below HCX.out.2 HB78.out) (Kd.C_nil _ _) (Nat.le_refl _) (Kd.C_below HCM.out HB78.out) (by decide)).mono ?_; rintro e w9 ⟨rfl, hb9⟩; have hm9 := blk_below HM8.out hb9; have hx9 := blk_below HX8.out hb9; have p90 := blk_cell hm9 0; have p91 := blk_cell hm9 1; have q90 := blk_cell hx9 0; have q91 := blk_cell hx9 1; have HM9 := Aside0.mk hm9; have HX9 := Aside0.mk hx9; have HB9 := Aside0.mk (below_step HB8.out hb9); have hlm9 := blk_lt hm9; have hlx9 := blk_lt hx9; clear hm9 hx9; have l9 := pw_cell_below hb9 l8; rw [show ((([] : List Int) == []) && eqFs [lvF] [lvF]) = true by kernel_rfl]; clear hb9))
    | (go_at_call 26; go_loud (refine (calls_run none 0 0 (some ⟨w.heap.size + 1, 0, none⟩) 1 1 _).mono ?_; rintro e w10 ⟨rfl, rfl⟩))
    | (go_at_call 21; go_loud (refine (may_run none 0 [] none 0 [] _ (Kd.C_nil _ _) (Kd.C_nil _ _)).mono ?_; rintro e w11 ⟨rfl, hb11⟩; have HB11 := Aside0.mk hb11; rw [show (if mayM [] [] = true then (0 : Int) else 60) = 60 by kernel_rfl]; clear hb11)))
  go_ret
  exact ⟨rfl, below_step (below_step (below_step HB3.out HB9.out) (below_alloc (Below.refl _ _) _)) HB11.out⟩
end Go.Proofs.Ytjkjpmfenillcaa.P
