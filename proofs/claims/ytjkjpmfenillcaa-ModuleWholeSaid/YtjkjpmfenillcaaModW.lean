/- How long a module's code is, and what more or fewer bytes are; plain; no statement of the seat. -/
import Derived.Test.YtjkjpmfenillcaaModP
set_option linter.unusedVariables false
set_option linter.unusedSimpArgs false
namespace Go.Proofs.Ytjkjpmfenillcaa.P
open Go.RowKit Go.Proofs.YtjkjpmfenillcaaW.PrintWords Go.Proofs.YtjkjpmfenillcaaW.PrintLast Go.Proofs.YtjkjpmfenillcaaW.PrintMore
def sumF (l : List FnS) : Nat := (l.map fun x => 6 + x.f2.length).sum
theorem codeFs_len : ∀ l : List FnS, (List.flatMap codeF (l.map fn3)).length = sumF l
  | [] => rfl
  | x :: l => by
    have := codeFs_len l
    unfold sumF at this ⊢
    rw [List.map_cons, List.flatMap_cons, List.length_append, this, List.map_cons, List.sum_cons]
    unfold codeF fn3
    simp only [List.length_append, leB_length]
    omega
theorem flatI_len : ∀ l : List Int, (l.flatMap fun x => leB x 8).length = 8 * l.length
  | [] => rfl
  | x :: l => by
    rw [List.flatMap_cons, List.length_append, leB_length, flatI_len l, List.length_cons]
    omega
theorem enc_parts {l0 : List Int} {l1 : List FnS} {bs : List Int} (h : encM l0 l1 = (bs, 0)) : bs = codeW (magicB, l0, l1.map fn3) ∧ okW (magicB, l0, l1.map fn3) ∧ bs.length ≤ 1048576 := by
  unfold encM at h
  split at h
  · have hz := encR_zero h
    obtain ⟨_, ho, e⟩ := inv_whole _ _ _ hz
    rw [List.nil_append] at e
    refine ⟨e, ho, ?_⟩
    have hs : Short wholeS := short_both (short_fix 4) (short_both (short_many (short_num 8 0)) (short_many (short_both (short_both (short_num 1 255) (short_num 1 255)) short_blob)))
    have := hs ([], 0) (magicB, l0, l1.map fn3) (by simp)
    rw [hz] at this
    exact this
  · cases h
theorem enc_len {l0 : List Int} {l1 : List FnS} {bs : List Int} (h : encM l0 l1 = (bs, 0)) : bs.length = 8 + 8 * l0.length + sumF l1 := by
  rw [(enc_parts h).1]
  unfold codeW codeL codeFs magicB
  simp only [List.length_append, leB_length, codeFs_len, flatI_len]
  simp
  omega
/-- What is read stays so where more bytes follow. -/
def ExtG {α : Type} (G : List Int × Bool → α × List Int × Bool) : Prop := ∀ b d y r t, G (b, d) = (y, r, false) → G (b ++ t, d) = (y, r ++ t, false)
theorem ext_take (n : Int) : ExtG (fun s => takeS s n) := by
  intro b d y r t h
  dsimp only at h ⊢
  unfold takeS at h ⊢
  split at h
  · cases h
  · rename_i hc
    simp only [not_or] at hc
    rw [if_neg (by simp only [List.length_append, not_or]; exact ⟨hc.1, hc.2.1, by have := hc.2.2; omega⟩)]
    simp only [Prod.mk.injEq] at h
    have hn : n.toNat ≤ b.length := by have := hc.2.2; omega
    dsimp only at h ⊢
    rw [List.take_append_of_le_length hn, List.drop_append_of_le_length hn, h.1, h.2.1]
theorem ext_low (n most : Int) : ExtG (fun s => lowI s n most) := by
  intro b d y r t h
  dsimp only at h ⊢
  unfold lowI at h ⊢
  dsimp only at h ⊢
  simp only [Prod.mk.injEq] at h
  obtain ⟨h1, h2, h3⟩ := h
  rw [Bool.or_eq_false_iff] at h3
  have e : takeS (b, d) n = ((takeS (b, d) n).1, r, false) := Prod.ext rfl (Prod.ext h2 h3.1)
  rw [show takeS (b ++ t, d) n = _ from ext_take n b d _ r t e]
  rw [if_neg (by rw [h3.1, h3.2]; simp)] at h1
  rw [if_neg (by dsimp only; rw [h3.2]; simp), h1]
  dsimp only
  have h4 := h3.2
  rw [h1] at h4
  rw [h4]
  rfl
theorem ext_fix (n : Int) : ExtG (fixG n) := by
  intro b d y r t h
  unfold fixG at h ⊢
  exact ext_take n b _ y r t h
section
variable {α β : Type} {G : List Int × Bool → α × List Int × Bool} {GB : List Int × Bool → β × List Int × Bool}
/-- Whoever has failed goes on to fail. -/
def BadG (G : List Int × Bool → α × List Int × Bool) : Prop := ∀ b, (G (b, true)).2.2 = true
theorem bad_of (hB : BadG G) {b : List Int} {d : Bool} (h : (G (b, d)).2.2 = false) : d = false := by
  cases d with
  | false => rfl
  | true => rw [hB b] at h; cases h
theorem ext_seq {γ : Type} {r0 : α × List Int × Bool} (hA : ExtG G) (hB : ExtG GB) (hbad : BadG GB) {b : List Int} {d : Bool} {y : β} {r t : List Int} (h : GB (G (b, d)).2 = (y, r, false)) : G (b ++ t, d) = ((G (b, d)).1, (G (b, d)).2.1 ++ t, false) ∧ GB ((G (b, d)).2.1 ++ t, false) = (y, r ++ t, false) := by
  have hd : (G (b, d)).2.2 = false := bad_of hbad (b := (G (b, d)).2.1) (by rw [show ((G (b, d)).2.1, (G (b, d)).2.2) = (G (b, d)).2 from rfl, h])
  have e : G (b, d) = ((G (b, d)).1, (G (b, d)).2.1, false) := Prod.ext rfl (Prod.ext rfl hd)
  refine ⟨hA b d _ _ t e, hB _ _ _ _ _ ?_⟩
  rw [← h]
  congr 1
  exact Prod.ext rfl hd.symm
theorem ext_both (hA : ExtG G) (hB : ExtG GB) (hbad : BadG GB) : ExtG (bothG2 G GB) := by
  intro b d y r t h
  unfold bothG2 at h ⊢
  obtain ⟨y1, y2⟩ := y
  simp only [Prod.mk.injEq] at h
  obtain ⟨⟨h1, h2⟩, h3⟩ := h
  have e : GB (G (b, d)).2 = (y2, r, false) := Prod.ext h2 h3
  obtain ⟨e1, e2⟩ := ext_seq (γ := α) (r0 := (G (b, d))) hA hB hbad (t := t) e
  rw [e1]
  dsimp only
  rw [e2, h1]
theorem bad_both (hbad : BadG GB) (hA : BadG G) : BadG (bothG2 G GB) := by
  intro b
  unfold bothG2
  dsimp only
  have h := hA b
  rw [show (G (b, true)).2 = ((G (b, true)).2.1, true) from Prod.ext rfl h]
  exact hbad _
theorem bad_in : ∀ (n : Nat) (acc : List α) (b : List Int), (manyIn G n acc (b, true)).2.2 = true
  | 0, _, _ => rfl
  | n + 1, acc, b => by rw [manyIn, if_pos rfl]
theorem ext_in (hA : ExtG G) : ∀ (n : Nat) (acc : List α), ExtG (manyIn G n acc)
  | 0, acc => by
    intro b d y r t h
    rw [manyIn] at h ⊢
    simp only [Prod.mk.injEq] at h
    rw [h.1, h.2.1, h.2.2]
  | n + 1, acc => by
    intro b d y r t h
    rw [manyIn] at h ⊢
    split at h
    · rename_i c
      dsimp only at c
      subst c
      simp only [Prod.mk.injEq] at h
      exact absurd h.2.2 (by simp)
    · rename_i c
      rw [if_neg c]
      obtain ⟨e1, e2⟩ := ext_seq (γ := α) (r0 := (G (b, d))) hA (ext_in hA n (acc ++ [(G (b, d)).1])) (bad_in n _) (t := t) h
      rw [e1]
      exact e2
theorem ext_many (hA : ExtG G) : ExtG (manyR G) := by
  intro b d y r t h
  unfold manyR at h ⊢
  obtain ⟨e1, e2⟩ := ext_seq (γ := Int) (r0 := lowI (b, d) 2 4096) (ext_low 2 4096) (ext_in hA (lowI (b, d) 2 4096).1.toNat []) (bad_in _ _) (t := t) h
  have e1 : lowI (b ++ t, d) 2 4096 = _ := e1
  rw [e1]
  exact e2
theorem bad_many : BadG (manyR G) := by
  intro b
  unfold manyR
  have h : (lowI (b, true) 2 4096).2.2 = true := by
    unfold lowI takeS
    simp
  rw [show (lowI (b, true) 2 4096).2 = ((lowI (b, true) 2 4096).2.1, true) from Prod.ext rfl h]
  exact bad_in _ _ _
end
theorem bad_low (n most : Int) : BadG (fun s => lowI s n most) := by
  intro b
  dsimp only
  unfold lowI takeS
  simp
theorem bad_blob : BadG blobG := by
  intro b
  unfold blobG takeS
  have h := bad_low 4 65536 b
  dsimp only at h
  rw [h]
  simp
theorem ext_blob : ExtG blobG := by
  intro b d y r t h
  have hd : (lowI (b, d) 4 65536).2.2 = false := by
    by_cases c : (lowI (b, d) 4 65536).2.2 = false
    · exact c
    · unfold blobG takeS at h
      rw [if_pos (.inl (by simpa using c))] at h
      cases h
  have e : lowI (b, d) 4 65536 = ((lowI (b, d) 4 65536).1, (lowI (b, d) 4 65536).2.1, false) := Prod.ext rfl (Prod.ext rfl hd)
  unfold blobG at h ⊢
  rw [show lowI (b ++ t, d) 4 65536 = _ from ext_low 4 65536 b d _ _ t e]
  dsimp only
  refine ext_take _ _ _ _ _ _ ?_
  dsimp only
  rw [← h]
  congr 1
  exact Prod.ext rfl hd.symm
theorem ext_fn : ExtG fnG := ext_both (ext_both (ext_low 1 255) (ext_low 1 255) (bad_low 1 255)) ext_blob bad_blob
theorem ext_whole : ExtG wholeG := ext_both (ext_fix 4) (ext_both (ext_many (ext_low 8 0)) (ext_many ext_fn) bad_many) (bad_both bad_many bad_many)
theorem decR_bad {α : Type} {G : List Int × Bool → α × List Int × Bool} {z : α} {b : List Int} (h : ¬ ((G (b, false)).2.2 = false ∧ (G (b, false)).2.1 = [])) : (decR G z b).2 ≠ 0 := by
  unfold decR fstR
  by_cases c : ((G (b, false)).2.2 || decide ((b.length : Int) - ((G (b, false)).2.1.length : Int) > 1048576)) = true
  · rw [if_pos c]
    show (if ((10 : Int) ≠ 0) then (z, (10 : Int)) else _).2 ≠ 0
    rw [if_pos (by omega)]
    show (10 : Int) ≠ 0
    omega
  · rw [if_neg c]
    dsimp only
    rw [if_neg (by omega)]
    rw [Bool.not_eq_true, Bool.or_eq_false_iff] at c
    have hl : (G (b, false)).2.1.length ≠ 0 := fun e => h ⟨c.1, List.length_eq_zero_iff.mp e⟩
    rw [if_pos (by omega)]
    show (10 : Int) ≠ 0
    omega
theorem decM_bad {b : List Int} (h : ¬ ((wholeG (b, false)).2.2 = false ∧ (wholeG (b, false)).2.1 = [])) : (decM b).2.2 = 10 := by
  unfold decM
  dsimp only
  rw [if_neg (fun c => decR_bad h c.1)]
theorem whole_back {l0 : List Int} {l1 : List FnS} {bs : List Int} (h : encM l0 l1 = (bs, 0)) (hi : ∀ v ∈ l0, i64 v) (r : List Int) : wholeG (bs ++ r, false) = ((magicB, l0, l1.map fn3), r, false) := by
  obtain ⟨e, ho, _⟩ := enc_parts h
  rw [e]
  exact get_whole _ r ⟨ho.1, ⟨ho.2.1.1, hi⟩, ho.2.2⟩
/-- More bytes than a code are none. -/
theorem decM_more {l0 : List Int} {l1 : List FnS} {bs : List Int} (h : encM l0 l1 = (bs, 0)) (hi : ∀ v ∈ l0, i64 v) (x : Int) : (decM (bs ++ [x])).2.2 = 10 := by
  refine decM_bad fun c => ?_
  rw [whole_back h hi [x]] at c
  cases c.2
/-- Fewer bytes than a code are none. -/
theorem decM_less {l0 : List Int} {l1 : List FnS} {bs : List Int} (h : encM l0 l1 = (bs, 0)) (hi : ∀ v ∈ l0, i64 v) (n : Nat) (hn : n < bs.length) : (decM (bs.take n)).2.2 = 10 := by
  refine decM_bad fun c => ?_
  have e := ext_whole (bs.take n) false (wholeG (bs.take n, false)).1 [] (bs.drop n) (Prod.ext rfl (Prod.ext c.2 c.1))
  have e2 := whole_back h hi []
  rw [List.append_nil] at e2
  rw [List.take_append_drop, e2] at e
  simp only [Prod.mk.injEq] at e
  have := congrArg List.length e.2.1
  rw [List.nil_append, List.length_drop, List.length_nil] at this
  omega
theorem okL_more {l0 : List Int} {l1 : List FnS} {bs : List Int} (h : encM l0 l1 = (bs, 0)) (hm : okMod l0 l1 = true) : okL (bs ++ [0]) := by
  refine ⟨ok_app (encM_ok l0 l1 bs h (okMod_is hm).2.2.2) (fun v hv => ?_), ?_⟩
  · rw [List.mem_singleton] at hv
    subst hv
    decide
  · have := (enc_parts h).2.2
    rw [List.length_append, List.length_singleton]
    omega
theorem okL_less {l0 : List Int} {l1 : List FnS} {bs : List Int} (h : encM l0 l1 = (bs, 0)) (hm : okMod l0 l1 = true) (n : Nat) : okL (bs.take n) := by
  refine ⟨fun v hv => encM_ok l0 l1 bs h (okMod_is hm).2.2.2 v (List.mem_of_mem_take hv), ?_⟩
  have := (enc_parts h).2.2
  rw [List.length_take]
  omega
theorem sumF_take (l : List FnS) (i : Nat) (h : i < l.length) : sumF (l.take (i + 1)) = sumF (l.take i) + (6 + l[i].f2.length) := by
  unfold sumF
  rw [List.take_succ_eq_append_getElem h, List.map_append, List.sum_append]
  simp
theorem sumF_le (l : List FnS) (i : Nat) : sumF (l.take i) ≤ sumF l := by
  have h : l.take i ++ l.drop i = l := List.take_append_drop i l
  have : sumF (l.take i ++ l.drop i) = sumF (l.take i) + sumF (l.drop i) := by unfold sumF; rw [List.map_append, List.sum_append]
  rw [h] at this
  omega
end Go.Proofs.Ytjkjpmfenillcaa.P
