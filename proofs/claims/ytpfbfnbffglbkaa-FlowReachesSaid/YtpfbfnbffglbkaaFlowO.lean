import Derived.Test.YtpfbfnbffglbkaaFlowW
import Derived.Test.YtpfbfnbffglbkaaFlowE
import Derived.Test.YtpfbfnbffglbkaaFlowV
import Derived.Test.YtpfbfnbffglbkaaPF22
/- Which block stands over which, as flow.Over reckons it: plain; no statement of the seat. -/
set_option linter.unusedVariables false
set_option linter.unusedSimpArgs false
namespace Go.Proofs.Ytpfbfnbffglbkaa.P
open Go.RowKit Go.Proofs.YtpfbfnbffglbkaaW.PrintWords Go.Proofs.YtpfbfnbffglbkaaW.PrintLast Go.Proofs.YtpfbfnbffglbkaaW.PrintMore
/-- In so many steps from the first block, not by way of e. -/
inductive AvN (nx : Nat → List Int) (n e : Nat) : Nat → Nat → Prop
  | zero (m : Nat) : e ≠ 0 → AvN nx n e m 0
  | step {m z x : Nat} : AvN nx n e m z → x < n → (x : Int) ∈ nx z → x ≠ e → AvN nx n e (m + 1) x
/-- From one to another, not by way of e. -/
inductive RA (nx : Nat → List Int) (n e : Nat) : Nat → Nat → Prop
  | refl (y : Nat) : RA nx n e y y
  | step {y z x : Nat} : RA nx n e y z → x < n → (x : Int) ∈ nx z → x ≠ e → RA nx n e y x
section
variable {nx : Nat → List Int} {n : Nat}
theorem RA.trans {e x y z : Nat} (h : RA nx n e x y) (g : RA nx n e y z) : RA nx n e x z := by
  induction g with
  | refl => exact h
  | step _ a b c ih => exact RA.step ih a b c
theorem AvN.up {e m x : Nat} (h : AvN nx n e m x) : ∀ {m' : Nat}, m ≤ m' → AvN nx n e m' x := by
  induction h with
  | zero m he => intro m' _; exact AvN.zero m' he
  | step _ a b c ih =>
    intro m' hm
    obtain ⟨k, rfl⟩ : ∃ k, m' = k + 1 := ⟨m' - 1, by omega⟩
    exact AvN.step (ih (by omega)) a b c
theorem AvN.ne {e m x : Nat} (h : AvN nx n e m x) : x ≠ e := by
  cases h with
  | zero _ he => exact fun h => he h.symm
  | step _ _ _ c => exact c
theorem AvN.ne0 {e m x : Nat} (h : AvN nx n e m x) : e ≠ 0 := by
  induction h with
  | zero _ he => exact he
  | step _ _ _ _ ih => exact ih
theorem AvN.rch {e m x : Nat} (h : AvN nx n e m x) : Rch nx n 0 x := by
  induction h with
  | zero => exact Rch.refl 0
  | step _ a b _ ih => exact Rch.step ih a b
theorem AvN.more {e m x z : Nat} (h : AvN nx n e m x) (g : RA nx n e x z) : ∃ m', AvN nx n e m' z := by
  induction g with
  | refl => exact ⟨m, h⟩
  | step _ a b c ih => obtain ⟨m', h'⟩ := ih; exact ⟨m' + 1, AvN.step h' a b c⟩
/-- By way of y or not. -/
theorem AvN.via {e m x : Nat} (y : Nat) (h : AvN nx n e m x) : AvN nx n y m x ∨ AvN nx n e m y := by
  induction h with
  | zero m he =>
    by_cases h : y = 0
    · subst h; exact Or.inr (AvN.zero m he)
    · exact Or.inl (AvN.zero m h)
  | @step m z x hz a b c ih =>
    by_cases h : x = y
    · subst h; exact Or.inr (AvN.step hz a b c)
    · rcases ih with i | i
      · exact Or.inl (AvN.step i a b h)
      · exact Or.inr (i.up (by omega))
/-- Every way to x leads by e. -/
def Dom (nx : Nat → List Int) (n e x : Nat) : Prop := ∀ m, ¬ AvN nx n e m x
end
/-- One comes by what stands over. -/
inductive Anc (over : List Int) : Nat → Nat → Prop
  | refl (x : Nat) : Anc over x x
  | step {x y e : Nat} : over[x]? = some (y : Int) → Anc over y e → Anc over x e
/-- Something stands over it. -/
def Pr (over : List Int) (x : Nat) : Prop := ∃ y : Nat, over[x]? = some (y : Int)
theorem Anc.trans {over : List Int} {x y z : Nat} (h : Anc over x y) (g : Anc over y z) : Anc over x z := by
  induction h with
  | refl => exact g
  | step a _ ih => exact Anc.step a (ih g)
theorem Anc.total {over : List Int} {x a b : Nat} (h : Anc over x a) (g : Anc over x b) : Anc over a b ∨ Anc over b a := by
  induction h with
  | refl => exact Or.inl g
  | @step x y e hx hy ih =>
    cases g with
    | refl => exact Or.inr (Anc.step hx hy)
    | @step _ y' _ hx' hy' =>
      rw [hx] at hx'
      have : y = y' := by injection hx' with h; omega
      subst this
      exact ih hy'
/-- What holds of the rows while they are reckoned. -/
structure DT (nx : Nat → List Int) (n : Nat) (at_ : Nat → Nat) (ord : List Int) (over : List Int) : Prop where
  len : over.length = n
  zero : over[0]? = some 0
  inj : ∀ x y : Nat, (x : Int) ∈ ord → (y : Int) ∈ ord → at_ x = at_ y → x = y
  lt : ∀ x : Nat, (x : Int) ∈ ord → x < n
  zin : (0 : Int) ∈ ord
  low : ∀ x : Nat, (x : Int) ∈ ord → at_ 0 ≤ at_ x
  up : ∀ x : Nat, x ≠ 0 → ∀ v, over[x]? = some v → v = -1 ∨ ∃ y : Nat, v = (y : Int) ∧ at_ y < at_ x ∧ Pr over y ∧ (x : Int) ∈ ord ∧ ∀ e, at_ e < at_ y → RA nx n e y x
section
variable {nx : Nat → List Int} {n : Nat} {at_ : Nat → Nat} {ord over : List Int}
theorem DT.pr0 (h : DT nx n at_ ord over) : Pr over 0 := ⟨0, h.zero⟩
theorem DT.mem (h : DT nx n at_ ord over) {x : Nat} (hp : Pr over x) : (x : Int) ∈ ord := by
  by_cases h0 : x = 0
  · subst h0; exact h.zin
  · obtain ⟨y, hy⟩ := hp
    rcases h.up x h0 _ hy with e | ⟨_, _, _, _, hm, _⟩
    · omega
    · exact hm
theorem DT.anc0 (h : DT nx n at_ ord over) {x e : Nat} (ha : Anc over x e) : x = 0 → e = 0 := by
  induction ha with
  | refl => exact id
  | @step x y e hx hy ih =>
    intro h0
    subst h0
    rw [h.zero] at hx
    exact ih (by injection hx with h; omega)
theorem DT.anc (h : DT nx n at_ ord over) {x e : Nat} (ha : Anc over x e) : Pr over x → Pr over e ∧ (x = e ∨ at_ e < at_ x) := by
  induction ha with
  | refl => exact fun hp => ⟨hp, Or.inl rfl⟩
  | @step x y e hx hy ih =>
    intro hp
    by_cases h0 : x = 0
    · have he := h.anc0 (Anc.step hx hy) h0
      subst h0 he
      exact ⟨hp, Or.inl rfl⟩
    · rcases h.up x h0 _ hx with e1 | ⟨y', e1, hlt, hpy, _, _⟩
      · omega
      · have : y = y' := by omega
        subst this
        have := ih hpy
        refine ⟨this.1, Or.inr ?_⟩
        rcases this.2 with e2 | e2
        · subst e2; exact hlt
        · omega
theorem DT.le (h : DT nx n at_ ord over) {x e : Nat} (ha : Anc over x e) (hp : Pr over x) : at_ e ≤ at_ x := by
  rcases (h.anc ha hp).2 with e1 | e1
  · subst e1; exact Nat.le_refl _
  · omega
theorem DT.anti (h : DT nx n at_ ord over) {x y : Nat} (hp : Pr over x) (hx : Anc over x y) (hy : Anc over y x) : x = y := by
  have h1 := h.anc hx hp
  have h2 := h.anc hy h1.1
  rcases h1.2 with e | e
  · exact e
  · rcases h2.2 with e2 | e2
    · exact e2.symm
    · omega
theorem DT.chain (h : DT nx n at_ ord over) {z y : Nat} (ha : Anc over z y) : Pr over z → ∀ e, at_ e < at_ y → RA nx n e y z := by
  induction ha with
  | refl => exact fun _ e _ => RA.refl _
  | @step x y e hx hy ih =>
    intro hp f hf
    by_cases h0 : x = 0
    · have he := h.anc0 (Anc.step hx hy) h0
      subst h0 he
      exact RA.refl _
    · rcases h.up x h0 _ hx with e1 | ⟨y', e1, hlt, hpy, _, hr⟩
      · omega
      · have : y = y' := by omega
        subst this
        have hle := h.le hy hpy
        exact (ih hpy f hf).trans (hr f (by omega))
/-! ### One more is laid -/
section
variable {x d : Nat}
theorem set_ne (hz : over[x]? ≠ none) {z : Nat} (h : z ≠ x) (v : Int) : (over.set x v)[z]? = over[z]? := List.getElem?_set_ne (fun e => h e.symm)
theorem set_eq (hx : x < over.length) (v : Int) : (over.set x v)[x]? = some v := List.getElem?_set_self hx
theorem anc_new {v : Int} (hx : x < over.length) (hv : v = (d : Int)) {z e : Nat} (h : Anc (over.set x v) z e) : Anc over z e ∨ (Anc over z x ∧ Anc over d e) := by
  subst hv
  induction h with
  | refl => exact Or.inl (Anc.refl _)
  | @step z y e hz hy ih =>
    by_cases hzx : z = x
    · subst hzx
      rw [set_eq hx] at hz
      have : d = y := by injection hz with h; omega
      subst this
      refine Or.inr ⟨Anc.refl _, ?_⟩
      rcases ih with i | i
      · exact i
      · exact i.2
    · rw [List.getElem?_set_ne (fun e => hzx e.symm)] at hz
      rcases ih with i | ⟨i, j⟩
      · exact Or.inl (Anc.step hz i)
      · exact Or.inr ⟨Anc.step hz i, j⟩
theorem anc_old {v : Int} (hx : x < over.length) {z e : Nat} (h : Anc over z e) : Anc (over.set x v) z e ∨ (Anc over z x ∧ Anc over x e ∧ Anc (over.set x v) z x) := by
  induction h with
  | refl => exact Or.inl (Anc.refl _)
  | @step z y e hz hy ih =>
    by_cases hzx : z = x
    · subst hzx
      exact Or.inr ⟨Anc.refl _, Anc.step hz hy, Anc.refl _⟩
    · have hz' : (over.set x v)[z]? = some (y : Int) := by rw [List.getElem?_set_ne (fun e => hzx e.symm)]; exact hz
      rcases ih with i | ⟨i, j, k⟩
      · exact Or.inl (Anc.step hz' i)
      · exact Or.inr ⟨Anc.step hz i, j, Anc.step hz' k⟩
end
/-- All that is kept: what stands over it in truth stands over it here, and what stands over it here does so for all short ways. -/
structure DI (nx : Nat → List Int) (n : Nat) (at_ : Nat → Nat) (ord : List Int) (m : Nat) (over : List Int) : Prop extends DT nx n at_ ord over where
  safe : ∀ x e : Nat, Pr over x → Dom nx n e x → Anc over x e
  upto : ∀ x e : Nat, Pr over x → Anc over x e → ¬ AvN nx n e m x
  all : 1 ≤ m → ∀ x : Nat, (x : Int) ∈ ord → Pr over x
theorem DI.q {m : Nat} (h : DI nx n at_ ord m over) (hr : ∀ j : Nat, Rch nx n 0 j → (j : Int) ∈ ord) {z e : Nat} (ha : AvN nx n e m z) : Pr over z := by
  cases ha with
  | zero => exact h.pr0
  | step a b c d => exact h.all (by omega) _ (hr _ (Rch.step a.rch b c))
/-- A step of a round. -/
theorem DI.step {m x d : Nat} {ps : List Int} (h : DI nx n at_ ord m over) (hr : ∀ j : Nat, Rch nx n 0 j → (j : Int) ∈ ord) (hx0 : x ≠ 0) (hx : (x : Int) ∈ ord)
    (hps : ∀ p : Nat, (p : Int) ∈ ps ↔ (p < n ∧ (x : Int) ∈ nx p))
    (p0 : Nat) (hp0 : (p0 : Int) ∈ ps) (hpr0 : Pr over p0) (hat0 : at_ p0 < at_ x)
    (hd : Pr over d) (hda : ∀ e, Anc over d e ↔ ∀ p : Nat, (p : Int) ∈ ps → Pr over p → Anc over p e) :
    DI nx n at_ ord m (over.set x (d : Int)) ∧ (∀ e, Anc (over.set x (d : Int)) x e → ¬ AvN nx n e (m + 1) x) ∧
      (∀ z e, at_ z < at_ x → Pr over z → (Anc (over.set x (d : Int)) z e ↔ Anc over z e)) ∧ at_ d < at_ x ∧ (∀ z, Pr over z → Pr (over.set x (d : Int)) z) := by
  have hxn : x < over.length := by rw [h.len]; exact h.lt x hx
  have hdp : Anc over p0 d := (hda d).1 (Anc.refl d) p0 hp0 hpr0
  have hdx : at_ d < at_ x := by have := h.le hdp hpr0; omega
  have hdnx : ∀ e, Anc over d e → ¬ Anc over d x := fun _ _ hc => by have := h.le hc hd; omega
  have hprm : ∀ z, Pr over z → Pr (over.set x (d : Int)) z := by
    rintro z ⟨y, hy⟩
    by_cases e : z = x
    · subst e; exact ⟨d, set_eq hxn _⟩
    · exact ⟨y, by rw [List.getElem?_set_ne (fun h => e h.symm)]; exact hy⟩
  have hpro : ∀ z, z ≠ x → Pr (over.set x (d : Int)) z → Pr over z := by
    rintro z e ⟨y, hy⟩
    exact ⟨y, by rw [List.getElem?_set_ne (fun h => e h.symm)] at hy; exact hy⟩
  have hsame : ∀ z e, ¬ Anc over z x → (Anc (over.set x (d : Int)) z e ↔ Anc over z e) := by
    intro z e hz
    constructor
    · intro k
      rcases anc_new hxn rfl k with k | k
      · exact k
      · exact absurd k.1 hz
    · intro k
      rcases anc_old (v := (d : Int)) hxn k with k | k
      · exact k
      · exact absurd k.1 hz
  have hlow : ∀ z e, at_ z < at_ x → Pr over z → (Anc (over.set x (d : Int)) z e ↔ Anc over z e) := fun z e hz hp => hsame z e (fun hc => by have := h.le hc hp; omega)
  have hatx : ∀ e, Anc (over.set x (d : Int)) x e ↔ (e = x ∨ Anc over d e) := by
    intro e
    constructor
    · intro k
      cases k with
      | refl => exact Or.inl rfl
      | @step _ y _ hy k =>
        rw [set_eq hxn] at hy
        have : d = y := by injection hy with h; omega
        subst this
        exact Or.inr ((hlow d e hdx hd).1 k)
    · rintro (rfl | k)
      · exact Anc.refl _
      · exact Anc.step (set_eq hxn _) ((hlow d e hdx hd).2 k)
  have hshort : ∀ e, Anc (over.set x (d : Int)) x e → ¬ AvN nx n e (m + 1) x := by
    intro e he hav
    rcases (hatx e).1 he with rfl | he
    · exact hav.ne rfl
    · cases hav with
      | zero => exact hx0 rfl
      | @step _ z _ hz a b c =>
        have hpz := h.q hr hz
        exact h.upto z e hpz ((hda e).1 he z ((hps z).2 ⟨h.lt z (h.mem hpz), b⟩) hpz) hz
  have hsx : ∀ e, Dom nx n e x → Anc (over.set x (d : Int)) x e := by
    intro e he
    by_cases hex : e = x
    · exact (hatx e).2 (Or.inl hex)
    · refine (hatx e).2 (Or.inr ((hda e).2 fun p hp hpp => h.safe p e hpp fun m' hm' => ?_))
      exact he (m' + 1) (AvN.step hm' (h.lt x hx) ((hps p).1 hp).2 (fun k => hex k.symm))
  refine ⟨⟨⟨?_, ?_, h.inj, h.lt, h.zin, h.low, ?_⟩, ?_, ?_, ?_⟩, hshort, hlow, hdx, hprm⟩
  · rw [List.length_set]; exact h.len
  · rw [List.getElem?_set_ne hx0]; exact h.zero
  · intro z hz v hv
    by_cases e : z = x
    · subst e
      rw [set_eq hxn] at hv
      refine Or.inr ⟨d, by injection hv with h; exact h.symm, hdx, hprm d hd, hx, fun f hf => ?_⟩
      refine RA.step (h.chain hdp hpr0 f hf) (h.lt z hx) ((hps p0).1 hp0).2 (fun k => ?_)
      subst k
      omega
    · rw [List.getElem?_set_ne (fun h => e h.symm)] at hv
      rcases h.up z hz v hv with k | ⟨y, k1, k2, k3, k4, k5⟩
      · exact Or.inl k
      · exact Or.inr ⟨y, k1, k2, hprm y k3, k4, k5⟩
  · intro z e hz he
    by_cases ezx : z = x
    · subst ezx; exact hsx e he
    · have hpz := hpro z ezx hz
      rcases anc_old (v := (d : Int)) hxn (h.safe z e hpz he) with k | ⟨k1, k2, k3⟩
      · exact k
      · by_cases hex : e = x
        · subst hex; exact k3
        · refine k3.trans (hsx e fun m' hm' => ?_)
          have hpx := (h.anc k1 hpz).1
          rcases (h.anc k2 hpx).2 with e1 | e1
          · exact hex e1.symm
          · obtain ⟨m2, h2⟩ := hm'.more (h.chain k1 hpz e e1)
            exact he m2 h2
  · intro z e hz he hav
    by_cases ezx : z = x
    · subst ezx; exact hshort e he (hav.up (by omega))
    · have hpz := hpro z ezx hz
      rcases anc_new hxn rfl he with k | ⟨k1, k2⟩
      · exact h.upto z e hpz k hav
      · rcases hav.via x with a | a
        · exact h.upto z x hpz k1 a
        · exact hshort e ((hatx e).2 (Or.inr k2)) (a.up (by omega))
  · intro hm z hz
    exact hprm z (h.all hm z hz)
end
/-! ### The nearest of two -/
theorem rd_some {l : List Int} {i : Nat} {v : Int} (h : l[i]? = some v) : rd l (i : Int) = v := by
  unfold rd
  rw [Int.toNat_natCast, List.getD_eq_getElem?_getD, h]
  rfl
/-- The places are those of the order. -/
def PlOK (n : Nat) (at_ : Nat → Nat) (ord pl : List Int) : Prop := pl.length = n ∧ ∀ x : Nat, (x : Int) ∈ ord → pl[x]? = some (at_ x : Int)
section
variable {nx : Nat → List Int} {n : Nat} {at_ : Nat → Nat} {ord over pl : List Int}
theorem meet_all (h : DT nx n at_ ord over) (hp : PlOK n at_ ord pl) : ∀ s a b : Nat, Pr over a → Pr over b → at_ a + at_ b ≤ s →
    ∃ d : Nat, (∀ k, 5 * s + 5 ≤ k → flow_meet.l1 k over pl a b = some (d : Int)) ∧ (∀ k, 5 * s + 4 ≤ k → flow_meet.l2 k over pl a b = some (d : Int)) ∧ (∀ k, 5 * s + 3 ≤ k → flow_meet.l0 k over pl a b = some (d : Int)) ∧
      Pr over d ∧ ∀ e, Anc over d e ↔ (Anc over a e ∧ Anc over b e) := by
  intro s
  induction s using Nat.strongRecOn with
  | _ s ih =>
    intro a b ha hb hs
    have hma := h.mem ha
    have hmb := h.mem hb
    have hla := h.lt a hma
    have hlb := h.lt b hmb
    have hra := rd_some (hp.2 a hma)
    have hrb := rd_some (hp.2 b hmb)
    have hpl := hp.1
    have hov := h.len
    rcases Nat.lt_trichotomy (at_ b) (at_ a) with hlt | heq | hlt
    · -- a moves
      have ha0 : a ≠ 0 := by
        rintro rfl
        have := h.low b hmb
        omega
      obtain ⟨y, hy⟩ := ha
      rcases h.up a ha0 _ hy with e1 | ⟨y', e1, hlt2, hpy, _, _⟩
      · omega
      have : y = y' := by omega
      subst this
      have hry := rd_some hy
      obtain ⟨d, g1, g2, g0, gp, ga⟩ := ih (at_ y + at_ b) (by omega) y b hpy hb (Nat.le_refl _)
      have e1 : ∀ k, 5 * s + 1 ≤ k → flow_meet.l1 k over pl a b = some (d : Int) := by
        intro k hk
        obtain ⟨k, rfl⟩ : ∃ j, k = j + 1 := ⟨k - 1, by omega⟩
        simp only [flow_meet.l1]
        rw [if_pos (by omega), if_pos (by omega), if_pos (by omega), if_pos (by omega), hra, hrb, if_pos (by omega), if_pos (by omega), hry]
        exact g1 k (by omega)
      have e0 : ∀ k, 5 * s + 2 ≤ k → flow_meet.l0 k over pl a b = some (d : Int) := by
        intro k hk
        obtain ⟨k, rfl⟩ : ∃ j, k = j + 1 := ⟨k - 1, by omega⟩
        simp only [flow_meet.l0]
        rw [if_neg (fun e => by have : a = b := by omega
                                subst this; omega)]
        exact e1 k (by omega)
      have e2 : ∀ k, 5 * s + 3 ≤ k → flow_meet.l2 k over pl a b = some (d : Int) := by
        intro k hk
        obtain ⟨k, rfl⟩ : ∃ j, k = j + 1 := ⟨k - 1, by omega⟩
        simp only [flow_meet.l2]
        rw [if_pos (by omega), if_pos (by omega), if_pos (by omega), if_pos (by omega), hra, hrb, if_neg (by omega)]
        exact e0 k (by omega)
      refine ⟨d, fun k hk => e1 k (by omega), fun k hk => e2 k (by omega), fun k hk => e0 k (by omega), gp, fun e => ?_⟩
      rw [ga e]
      constructor
      · rintro ⟨k1, k2⟩
        exact ⟨Anc.step hy k1, k2⟩
      · rintro ⟨k1, k2⟩
        refine ⟨?_, k2⟩
        cases k1 with
        | refl => have := h.le k2 hb; omega
        | @step _ y2 _ hy2 k1 =>
          rw [hy] at hy2
          have : y = y2 := by injection hy2 with h; omega
          subst this
          exact k1
    · have hab := h.inj a b hma hmb heq.symm
      subst hab
      have e0 : ∀ k, 1 ≤ k → flow_meet.l0 k over pl a a = some (a : Int) := by
        intro k hk
        obtain ⟨k, rfl⟩ : ∃ j, k = j + 1 := ⟨k - 1, by omega⟩
        simp only [flow_meet.l0]
        rw [if_pos trivial]
      have e2 : ∀ k, 2 ≤ k → flow_meet.l2 k over pl a a = some (a : Int) := by
        intro k hk
        obtain ⟨k, rfl⟩ : ∃ j, k = j + 1 := ⟨k - 1, by omega⟩
        simp only [flow_meet.l2]
        rw [if_pos (by omega), if_pos (by omega), if_pos (by omega), if_pos (by omega), if_neg (by omega)]
        exact e0 k (by omega)
      have e1 : ∀ k, 3 ≤ k → flow_meet.l1 k over pl a a = some (a : Int) := by
        intro k hk
        obtain ⟨k, rfl⟩ : ∃ j, k = j + 1 := ⟨k - 1, by omega⟩
        simp only [flow_meet.l1]
        rw [if_pos (by omega), if_pos (by omega), if_pos (by omega), if_pos (by omega), if_neg (by omega)]
        exact e2 k (by omega)
      exact ⟨a, fun k hk => e1 k (by omega), fun k hk => e2 k (by omega), fun k hk => e0 k (by omega), ha, fun e => by simp⟩
    · have hb0 : b ≠ 0 := by
        rintro rfl
        have := h.low a hma
        omega
      obtain ⟨y, hy⟩ := hb
      rcases h.up b hb0 _ hy with e1 | ⟨y', e1, hlt2, hpy, _, _⟩
      · omega
      have : y = y' := by omega
      subst this
      have hry := rd_some hy
      obtain ⟨d, g1, g2, g0, gp, ga⟩ := ih (at_ a + at_ y) (by omega) a y ha hpy (Nat.le_refl _)
      have e2 : ∀ k, 5 * s ≤ k → flow_meet.l2 k over pl a b = some (d : Int) := by
        intro k hk
        obtain ⟨k, rfl⟩ : ∃ j, k = j + 1 := ⟨k - 1, by omega⟩
        simp only [flow_meet.l2]
        rw [if_pos (by omega), if_pos (by omega), if_pos (by omega), if_pos (by omega), hra, hrb, if_pos (by omega), if_pos (by omega), hry]
        exact g2 k (by omega)
      have e1 : ∀ k, 5 * s + 1 ≤ k → flow_meet.l1 k over pl a b = some (d : Int) := by
        intro k hk
        obtain ⟨k, rfl⟩ : ∃ j, k = j + 1 := ⟨k - 1, by omega⟩
        simp only [flow_meet.l1]
        rw [if_pos (by omega), if_pos (by omega), if_pos (by omega), if_pos (by omega), hra, hrb, if_neg (by omega)]
        exact e2 k (by omega)
      have e0 : ∀ k, 5 * s + 2 ≤ k → flow_meet.l0 k over pl a b = some (d : Int) := by
        intro k hk
        obtain ⟨k, rfl⟩ : ∃ j, k = j + 1 := ⟨k - 1, by omega⟩
        simp only [flow_meet.l0]
        rw [if_neg (fun e => by have : a = b := by omega
                                subst this; omega)]
        exact e1 k (by omega)
      refine ⟨d, fun k hk => e1 k (by omega), fun k hk => e2 k (by omega), fun k hk => e0 k (by omega), gp, fun e => ?_⟩
      rw [ga e]
      constructor
      · rintro ⟨k1, k2⟩
        exact ⟨k1, Anc.step hy k2⟩
      · rintro ⟨k1, k2⟩
        refine ⟨k1, ?_⟩
        cases k2 with
        | refl => have := h.le k1 ha; omega
        | @step _ y2 _ hy2 k2 =>
          rw [hy] at hy2
          have : y = y2 := by injection hy2 with h; omega
          subst this
          exact k2
end
end Go.Proofs.Ytpfbfnbffglbkaa.P
/- What flow.Over reckons is what stands over each, in truth: plain; no statement of the seat. -/
set_option linter.unusedVariables false
set_option linter.unusedSimpArgs false
namespace Go.Proofs.Ytpfbfnbffglbkaa.P
open Go.RowKit Go.Proofs.YtpfbfnbffglbkaaW.PrintWords Go.Proofs.YtpfbfnbffglbkaaW.PrintLast Go.Proofs.YtpfbfnbffglbkaaW.PrintMore
section
variable {nx : Nat → List Int} {n : Nat} {at_ : Nat → Nat} {ord over pl : List Int}
theorem dRow_ok (h : DT nx n at_ ord over) (hp : PlOK n at_ ord pl) (hb : ∀ x : Nat, (x : Int) ∈ ord → at_ x ≤ n) (k : Nat) (hk : 10 * n + 10 ≤ k) : ∀ (l : List Int) (d : Int), (∀ p ∈ l, 0 ≤ p ∧ p < (n : Int)) → (d = -1 ∨ ∃ y : Nat, d = (y : Int) ∧ Pr over y) →
    ∃ r, dRow k over pl l d = some r ∧ (r = -1 ∨ ∃ y : Nat, r = (y : Int) ∧ Pr over y) ∧ (d ≠ -1 → r ≠ -1) ∧ (∀ p : Nat, (p : Int) ∈ l → Pr over p → r ≠ -1) ∧
      ∀ e, (∀ y : Nat, r = (y : Int) → Anc over y e) ↔ ((∀ y : Nat, d = (y : Int) → Anc over y e) ∧ ∀ p : Nat, (p : Int) ∈ l → Pr over p → Anc over p e)
  | [], d, _, hd => ⟨d, rfl, hd, id, by simp, by simp⟩
  | p :: l, d, hl, hd => by
    obtain ⟨hp0, hpn⟩ := hl p List.mem_cons_self
    obtain ⟨p, rfl⟩ : ∃ j : Nat, p = (j : Int) := ⟨p.toNat, by omega⟩
    have hlt : p < over.length := by rw [h.len]; omega
    obtain ⟨v, hv⟩ : ∃ v, over[p]? = some v := ⟨_, List.getElem?_eq_getElem hlt⟩
    have hrd := rd_some hv
    have hstep : ∃ r, dStep k over pl d p = some r ∧ (r = -1 ∨ ∃ y : Nat, r = (y : Int) ∧ Pr over y) ∧ (d ≠ -1 → r ≠ -1) ∧ (Pr over p → r ≠ -1) ∧
        ∀ e, (∀ y : Nat, r = (y : Int) → Anc over y e) ↔ ((∀ y : Nat, d = (y : Int) → Anc over y e) ∧ (Pr over p → Anc over p e)) := by
      unfold dStep
      rw [if_pos (by rw [h.len]; omega), hrd]
      by_cases hv1 : v = -1
      · rw [if_pos hv1]
        have hnp : ¬ Pr over p := by
          rintro ⟨y, hy⟩
          rw [hv, hv1] at hy
          injection hy with hy
          omega
        exact ⟨d, rfl, hd, id, fun hc => absurd hc hnp, fun e => ⟨fun a => ⟨a, fun hc => absurd hc hnp⟩, fun a => a.1⟩⟩
      · rw [if_neg hv1]
        have hpp : Pr over p := by
          by_cases h0 : p = 0
          · subst h0; exact h.pr0
          · rcases h.up p h0 v hv with e | ⟨y, e, _⟩
            · exact absurd e hv1
            · exact ⟨y, by rw [hv, e]⟩
        by_cases hd1 : d = -1
        · rw [if_pos hd1]
          refine ⟨(p : Int), rfl, Or.inr ⟨p, rfl, hpp⟩, fun hc => absurd hd1 hc, fun _ => by omega, fun e => ⟨fun a => ⟨fun y hy => by omega, fun _ => a p rfl⟩, fun a y hy => ?_⟩⟩
          have : p = y := by omega
          subst this
          exact a.2 hpp
        · rw [if_neg hd1]
          rcases hd with hd | ⟨y, rfl, hy⟩
          · exact absurd hd hd1
          obtain ⟨r, _, _, g0, gp, ga⟩ := meet_all h hp (2 * n) y p hy hpp (by have := hb y (h.mem hy); have := hb p (h.mem hpp); omega)
          refine ⟨(r : Int), by unfold flow_meet.f; exact g0 k (by omega), Or.inr ⟨r, rfl, gp⟩, fun _ => by omega, fun _ => by omega, fun e => ⟨fun a => ?_, fun a z hz => ?_⟩⟩
          · have := (ga e).1 (a r rfl)
            refine ⟨fun z hz => ?_, fun _ => this.2⟩
            have : y = z := by omega
            subst this
            exact ((ga e).1 (a r rfl)).1
          · have : r = z := by omega
            subst this
            exact (ga e).2 ⟨a.1 y rfl, a.2 hpp⟩
    obtain ⟨r1, h1, h2, h3, h4, h5⟩ := hstep
    obtain ⟨r, g1, g2, g3, g4, g5⟩ := dRow_ok h hp hb k hk l r1 (fun q hq => hl q (List.mem_cons_of_mem _ hq)) h2
    refine ⟨r, ?_, g2, fun a => g3 (h3 a), ?_, fun e => ?_⟩
    · rw [dRow, h1, Option.bind_some]; exact g1
    · intro q hq hqp
      rcases List.mem_cons.1 hq with e | hq
      · have : q = p := by omega
        subst this
        exact g3 (h4 hqp)
      · exact g4 q hq hqp
    · rw [g5 e, h5 e]
      constructor
      · rintro ⟨⟨a, b⟩, c⟩
        refine ⟨a, fun q hq hqp => ?_⟩
        rcases List.mem_cons.1 hq with e1 | hq
        · have : q = p := by omega
          subst this
          exact b hqp
        · exact c q hq hqp
      · rintro ⟨a, b⟩
        exact ⟨⟨a, fun hqp => b p List.mem_cons_self hqp⟩, fun q hq hqp => b q (List.mem_cons_of_mem _ hq) hqp⟩
/-- The rows ahead hold just those behind which one comes. -/
def RowsOK (nx : Nat → List Int) (n : Nat) (rows : List (List Int)) : Prop := ∀ x : Nat, x < n → ∀ p : Int, p ∈ rows.getD x [] ↔ ∃ j : Nat, p = (j : Int) ∧ j < n ∧ (x : Int) ∈ nx j
/-- The order, as a round asks of it. -/
structure Ords (nx : Nat → List Int) (n : Nat) (at_ : Nat → Nat) (ord pl : List Int) (rows : List (List Int)) : Prop where
  pl : PlOK n at_ ord pl
  bd : ∀ x : Nat, (x : Int) ∈ ord → at_ x ≤ n
  rows : RowsOK nx n rows
  reach : ∀ j : Nat, (j : Int) ∈ ord ↔ Rch nx n 0 j
  isNat : ∀ x ∈ ord, ∃ j : Nat, x = (j : Int) ∧ j < n
  sorted : ∀ (A B : List Int) (x y : Nat), ord = A ++ (x : Int) :: B → (y : Int) ∈ A → at_ y < at_ x
  first : ∃ l, ord = 0 :: l
  nd : ord.Nodup
  pred : ∀ (A B : List Int) (j : Nat), ord = A ++ (j : Int) :: B → j ≠ 0 → ∃ p : Nat, (p : Int) ∈ A ∧ (j : Int) ∈ nx p
variable {rows : List (List Int)}
/-- One block of a round. -/
theorem one_ok (ho : Ords nx n at_ ord pl rows) (k : Nat) (hk : 10 * n + 10 ≤ k) (m : Nat) (A B : List Int) (x : Nat) (e : ord = A ++ (x : Int) :: B) (hx0 : x ≠ 0) (over : List Int) (h : DI nx n at_ ord m over)
    (hA : ∀ z : Nat, (z : Int) ∈ A → Pr over z) :
    ∃ d : Nat, dRow k over pl (rows.getD x []) (-1) = some (d : Int) ∧ Pr over d ∧ DI nx n at_ ord m (over.set x (d : Int)) ∧ (∀ e, Anc (over.set x (d : Int)) x e → ¬ AvN nx n e (m + 1) x) ∧
      (∀ z e, at_ z < at_ x → Pr over z → (Anc (over.set x (d : Int)) z e ↔ Anc over z e)) ∧ at_ d < at_ x ∧ (∀ z, Pr over z → Pr (over.set x (d : Int)) z) := by
  have hx : (x : Int) ∈ ord := by rw [e]; simp
  have hxn := h.lt x hx
  obtain ⟨p0, hp0A, hp0⟩ := ho.pred A B x e hx0
  have hp0o : (p0 : Int) ∈ ord := by rw [e]; exact List.mem_append_left _ hp0A
  have hpr0 := hA p0 hp0A
  have hat0 := ho.sorted A B x p0 e hp0A
  have hps : ∀ p : Nat, (p : Int) ∈ rows.getD x [] ↔ (p < n ∧ (x : Int) ∈ nx p) := by
    intro p
    rw [ho.rows x hxn]
    constructor
    · rintro ⟨j, e1, h1, h2⟩
      have : p = j := by omega
      subst this
      exact ⟨h1, h2⟩
    · rintro ⟨h1, h2⟩
      exact ⟨p, rfl, h1, h2⟩
  have hp0r : (p0 : Int) ∈ rows.getD x [] := (hps p0).2 ⟨h.lt p0 hp0o, hp0⟩
  obtain ⟨r, g1, g2, _, g4, g5⟩ := dRow_ok h.toDT ho.pl ho.bd k hk (rows.getD x []) (-1) (fun p hp => by
    obtain ⟨j, rfl, hj, _⟩ := (ho.rows x hxn p).1 hp
    omega) (Or.inl rfl)
  have hr := g4 p0 hp0r hpr0
  rcases g2 with e1 | ⟨d, rfl, hd⟩
  · exact absurd e1 hr
  refine ⟨d, g1, hd, h.step (fun j => (ho.reach j).2) hx0 hx hps p0 hp0r hpr0 hat0 hd fun e => ?_⟩
  constructor
  · intro a
    exact ((g5 e).1 (fun y hy => by have : d = y := by omega
                                    subst this; exact a)).2
  · intro a
    exact (g5 e).2 ⟨fun y hy => by omega, a⟩ d rfl
/-- A round. -/
theorem pass_ok (ho : Ords nx n at_ ord pl rows) (k : Nat) (hk : 10 * n + 10 ≤ k) (m : Nat) : ∀ (l A : List Int) (over : List Int) (ch : Bool), ord = A ++ l → (∃ A', A = 0 :: A') → DI nx n at_ ord m over →
    (∀ z : Nat, (z : Int) ∈ A → Pr over z ∧ ∀ e, Anc over z e → ¬ AvN nx n e (m + 1) z) →
    ∃ over' ch', passO k pl rows l over ch = some (over', ch') ∧ DI nx n at_ ord m over' ∧ (∀ z : Nat, (z : Int) ∈ ord → Pr over' z ∧ ∀ e, Anc over' z e → ¬ AvN nx n e (m + 1) z) ∧ (ch' = false → ch = false ∧ over' = over)
  | [], A, over, ch, e, hA0, h, hA => ⟨over, ch, rfl, h, by rw [e, List.append_nil]; exact hA, fun hc => ⟨hc, rfl⟩⟩
  | x :: l, A, over, ch, e, hA0, h, hA => by
    obtain ⟨x, rfl, hxn⟩ := ho.isNat x (by rw [e]; simp)
    have hx0 : x ≠ 0 := by
      rintro rfl
      obtain ⟨A', rfl⟩ := hA0
      have := ho.nd
      rw [e, List.cons_append, List.nodup_cons] at this
      exact this.1 (by simp)
    obtain ⟨d, h1, h2, h3, h4, h5, h6, h7⟩ := one_ok ho k hk m A l x e hx0 over h (fun z hz => (hA z hz).1)
    have hlen : x < over.length := by rw [h.len]; exact hxn
    obtain ⟨over', ch', g1, g2, g3, g4⟩ := pass_ok ho k hk m l (A ++ [(x : Int)]) (over.set x (d : Int)) (ch || (rd over (x : Int) != (d : Int))) (by rw [e, List.append_assoc]; rfl)
      (by obtain ⟨A', rfl⟩ := hA0; exact ⟨A' ++ [(x : Int)], rfl⟩) h3 (fun z hz => by
        rcases List.mem_append.1 hz with hz | hz
        · have := hA z hz
          exact ⟨h7 z this.1, fun e1 he1 => this.2 e1 ((h5 z e1 (ho.sorted A l x z e hz) this.1).1 he1)⟩
        · rw [List.mem_singleton] at hz
          have : z = x := by omega
          subst this
          exact ⟨⟨d, set_eq hlen _⟩, h4⟩)
    refine ⟨over', ch', ?_, g2, g3, fun hc => ?_⟩
    · rw [passO, Int.toNat_natCast, h1, Option.bind_some]; exact g1
    · obtain ⟨a, b⟩ := g4 hc
      rw [Bool.or_eq_false_iff] at a
      refine ⟨a.1, b.trans ?_⟩
      have hr : rd over (x : Int) = (d : Int) := by simpa using a.2
      have hv : over[x]? = some (d : Int) := by
        rw [List.getElem?_eq_getElem hlen, ← hr]
        unfold rd
        rw [Int.toNat_natCast, List.getD_eq_getElem?_getD, List.getElem?_eq_getElem hlen]
        rfl
      apply List.ext_getElem?
      intro i
      by_cases ei : i = x
      · subst ei; rw [set_eq hlen, hv]
      · rw [List.getElem?_set_ne (fun h => ei h.symm)]
theorem ord_drop (ho : Ords nx n at_ ord pl rows) : ord = [0] ++ ord.drop 1 := by
  obtain ⟨l, e⟩ := ho.first
  rw [e]; rfl
/-- A whole round. -/
theorem round_ok (ho : Ords nx n at_ ord pl rows) (k : Nat) (hk : 10 * n + 10 ≤ k) (m : Nat) (over : List Int) (h : DI nx n at_ ord m over) :
    ∃ over' ch', passO k pl rows (ord.drop 1) over false = some (over', ch') ∧ DI nx n at_ ord (m + 1) over' ∧ (ch' = false → over' = over) := by
  obtain ⟨over', ch', g1, g2, g3, g4⟩ := pass_ok ho k hk m (ord.drop 1) [0] over false (ord_drop ho) ⟨[], rfl⟩ h (fun z hz => by
    rw [List.mem_singleton] at hz
    have : z = 0 := by omega
    subst this
    refine ⟨h.pr0, fun e he hav => hav.ne0 (h.anc0 he rfl)⟩)
  refine ⟨over', ch', g1, ⟨g2.toDT, g2.safe, fun x e hx he => (g3 x (g2.mem hx)).2 e he, fun _ x hx => (g3 x hx).1⟩, fun hc => (g4 hc).2⟩
/-- So many steps tell all ways. -/
theorem enough (nx : Nat → List Int) (n : Nat) : ∃ M, 1 ≤ M ∧ ∀ e x, e < n → x < n → (∃ m, AvN nx n e m x) → AvN nx n e M x := by
  have hrow : ∀ (e N : Nat), ∃ M, ∀ x, x < N → (∃ m, AvN nx n e m x) → AvN nx n e M x := by
    intro e N
    induction N with
    | zero => exact ⟨0, fun x hx => by omega⟩
    | succ N ih =>
      obtain ⟨M, hM⟩ := ih
      by_cases hN : ∃ m, AvN nx n e m N
      · obtain ⟨m, hm⟩ := hN
        refine ⟨M + m, fun x hx hh => ?_⟩
        by_cases ex : x = N
        · subst ex; exact hm.up (by omega)
        · exact (hM x (by omega) hh).up (by omega)
      · refine ⟨M, fun x hx hh => ?_⟩
        by_cases ex : x = N
        · subst ex; exact absurd hh hN
        · exact hM x (by omega) hh
  have hall : ∀ N : Nat, ∃ M, ∀ e x, e < N → x < n → (∃ m, AvN nx n e m x) → AvN nx n e M x := by
    intro N
    induction N with
    | zero => exact ⟨0, fun e x he => by omega⟩
    | succ N ih =>
      obtain ⟨M, hM⟩ := ih
      obtain ⟨M2, hM2⟩ := hrow N n
      refine ⟨M + M2, fun e x he hx hh => ?_⟩
      by_cases ee : e = N
      · subst ee; exact (hM2 x hx hh).up (by omega)
      · exact (hM e x (by omega) hx hh).up (by omega)
  obtain ⟨M, hM⟩ := hall n
  exact ⟨M + 1, by omega, fun e x he hx hh => (hM e x he hx hh).up (by omega)⟩
/-- Where all ways are told nothing changes. -/
theorem still (ho : Ords nx n at_ ord pl rows) (k : Nat) (hk : 10 * n + 10 ≤ k) (M : Nat) (hM1 : 1 ≤ M) (hM : ∀ e x, e < n → x < n → (∃ m, AvN nx n e m x) → AvN nx n e M x) (over : List Int) (h : DI nx n at_ ord M over) :
    ∀ (l A : List Int) (ch : Bool), ord = A ++ l → (∃ A', A = 0 :: A') → passO k pl rows l over ch = some (over, ch)
  | [], A, ch, e, hA0 => rfl
  | x :: l, A, ch, e, hA0 => by
    obtain ⟨x, rfl, hxn⟩ := ho.isNat x (by rw [e]; simp)
    have hx0 : x ≠ 0 := by
      rintro rfl
      obtain ⟨A', rfl⟩ := hA0
      have := ho.nd
      rw [e, List.cons_append, List.nodup_cons] at this
      exact this.1 (by simp)
    have hx : (x : Int) ∈ ord := by rw [e]; simp
    obtain ⟨d, h1, h2, h3, h4, h5, h6, h7⟩ := one_ok ho k hk M A l x e hx0 over h (fun z hz => h.all hM1 z (by rw [e]; exact List.mem_append_left _ hz))
    have hlen : x < over.length := by rw [h.len]; exact hxn
    obtain ⟨y, hy⟩ := h.all hM1 x hx
    have hupy : at_ y < at_ x ∧ Pr over y := by
      rcases h.up x hx0 _ hy with e1 | ⟨y', e1, a, b, _⟩
      · omega
      · have : y = y' := by omega
        subst this
        exact ⟨a, b⟩
    have hdy : Anc over y d := by
      have a : Anc (over.set x (d : Int)) x d := Anc.step (set_eq hlen _) (Anc.refl _)
      have hno := h4 d a
      have hdom : Dom nx n d x := fun m' hm' => hno ((hM d x (h.lt d (h.mem h2)) hxn ⟨m', hm'⟩).up (by omega))
      have := h.safe x d ⟨y, hy⟩ hdom
      cases this with
      | refl => omega
      | @step _ y2 _ hy2 k1 =>
        rw [hy] at hy2
        have : y = y2 := by injection hy2 with h; omega
        subst this
        exact k1
    have hyd : Anc over d y := by
      have a : Anc over x y := Anc.step hy (Anc.refl _)
      have hno := h.upto x y ⟨y, hy⟩ a
      have hdom : Dom nx n y x := fun m' hm' => hno (hM y x (h.lt y (h.mem hupy.2)) hxn ⟨m', hm'⟩)
      have := h3.safe x y (h7 x ⟨y, hy⟩) hdom
      cases this with
      | refl => omega
      | @step _ y2 _ hy2 k1 =>
        rw [set_eq hlen] at hy2
        have : d = y2 := by injection hy2 with h; omega
        subst this
        exact (h5 d y h6 h2).1 k1
    have hdy2 := h.anti h2 hyd hdy
    subst hdy2
    have hset : over.set x (d : Int) = over := by
      apply List.ext_getElem?
      intro i
      by_cases ei : i = x
      · subst ei; rw [set_eq hlen, hy]
      · rw [List.getElem?_set_ne (fun h => ei h.symm)]
    rw [passO, Int.toNat_natCast, h1, Option.bind_some, hset, rd_some hy]
    have := still ho k hk M hM1 hM over h l (A ++ [(x : Int)]) ch (by rw [e, List.append_assoc]; rfl) (by obtain ⟨A', rfl⟩ := hA0; exact ⟨A' ++ [(x : Int)], rfl⟩)
    simpa using this
/-- What is so at the end. -/
theorem loop_ok (ho : Ords nx n at_ ord pl rows) (k : Nat) (hk : 10 * n + 10 ≤ k) (M : Nat) (hM1 : 1 ≤ M) (hM : ∀ e x, e < n → x < n → (∃ m, AvN nx n e m x) → AvN nx n e M x) : ∀ (r m : Nat) (over : List Int), M ≤ m + r → DI nx n at_ ord m over → ∀ f, r < f →
    ∃ over', loopO k pl rows (ord.drop 1) f over = some over' ∧ DI nx n at_ ord M over'
  | 0, m, over, hr, h, f, hf => by
    obtain ⟨f, rfl⟩ : ∃ j, f = j + 1 := ⟨f - 1, by omega⟩
    have h' : DI nx n at_ ord M over := ⟨h.toDT, h.safe, fun x e hx he hav => h.upto x e hx he (hav.up (by omega)), fun _ => h.all (by omega)⟩
    have hs := still ho k hk M hM1 hM over h' (ord.drop 1) [0] false (ord_drop ho) ⟨[], rfl⟩
    refine ⟨over, ?_, h'⟩
    rw [loopO, hs]
    rfl
  | r + 1, m, over, hr, h, f, hf => by
    obtain ⟨f, rfl⟩ : ∃ j, f = j + 1 := ⟨f - 1, by omega⟩
    obtain ⟨over', ch', g1, g2, g3⟩ := round_ok ho k hk m over h
    cases ch' with
    | true =>
      obtain ⟨o2, k1, k2⟩ := loop_ok ho k hk M hM1 hM r (m + 1) over' (by omega) g2 f (by omega)
      refine ⟨o2, ?_, k2⟩
      rw [loopO, g1, Option.bind_some, if_pos rfl]
      exact k1
    | false =>
      have e := g3 rfl
      subst e
      have hrep : ∀ j, DI nx n at_ ord (m + 1 + j) over' := by
        intro j
        induction j with
        | zero => exact g2
        | succ j ih =>
          obtain ⟨o3, c3, k1, k2, k3⟩ := round_ok ho k hk (m + 1 + j) over' ih
          rw [g1] at k1
          simp only [Option.some.injEq, Prod.mk.injEq] at k1
          obtain ⟨rfl, rfl⟩ := k1
          exact k2
      have hb := hrep M
      refine ⟨over', ?_, ⟨hb.toDT, hb.safe, fun x e hx he hav => hb.upto x e hx he (hav.up (by omega)), fun _ => hb.all (by omega)⟩⟩
      rw [loopO, g1, Option.bind_some, if_neg (by simp)]
end
end Go.Proofs.Ytpfbfnbffglbkaa.P
/- flow.Over's rows are what stands over each: plain; no statement of the seat. -/
set_option linter.unusedVariables false
set_option linter.unusedSimpArgs false
namespace Go.Proofs.Ytpfbfnbffglbkaa.P
open Go.RowKit Go.Proofs.YtpfbfnbffglbkaaW.PrintWords Go.Proofs.YtpfbfnbffglbkaaW.PrintLast Go.Proofs.YtpfbfnbffglbkaaW.PrintMore
theorem rowP_mem (n i : Nat) : ∀ (l : List Int) (p : Int × Int), p ∈ rowP n i l ↔ (p.1 = (i : Int) ∧ p.2 ∈ l ∧ isN n p.2 = true)
  | [], p => by simp [rowP]
  | t :: l, p => by
    rw [rowP]
    have ih := rowP_mem n i l p
    by_cases h : isN n t = true
    · rw [if_pos h, List.mem_cons, ih]
      constructor
      · rintro (rfl | ⟨h1, h2, h3⟩)
        · exact ⟨rfl, List.mem_cons_self, h⟩
        · exact ⟨h1, List.mem_cons_of_mem _ h2, h3⟩
      · rintro ⟨h1, h2, h3⟩
        rcases List.mem_cons.1 h2 with h2 | h2
        · exact Or.inl (Prod.ext h1 h2)
        · exact Or.inr ⟨h1, h2, h3⟩
    · rw [if_neg h, ih]
      constructor
      · rintro ⟨h1, h2, h3⟩
        exact ⟨h1, List.mem_cons_of_mem _ h2, h3⟩
      · rintro ⟨h1, h2, h3⟩
        rcases List.mem_cons.1 h2 with h2 | h2
        · exact absurd (by rw [← h2]; exact h3) h
        · exact ⟨h1, h2, h3⟩
theorem behR_mem (b : List S30) (n : Nat) : ∀ (d i : Nat) (p : Int × Int), p ∈ behR b n d i ↔ ∃ j : Nat, i ≤ j ∧ j < i + d ∧ p.1 = (j : Int) ∧ p.2 ∈ nxB b j ∧ isN n p.2 = true
  | 0, i, p => by
    rw [behR]
    constructor
    · intro h; simp at h
    · rintro ⟨j, h1, h2, _⟩; omega
  | d + 1, i, p => by
    rw [behR, List.mem_append, rowP_mem, behR_mem b n d (i + 1) p]
    constructor
    · rintro (⟨h1, h2, h3⟩ | ⟨j, h1, h2, h3⟩)
      · exact ⟨i, Nat.le_refl _, by omega, h1, h2, h3⟩
      · exact ⟨j, by omega, by omega, h3⟩
    · rintro ⟨j, h1, h2, h3, h4, h5⟩
      by_cases e : j = i
      · subst e
        exact Or.inl ⟨h3, h4, h5⟩
      · exact Or.inr ⟨j, by omega, by omega, h3, h4, h5⟩
theorem getD_set_self' {l : List (List Int)} {t : Nat} (h : t < l.length) (v : List Int) : (l.set t v).getD t [] = v := by rw [List.getD_eq_getElem?_getD, List.getElem?_set_self h]; rfl
theorem addP_mem (n : Nat) (t : Nat) (ht : t < n) (p : Int) : ∀ (xs : List (Int × Int)) (rows : List (List Int)), rows.length = n → (∀ q ∈ xs, isN n q.2 = true) → (p ∈ (xs.foldl addP rows).getD t [] ↔ (p ∈ rows.getD t [] ∨ (p, (t : Int)) ∈ xs))
  | [], rows, hr, hx => by simp
  | q :: xs, rows, hr, hx => by
    obtain ⟨j, hj, hjn⟩ := isN_nat (hx q List.mem_cons_self)
    rw [List.foldl_cons, addP_mem n t ht p xs (addP rows q) (by unfold addP; rw [List.length_set]; exact hr) (fun z hz => hx z (List.mem_cons_of_mem _ hz))]
    have hq : (p, (t : Int)) ∈ q :: xs ↔ ((p = q.1 ∧ (t : Int) = q.2) ∨ (p, (t : Int)) ∈ xs) := by
      rw [List.mem_cons, Prod.ext_iff]
    rw [hq]
    unfold addP
    rw [hj, Int.toNat_natCast]
    by_cases e : j = t
    · subst e
      rw [getD_set_self' (by omega), List.mem_append, List.mem_singleton]
      constructor
      · rintro ((h | h) | h)
        · exact Or.inl h
        · exact Or.inr (Or.inl ⟨h, hj ▸ rfl⟩)
        · exact Or.inr (Or.inr h)
      · rintro (h | ⟨h, _⟩ | h)
        · exact Or.inl (Or.inl h)
        · exact Or.inl (Or.inr h)
        · exact Or.inr h
    · rw [getD_set_ne e]
      constructor
      · rintro (h | h)
        · exact Or.inl h
        · exact Or.inr (Or.inr h)
      · rintro (h | ⟨_, h⟩ | h)
        · exact Or.inl h
        · omega
        · exact Or.inr h
theorem rows_ok (b : List S30) : RowsOK (nxB b) b.length (aheadB b) := by
  intro x hx p
  unfold aheadB
  rw [addP_mem b.length x hx p _ _ List.length_replicate (fun q hq => (behR_in b b.length b.length 0 q hq).2.2)]
  have h0 : ¬ p ∈ (List.replicate b.length ([] : List Int)).getD x [] := by
    rw [List.getD_eq_getElem?_getD, List.getElem?_replicate, if_pos hx]
    simp
  constructor
  · rintro (h | h)
    · exact absurd h h0
    · obtain ⟨j, h1, h2, h3, h4, h5⟩ := (behR_mem b b.length b.length 0 _).1 h
      exact ⟨j, h3, by omega, h4⟩
  · rintro ⟨j, h1, h2, h3⟩
    exact Or.inr ((behR_mem b b.length b.length 0 _).2 ⟨j, Nat.zero_le _, by omega, h1, h3, by unfold isN; rw [decide_eq_true (by omega), decide_eq_true (by omega)]; rfl⟩)
theorem rd_get_eq {l : List Int} {n x : Nat} {v : Int} (hl : l.length = n) (hx : x < n) (h : rd l (x : Int) = v) : l[x]? = some v := by
  rw [List.getElem?_eq_getElem (by omega), ← h, rd_of (by omega)]
/-- The order, as a round asks of it. -/
theorem ords_ok (b : List S30) (hb : 0 < b.length) : ∃ pos, PlB b.length (ordB b) (placeG (ordB b) 0 (List.replicate b.length 0)) pos ∧ Ords (nxB b) b.length pos (ordB b) (placeG (ordB b) 0 (List.replicate b.length 0)) (aheadB b) := by
  have hO := ordOK_B b hb
  have hP := plB (nxB b) b.length _ (ordB b) hO
  refine ⟨_, hP, ⟨⟨hP.len, fun x hx => rd_get_eq hP.len (((hO.reach x).1 hx).lt hb) (hP.at_ x hx).1⟩, fun x hx => ?_, rows_ok b, hO.reach, hO.isNat, fun A B x y e hy => hP.sorted hO.nd A B x y e hy, hO.first, hO.nd, hO.pred⟩⟩
  have := hP.at_ x hx
  have := hO.le
  omega
theorem di_start (b : List S30) (hb : 0 < b.length) (pos : Nat → Nat) (hP : PlB b.length (ordB b) (placeG (ordB b) 0 (List.replicate b.length 0)) pos) : DI (nxB b) b.length pos (ordB b) 0 ((List.replicate b.length (-1)).set 0 0) := by
  have hO := ordOK_B b hb
  have h0 : (0 : Int) ∈ ordB b := by obtain ⟨l', e'⟩ := hO.first; rw [e']; simp
  have hz0 : pos 0 = 0 := by
    obtain ⟨l', e'⟩ := hO.first
    exact hP.split hO.nd [] l' 0 (by rw [e']; rfl)
  have hz : ((List.replicate b.length (-1)).set 0 0)[0]? = some (0 : Int) := List.getElem?_set_self (by rw [List.length_replicate]; exact hb)
  have hne : ∀ x : Nat, x ≠ 0 → ∀ v : Int, ((List.replicate b.length (-1)).set 0 0)[x]? = some v → v = -1 := by
    intro x hx v hv
    rw [List.getElem?_set_ne (fun e => hx e.symm), List.getElem?_replicate] at hv
    split at hv
    · exact (Option.some.inj hv).symm
    · cases hv
  have hT : DT (nxB b) b.length pos (ordB b) ((List.replicate b.length (-1)).set 0 0) :=
    ⟨by simp, hz, fun x y hx hy e => hP.inj x y hx hy e, fun x hx => ((hO.reach x).1 hx).lt hb, h0, fun x hx => by omega, fun x hx v hv => Or.inl (hne x hx v hv)⟩
  have hpr : ∀ x, Pr ((List.replicate b.length (-1)).set 0 0) x → x = 0 := by
    rintro x ⟨y, hy⟩
    by_cases e : x = 0
    · exact e
    · have := hne x e _ hy
      omega
  refine ⟨hT, fun x e hx hd => ?_, fun x e hx ha hav => ?_, fun h => by omega⟩
  · have := hpr x hx
    subst this
    by_cases h : e = 0
    · subst h; exact Anc.refl 0
    · exact absurd (AvN.zero 0 h) (hd 0)
  · have := hpr x hx
    subst this
    exact hav.ne0 (hT.anc0 ha rfl)
/-- What flow.Over's rows are, for some number of steps that tells all ways. -/
theorem over_run (b : List S30) (hb : 0 < b.length) (hb2 : b.length ≤ 3600000000000) (hr : (behR b b.length b.length 0).length ≤ 1000000000000) :
    ∃ (pos : Nat → Nat) (M : Nat) (ov : List Int) (K : Nat), PlB b.length (ordB b) (placeG (ordB b) 0 (List.replicate b.length 0)) pos ∧ 1 ≤ M ∧ (∀ e x, e < b.length → x < b.length → (∃ m, AvN (nxB b) b.length e m x) → AvN (nxB b) b.length e M x) ∧
      DI (nxB b) b.length pos (ordB b) M ov ∧ ∀ k, K ≤ k → flow_Over.f k b = some (ov.set 0 (-1)) := by
  obtain ⟨pos, hP, ho⟩ := ords_ok b hb
  obtain ⟨M, hM1, hM⟩ := enough (nxB b) b.length
  have h0 := di_start b hb pos hP
  have hlen : 0 < (ordB b).length := by obtain ⟨l', e'⟩ := (ordOK_B b hb).first; rw [e']; simp
  obtain ⟨ov, h1, h2⟩ := loop_ok ho (10 * b.length + 10 + M + 1) (by omega) M hM1 hM M 0 _ (by omega) h0 (10 * b.length + 10 + M + 1) (by omega)
  have hf : flow_Over.f (10 * b.length + 10 + M + 1) b = some (ov.set 0 (-1)) := by
    unfold flow_Over.f overF
    rw [if_pos ⟨hb2, hr⟩, if_pos hlen, h1, Option.map_some, if_pos hlen]
  exact ⟨pos, M, ov, 10 * b.length + 10 + M + 1, hP, hM1, hM, h2, fun k hk => at_rounds (fun k => flow_Over.mono b k) hk hf⟩
/-- Who is seen without one. -/
theorem walk_av (b : List S30) (hb : 0 < b.length) (d i : Nat) (hi : i < b.length) : (walkB b (d : Int)).1[i]? = some true ↔ ∃ m, AvN (nxB b) b.length d m i := by
  unfold walkB
  by_cases hd : d = 0
  · subst hd
    rw [if_pos (Or.inr (by rfl : ((0 : Nat) : Int) = 0))]
    constructor
    · intro h
      rw [List.getElem?_replicate, if_pos hi] at h
      cases h
    · rintro ⟨m, h⟩
      exact absurd rfl h.ne0
  · rw [if_neg (by omega)]
    have hO := ord_ok (nxw (nxB b) (d : Int)) b.length hb
    rw [hO.seen i hi, hO.reach i]
    constructor
    · intro h
      induction h with
      | refl => exact ⟨0, AvN.zero 0 hd⟩
      | @step j k hj hk hm ih =>
        obtain ⟨m, ih⟩ := ih (hj.lt hb)
        unfold nxw at hm
        rw [List.mem_filter] at hm
        refine ⟨m + 1, AvN.step ih hk hm.1 ?_⟩
        have := hm.2
        simp at this
        omega
    · rintro ⟨m, h⟩
      induction h with
      | zero => exact Rch.refl 0
      | @step m z x hz hx hm hne ih =>
        refine Rch.step (ih (hz.rch.lt hb)) hx ?_
        unfold nxw
        rw [List.mem_filter]
        refine ⟨hm, ?_⟩
        simp
        omega
theorem walkB_len' (b : List S30) (hb : 0 < b.length) (wo : Int) : (walkB b wo).1.length = b.length := by
  unfold walkB
  split
  · exact List.length_replicate
  · exact (ord_ok (nxw (nxB b) wo) b.length hb).len
end Go.Proofs.Ytpfbfnbffglbkaa.P
