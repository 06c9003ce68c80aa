/- pianolaref10.back: plain; no statement of the seat. -/
import Derived.Test.YtpfbfnbffglbkaaPF48
import Derived.Test.YtpfbfnbffglbkaaFlowH
set_option linter.unusedVariables false
set_option linter.unusedSimpArgs false
namespace Go.Proofs.Ytpfbfnbffglbkaa.Pure
open Go.RowKit Go.Proofs.Ytpfbfnbffglbkaa.P Go.Proofs.YtpfbfnbffglbkaaW.PrintWords Go.Proofs.YtpfbfnbffglbkaaW.PrintLast Go.Proofs.YtpfbfnbffglbkaaW.PrintMore
theorem lives_ev : Ev (fun k => pianolalaw10_lives.f k) true := ⟨60, fun k hk => gasLives_at k hk⟩
def rb (l : List Bool) (i : Nat) : Bool := l.getD i false
theorem rdOf_nat (l : List Bool) (i : Nat) : rdOf false l (i : Int) = rb l i := by unfold rdOf rb; rw [Int.toNat_natCast]
theorem rb_set {l : List Bool} {i : Nat} (h : i < l.length) (v : Bool) (j : Nat) : rb (l.set i v) j = if j = i then v else rb l j := by
  unfold rb
  rw [List.getD_eq_getElem?_getD, List.getD_eq_getElem?_getD]
  by_cases e : j = i
  · subst e
    rw [List.getElem?_set_self h, if_pos rfl]
    rfl
  · rw [List.getElem?_set_ne (fun k => e k.symm), if_neg e]
theorem rb_seen {l : List Bool} {i : Nat} : rb l i = true ↔ l[i]? = some true := by
  unfold rb
  rw [List.getD_eq_getElem?_getD]
  cases h : l[i]? with
  | none => simp
  | some v => simp
/-! ### back -/
def endsG (n : Nat) (gone : List Bool) (l : List Int) : Bool := l.all fun t => !(isN n t) || rb gone t.toNat
def stepG (nx : Nat → List Int) (n : Nat) (gone : List Bool) (x : Nat) : List Bool := if endsG n gone (nx x) = true then gone.set x true else gone
def passG (nx : Nat → List Int) (n : Nat) : Nat → Nat → List Bool → List Bool
  | 0, _, gone => gone
  | d + 1, x, gone => passG nx n d (x + 1) (stepG nx n gone x)
def allG (nx : Nat → List Int) (n : Nat) : Nat → List Bool → List Bool
  | 0, gone => gone
  | d + 1, gone => allG nx n d (passG nx n n 0 gone)
def leftG (seen gone : List Bool) : Nat → Nat → Bool
  | 0, _ => false
  | d + 1, x => if rb seen x = true ∧ rb gone x = false then true else leftG seen gone d (x + 1)
def backG (b : List S30) : Bool := leftG (walkB b (-1)).1 (allG (nxB b) b.length b.length (List.replicate b.length false)) b.length 0
theorem stepG_len (nx : Nat → List Int) (n : Nat) (gone : List Bool) (x : Nat) : (stepG nx n gone x).length = gone.length := by
  unfold stepG
  split
  · exact List.length_set
  · rfl
theorem passG_len (nx : Nat → List Int) (n : Nat) : ∀ (d x : Nat) (gone : List Bool), (passG nx n d x gone).length = gone.length
  | 0, x, gone => rfl
  | d + 1, x, gone => by rw [passG, passG_len nx n d, stepG_len]
theorem allG_len (nx : Nat → List Int) (n : Nat) : ∀ (d : Nat) (gone : List Bool), (allG nx n d gone).length = gone.length
  | 0, gone => rfl
  | d + 1, gone => by rw [allG, allG_len nx n d, passG_len]
section
variable (b : List S30) (hb : b.length ≤ 40) (hnl : ∀ x : Nat, x < b.length → (nxB b x).length ≤ 17592186044415) (seen : List Bool) (hs : seen.length = b.length) (r : Bool)
include hb hnl hs
theorem back_l3 (gone : List Bool) (hg : gone.length = b.length) : ∀ (d x : Nat), x + d = b.length → Ev (fun k => pianolaref10_back.l3 k b seen gone (x : Int)) (leftG seen gone d x)
  | 0, x, hx => by
    have _u := hnl
    refine ⟨1, fun k hk => ?_⟩
    obtain ⟨k, rfl⟩ : ∃ m, k = m + 1 := ⟨k - 1, by omega⟩
    simp only [pianolaref10_back.l3]
    rw [if_neg (by omega)]
    rfl
  | d + 1, x, hx => by
    have ih := back_l3 gone hg d (x + 1) (by omega)
    rw [leftG]
    by_cases h1 : rb seen x = true
    · by_cases h2 : rb gone x = true
      · rw [if_neg (by rw [h2]; simp)]
        refine Ev.step (fun k => ?_) ih
        simp only [pianolaref10_back.l3]
        rw [if_pos (by omega), if_pos (by omega), if_pos (by omega), rdOf_nat, rdOf_nat, if_pos h1, if_pos (by omega), if_pos h2, w1 x (by omega)]
      · rw [if_pos ⟨h1, by simpa using h2⟩]
        refine ⟨1, fun k hk => ?_⟩
        obtain ⟨k, rfl⟩ : ∃ m, k = m + 1 := ⟨k - 1, by omega⟩
        simp only [pianolaref10_back.l3]
        rw [if_pos (by omega), if_pos (by omega), if_pos (by omega), rdOf_nat, rdOf_nat, if_pos h1, if_pos (by omega), if_neg h2]
    · rw [if_neg (fun h => h1 h.1)]
      refine Ev.step (fun k => ?_) ih
      simp only [pianolaref10_back.l3]
      rw [if_pos (by omega), if_pos (by omega), if_pos (by omega), rdOf_nat, if_neg h1, w1 x (by omega)]
theorem back_l2 (rnd : Int) (x : Nat) (hx : x < b.length) (gone : List Bool) (hg : gone.length = b.length) : ∀ (d q : Nat) (e : Bool), q + d = (nxB b x).length →
    Ev (fun k => pianolaref10_back.l1 k b seen (if (e && endsG b.length gone ((nxB b x).drop q)) = true then gone.set x true else gone) rnd ((x + 1 : Nat) : Int)) r →
    Ev (fun k => pianolaref10_back.l2 k b seen gone rnd (x : Int) e (q : Int)) r
  | 0, q, e, hq, h => by
    rw [List.drop_eq_nil_of_le (by omega)] at h
    have hnb : nxB b x = (rd_T30 b (x : Int)).f2 := rfl
    rw [hnb] at hq
    refine Ev.step (fun k => ?_) h
    simp only [pianolaref10_back.l2]
    rw [if_pos (by omega), if_pos (by omega), if_neg (by omega)]
    cases e with
    | true =>
      rw [if_pos rfl, if_pos (by omega), w1 x (by omega), Int.toNat_natCast]
      rfl
    | false =>
      rw [if_neg (by simp), w1 x (by omega)]
      rfl
  | d + 1, q, e, hq, h => by
    have hlt : q < (nxB b x).length := by omega
    have hr := rd_of hlt
    have hn := hnl x hx
    rw [List.drop_eq_getElem_cons hlt] at h
    obtain ⟨t, ht⟩ : ∃ t, (nxB b x)[q] = t := ⟨_, rfl⟩
    rw [ht] at hr h
    have ih := fun e' => back_l2 rnd x hx gone hg d (q + 1) e' (by omega)
    have hE : endsG b.length gone (t :: (nxB b x).drop (q + 1)) = ((!(isN b.length t) || rb gone t.toNat) && endsG b.length gone ((nxB b x).drop (q + 1))) := rfl
    rw [hE] at h
    have hnb : nxB b x = (rd_T30 b (x : Int)).f2 := rfl
    rw [hnb] at hq hr hlt hn
    by_cases hN : isN b.length t = true
    · obtain ⟨j, rfl, hj⟩ := isN_nat hN
      rw [hN, Int.toNat_natCast] at h
      by_cases hj2 : rb gone j = true
      · rw [hj2] at h
        refine Ev.step (fun k => ?_) (ih e (by simpa using h))
        simp only [pianolaref10_back.l2]
        rw [if_pos (by omega), if_pos (by omega), if_pos (by omega), if_pos (by omega), hr, if_pos (by omega), if_pos (by omega), if_pos (by omega), if_pos (by omega), rdOf_nat, if_pos hj2, w1 q (by omega)]
      · have hj3 : rb gone j = false := by simpa using hj2
        rw [hj3] at h
        refine Ev.step (fun k => ?_) (ih false (by simpa using h))
        simp only [pianolaref10_back.l2]
        rw [if_pos (by omega), if_pos (by omega), if_pos (by omega), if_pos (by omega), hr, if_pos (by omega), if_pos (by omega), if_pos (by omega), if_pos (by omega), rdOf_nat, if_neg hj2, w1 q (by omega)]
    · have hN2 : isN b.length t = false := by simpa using hN
      rw [hN2] at h
      refine Ev.step (fun k => ?_) (ih e (by simpa using h))
      unfold isN at hN
      simp only [pianolaref10_back.l2]
      rw [if_pos (by omega), if_pos (by omega), if_pos (by omega), if_pos (by omega), hr]
      by_cases h0 : t ≥ 0
      · rw [if_pos h0, if_neg (fun h => hN (by rw [decide_eq_true (show 0 ≤ t from h0), decide_eq_true h]; rfl)), w1 q (by omega)]
      · rw [if_neg h0, w1 q (by omega)]
theorem back_l1 (rnd : Nat) (hr : rnd < b.length) : ∀ (d x : Nat) (gone : List Bool), gone.length = b.length → x + d = b.length →
    Ev (fun k => pianolaref10_back.l0 k b seen (passG (nxB b) b.length d x gone) ((rnd + 1 : Nat) : Int)) r → Ev (fun k => pianolaref10_back.l1 k b seen gone (rnd : Int) (x : Int)) r
  | 0, x, gone, hg, hx, h => by
    refine Ev.step (fun k => ?_) h
    simp only [pianolaref10_back.l1]
    rw [if_neg (by omega), w1 rnd (by omega)]
    rfl
  | d + 1, x, gone, hg, hx, h => by
    refine Ev.step (fun k => ?_) (back_l2 b hb hnl seen hs r (rnd : Int) x (by omega) gone hg (nxB b x).length 0 true (by omega) ?_)
    · simp only [pianolaref10_back.l1]
      rw [if_pos (by omega)]
      rfl
    · rw [List.drop_zero, Bool.true_and]
      exact back_l1 rnd hr d (x + 1) (stepG (nxB b) b.length gone x) (by rw [stepG_len]; exact hg) (by omega) h
theorem back_l0 : ∀ (d rnd : Nat) (gone : List Bool), gone.length = b.length → rnd + d = b.length →
    Ev (fun k => pianolaref10_back.l3 k b seen (allG (nxB b) b.length d gone) 0) r → Ev (fun k => pianolaref10_back.l0 k b seen gone (rnd : Int)) r
  | 0, rnd, gone, hg, hx, h => by
    refine Ev.step (fun k => ?_) h
    simp only [pianolaref10_back.l0]
    rw [if_neg (by omega)]
    rfl
  | d + 1, rnd, gone, hg, hx, h => by
    refine Ev.step (fun k => ?_) (back_l1 b hb hnl seen hs r rnd (by omega) b.length 0 gone hg (by omega) (back_l0 d (rnd + 1) _ (by rw [passG_len]; exact hg) (by omega) h))
    simp only [pianolaref10_back.l0]
    rw [if_pos (by omega)]
    rfl
end
theorem back_ev (b : List S30) (hb : b.length ≤ 40) (hnl : ∀ x : Nat, x < b.length → (nxB b x).length ≤ 17592186044415) : Ev (fun k => pianolaref10_back.f k b) (backG b) := by
  have h3 := back_l3 b hb hnl (walkB b (-1)).1 (walkB_len b) (allG (nxB b) b.length b.length (List.replicate b.length false)) (by rw [allG_len, List.length_replicate]) b.length 0 (by omega)
  have h0 := back_l0 b hb hnl (walkB b (-1)).1 (walkB_len b) (backG b) b.length 0 (List.replicate b.length false) List.length_replicate (by omega) h3
  refine Ev.congr (fun k => ?_) h0
  unfold pianolaref10_back.f
  rw [walk_run b (-1) (by omega), Option.bind_some, if_pos (by omega), if_pos (by omega), Int.toNat_natCast]
  rfl
theorem leftG_iff (seen gone : List Bool) : ∀ (d x : Nat), leftG seen gone d x = true ↔ ∃ j, x ≤ j ∧ j < x + d ∧ rb seen j = true ∧ rb gone j = false
  | 0, x => by
    rw [leftG]
    constructor
    · intro h; cases h
    · rintro ⟨j, h1, h2, _⟩; omega
  | d + 1, x => by
    rw [leftG]
    have ih := leftG_iff seen gone d (x + 1)
    by_cases h : rb seen x = true ∧ rb gone x = false
    · rw [if_pos h]
      exact ⟨fun _ => ⟨x, Nat.le_refl _, by omega, h⟩, fun _ => rfl⟩
    · rw [if_neg h, ih]
      constructor
      · rintro ⟨j, h1, h2, h3⟩
        exact ⟨j, by omega, by omega, h3⟩
      · rintro ⟨j, h1, h2, h3⟩
        refine ⟨j, ?_, by omega, h3⟩
        rcases Nat.lt_or_ge x j with h4 | h4
        · omega
        · have : j = x := by omega
          subst this
          exact absurd h3 h
section
variable {nx : Nat → List Int} {n : Nat}
theorem endsG_iff (gone : List Bool) (l : List Int) : endsG n gone l = true ↔ ∀ t : Nat, t < n → (t : Int) ∈ l → rb gone t = true := by
  unfold endsG
  rw [List.all_eq_true]
  constructor
  · intro h t ht hm
    have := h _ hm
    rw [isN_of ht, Int.toNat_natCast] at this
    simpa using this
  · intro h t hm
    cases hn : isN n t with
    | false => rfl
    | true =>
      obtain ⟨j, rfl, hj⟩ := isN_nat hn
      rw [Int.toNat_natCast, h j hj hm]
      rfl
theorem stepG_mono (gone : List Bool) (x : Nat) (hx : x < gone.length) (j : Nat) (h : rb gone j = true) : rb (stepG nx n gone x) j = true := by
  unfold stepG
  split
  · rw [rb_set hx]
    split
    · rfl
    · exact h
  · exact h
theorem passG_mono : ∀ (d x : Nat) (gone : List Bool), gone.length = n → x + d ≤ n → ∀ j, rb gone j = true → rb (passG nx n d x gone) j = true
  | 0, x, gone, hg, hx, j, h => h
  | d + 1, x, gone, hg, hx, j, h => passG_mono d (x + 1) _ (by rw [stepG_len]; exact hg) (by omega) j (stepG_mono gone x (by omega) j h)
/-- Whose others are all gone is gone. -/
theorem passG_sets : ∀ (d x : Nat) (gone : List Bool), gone.length = n → x + d = n → ∀ j, x ≤ j → j < n → (∀ t : Nat, t < n → (t : Int) ∈ nx j → rb gone t = true) → rb (passG nx n d x gone) j = true
  | 0, x, gone, hg, hx, j, h1, h2, h => by omega
  | d + 1, x, gone, hg, hx, j, h1, h2, h => by
    rw [passG]
    by_cases e : j = x
    · subst e
      refine passG_mono d (j + 1) _ (by rw [stepG_len]; exact hg) (by omega) j ?_
      unfold stepG
      rw [if_pos ((endsG_iff gone (nx j)).2 h), rb_set (by omega), if_pos rfl]
    · exact passG_sets d (x + 1) _ (by rw [stepG_len]; exact hg) (by omega) j (by omega) h2 (fun t ht hm => stepG_mono gone x (by omega) t (h t ht hm))
theorem allG_sets (pos : Nat → Nat) (ord : List Int) (hup : ∀ x t : Nat, (x : Int) ∈ ord → t < n → (t : Int) ∈ nx x → pos x < pos t ∧ (t : Int) ∈ ord) (hlt : ∀ x : Nat, (x : Int) ∈ ord → x < n ∧ pos x < n) : ∀ (d c : Nat) (gone : List Bool), gone.length = n → c + d = n →
    (∀ x : Nat, (x : Int) ∈ ord → n ≤ pos x + c → rb gone x = true) → ∀ x : Nat, (x : Int) ∈ ord → rb (allG nx n d gone) x = true
  | 0, c, gone, hg, hc, h, x, hx => h x hx (by omega)
  | d + 1, c, gone, hg, hc, h, x, hx => by
    refine allG_sets pos ord hup hlt d (c + 1) _ (by rw [passG_len]; exact hg) (by omega) (fun y hy hyc => ?_) x hx
    refine passG_sets n 0 gone hg (by omega) y (Nat.zero_le _) (hlt y hy).1 (fun t ht hm => ?_)
    have := hup y t hy ht hm
    exact h t this.2 (by omega)
/-- Of those that lead to each other none goes. -/
theorem stepG_keeps (S : Nat → Prop) (hS : ∀ y, S y → ∃ t : Nat, t < n ∧ (t : Int) ∈ nx y ∧ S t) (gone : List Bool) (x : Nat) (hx : x < gone.length) (h : ∀ y, S y → rb gone y = false) : ∀ y, S y → rb (stepG nx n gone x) y = false := by
  intro y hy
  unfold stepG
  split
  · rename_i he
    rw [rb_set hx]
    split
    · rename_i e
      subst e
      obtain ⟨t, ht, hm, hst⟩ := hS y hy
      have := (endsG_iff gone (nx y)).1 he t ht hm
      rw [h t hst] at this
      cases this
    · exact h y hy
  · exact h y hy
theorem passG_keeps (S : Nat → Prop) (hS : ∀ y, S y → ∃ t : Nat, t < n ∧ (t : Int) ∈ nx y ∧ S t) : ∀ (d x : Nat) (gone : List Bool), gone.length = n → x + d ≤ n → (∀ y, S y → rb gone y = false) → ∀ y, S y → rb (passG nx n d x gone) y = false
  | 0, x, gone, hg, hx, h => h
  | d + 1, x, gone, hg, hx, h => passG_keeps S hS d (x + 1) _ (by rw [stepG_len]; exact hg) (by omega) (stepG_keeps S hS gone x (by omega) h)
theorem allG_keeps (S : Nat → Prop) (hS : ∀ y, S y → ∃ t : Nat, t < n ∧ (t : Int) ∈ nx y ∧ S t) : ∀ (d : Nat) (gone : List Bool), gone.length = n → (∀ y, S y → rb gone y = false) → ∀ y, S y → rb (allG nx n d gone) y = false
  | 0, gone, hg, h => h
  | d + 1, gone, hg, h => allG_keeps S hS d _ (by rw [passG_len]; exact hg) (passG_keeps S hS n 0 gone hg (by omega) h)
theorem rch_head {x y : Nat} (h : Rch nx n x y) : x = y ∨ ∃ z : Nat, z < n ∧ (z : Int) ∈ nx x ∧ Rch nx n z y := by
  induction h with
  | refl => exact Or.inl rfl
  | @step j k hj hk hm ih =>
    rcases ih with rfl | ⟨z, h1, h2, h3⟩
    · exact Or.inr ⟨k, hk, hm, Rch.refl _⟩
    · exact Or.inr ⟨z, h1, h2, Rch.step h3 hk hm⟩
end
theorem rb_rep (n j : Nat) : rb (List.replicate n false) j = false := by
  unfold rb
  rw [List.getD_eq_getElem?_getD, List.getElem?_replicate]
  split <;> rfl
theorem back_no (b : List S30) (hb : 0 < b.length) (costs : List Int) (pos : Nat → Nat) (L : Int) (hP : PlB b.length (ordB b) (placeG (ordB b) 0 (List.replicate b.length 0)) pos) (hG : GoodG (nxB b) b.length costs pos (ordB b) L) : backG b = false := by
  have hO := ordOK_B b hb
  rw [← Bool.not_eq_true]
  intro h
  obtain ⟨j, _, hj, h1, h2⟩ := (leftG_iff _ _ b.length 0).1 h
  have hj' : j < b.length := by omega
  have hjo := (hO.seen j hj').1 (rb_seen.1 h1)
  have := allG_sets (nx := nxB b) (n := b.length) pos (ordB b) (fun x t hx ht hm => ⟨hG.up x t hx ht hm, (hO.reach t).2 (Rch.step ((hO.reach x).1 hx) ht hm)⟩) (fun x hx => ⟨((hO.reach x).1 hx).lt hb, by have := hP.at_ x hx; have := hO.le; omega⟩) b.length 0 (List.replicate b.length false) List.length_replicate (by omega) (fun x hx hc => by
    have := hP.at_ x hx
    have := hO.le
    omega) j hjo
  rw [h2] at this
  cases this
theorem back_yes (b : List S30) (hb : 0 < b.length) (pos : Nat → Nat) (hP : PlB b.length (ordB b) (placeG (ordB b) 0 (List.replicate b.length 0)) pos) (x t : Nat) (hx : (x : Int) ∈ ordB b) (ht : t < b.length) (hm : (t : Int) ∈ nxB b x) (hp : pos t ≤ pos x) : backG b = true := by
  have hO := ordOK_B b hb
  have hxn := ((hO.reach x).1 hx).lt hb
  obtain ⟨A, B, e⟩ := List.append_of_mem hx
  have hcyc : Rch (nxB b) b.length t x := by
    rcases hO.back A B x e t ht hm with h | h
    · exfalso
      obtain ⟨C, D, rfl⟩ := List.append_of_mem h
      have h1 := hP.split hO.nd A _ x e
      have h2 := hP.split hO.nd (A ++ (x : Int) :: C) D t (by rw [e]; simp)
      rw [List.length_append, List.length_cons] at h2
      omega
    · exact h
  refine (leftG_iff _ _ b.length 0).2 ⟨x, Nat.zero_le _, by omega, rb_seen.2 ((hO.seen x hxn).2 hx), ?_⟩
  refine allG_keeps (fun y => Rch (nxB b) b.length t y ∧ Rch (nxB b) b.length y x) (fun y hy => ?_) b.length _ List.length_replicate (fun y _ => rb_rep _ _) x ⟨hcyc, Rch.refl x⟩
  rcases rch_head hy.2 with e1 | ⟨z, h1, h2, h3⟩
  · subst e1
    exact ⟨t, ht, hm, Rch.refl t, hcyc⟩
  · exact ⟨z, h1, h2, Rch.step hy.1 h1 h2, h3⟩
end Go.Proofs.Ytpfbfnbffglbkaa.Pure
