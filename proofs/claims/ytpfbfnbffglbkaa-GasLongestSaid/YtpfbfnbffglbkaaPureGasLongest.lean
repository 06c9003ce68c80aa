/- The dearest way through any blocks: the plain part. -/
import Derived.Test.YtpfbfnbffglbkaaQGasLongest
import Derived.Test.YtpfbfnbffglbkaaFlowM
set_option linter.unusedVariables false
set_option linter.unusedSimpArgs false
namespace Go.Proofs.Ytpfbfnbffglbkaa.Pure
open Go.RowKit Go.Proofs.Ytpfbfnbffglbkaa.P Go.Proofs.YtpfbfnbffglbkaaW.PrintWords Go.Proofs.YtpfbfnbffglbkaaW.PrintLast Go.Proofs.YtpfbfnbffglbkaaW.PrintMore
/-- The costs known so far: of each block, whether it has one, the most, whether any changed. -/
structure BF where
  best : List Int
  known : List Bool
  most : Int
  ch : Bool
def stepF (costs : List Int) (n : Nat) (x : Nat) (t : Int) (st : BF) : Option BF :=
  if isN n t = true then
    (if rd costs t > mostG - rd st.best (x : Int) then none
     else if rb st.known t.toNat = false ∨ rd st.best (x : Int) + rd costs t > rd st.best t then
       some ⟨st.best.set t.toNat (rd st.best (x : Int) + rd costs t), st.known.set t.toNat true, if rd st.best (x : Int) + rd costs t > st.most then rd st.best (x : Int) + rd costs t else st.most, true⟩
     else some st)
  else some st
def rowF (costs : List Int) (n : Nat) (x : Nat) : List Int → BF → Option BF
  | [], st => some st
  | t :: l, st => (stepF costs n x t st).bind (rowF costs n x l)
def oneF (nx : Nat → List Int) (costs : List Int) (n : Nat) (x : Nat) (st : BF) : Option BF := if rb st.known x = true then rowF costs n x (nx x) st else some st
def passF (nx : Nat → List Int) (costs : List Int) (n : Nat) : Nat → Nat → BF → Option BF
  | 0, _, st => some st
  | d + 1, x, st => (oneF nx costs n x st).bind (passF nx costs n d (x + 1))
def loopF (nx : Nat → List Int) (costs : List Int) (n : Nat) : Nat → BF → Option BF
  | 0, st => some st
  | d + 1, st => (passF nx costs n n 0 { st with ch := false }).bind fun st' => if st'.ch = true then loopF nx costs n d st' else some st'
/-- What holds of them. -/
structure BOK (nx : Nat → List Int) (costs : List Int) (n : Nat) (st : BF) : Prop where
  bl : st.best.length = n
  kl : st.known.length = n
  bd : ∀ j : Nat, j < n → 0 ≤ rd st.best (j : Int) ∧ rd st.best (j : Int) ≤ mostG
  att : ∀ j : Nat, j < n → rb st.known j = true → ∃ m, PS nx n costs m j (rd st.best (j : Int))
  le : ∀ j : Nat, j < n → rb st.known j = true → rd st.best (j : Int) ≤ st.most
  ms : ∃ m x, PS nx n costs m x st.most
  mb : 0 ≤ st.most ∧ st.most ≤ mostG
structure BLe (n : Nat) (a b : BF) : Prop where
  known : ∀ j : Nat, j < n → rb a.known j = true → rb b.known j = true
  best : ∀ j : Nat, j < n → rb a.known j = true → rd a.best (j : Int) ≤ rd b.best (j : Int)
theorem BLe.refl (n : Nat) (a : BF) : BLe n a a := ⟨fun _ _ h => h, fun _ _ _ => Int.le_refl _⟩
theorem BLe.trans {n : Nat} {a b c : BF} (h : BLe n a b) (k : BLe n b c) : BLe n a c := ⟨fun j hj hk => k.known j hj (h.known j hj hk), fun j hj hk => Int.le_trans (h.best j hj hk) (k.best j hj (h.known j hj hk))⟩
def TooG (nx : Nat → List Int) (n : Nat) (costs : List Int) : Prop := ∃ (m x : Nat) (s : Int), PS nx n costs m x s ∧ s > mostG
section
variable {nx : Nat → List Int} {costs : List Int} {n : Nat} (hc : ∀ j : Nat, j < n → 0 ≤ rd costs (j : Int))
include hc
theorem stepF_some {x : Nat} (hx : x < n) {t : Nat} (ht : t < n) (hm : (t : Int) ∈ nx x) {st st' : BF} (h : BOK nx costs n st) (hk : rb st.known x = true) (hs : stepF costs n x (t : Int) st = some st') :
    BOK nx costs n st' ∧ BLe n st st' ∧ rb st'.known t = true ∧ rd st.best (x : Int) + rd costs (t : Int) ≤ rd st'.best (t : Int) ∧ rd costs (t : Int) ≤ mostG - rd st.best (x : Int) ∧ (st'.ch = false → st' = st) := by
  unfold stepF at hs
  rw [if_pos (isN_of ht), Int.toNat_natCast] at hs
  obtain ⟨m, hps⟩ := h.att x hx hk
  have hbx := h.bd x hx
  have hct := hc t ht
  by_cases h1 : rd costs (t : Int) > mostG - rd st.best (x : Int)
  · rw [if_pos h1] at hs; cases hs
  · rw [if_neg h1] at hs
    have hps' := PS.step hps ht hm
    by_cases h2 : rb st.known t = false ∨ rd st.best (x : Int) + rd costs (t : Int) > rd st.best (t : Int)
    · rw [if_pos h2, Option.some.injEq] at hs
      obtain ⟨v, hv⟩ : ∃ v, rd st.best (x : Int) + rd costs (t : Int) = v := ⟨_, rfl⟩
      rw [hv] at hs h2 hps'
      have b1 : ∀ j : Nat, rd (st.best.set t v) (j : Int) = if j = t then v else rd st.best (j : Int) := fun j => rd_set (by rw [h.bl]; exact ht) v j
      have k1 : ∀ j : Nat, rb (st.known.set t true) j = if j = t then true else rb st.known j := fun j => rb_set (by rw [h.kl]; exact ht) true j
      have hmst := h.mb
      subst hs
      refine ⟨⟨by rw [List.length_set]; exact h.bl, by rw [List.length_set]; exact h.kl, fun j hj => ?_, fun j hj hjk => ?_, fun j hj hjk => ?_, ?_, ?_⟩, ⟨fun j hj hjk => ?_, fun j hj hjk => ?_⟩, ?_, ?_, by omega, fun hch => by cases hch⟩
      · dsimp only
        rw [b1 j]
        split
        · omega
        · exact h.bd j hj
      · dsimp only at hjk ⊢
        rw [k1 j] at hjk
        rw [b1 j]
        split
        · rename_i e
          subst e
          exact ⟨_, hps'⟩
        · rename_i e
          rw [if_neg e] at hjk
          exact h.att j hj hjk
      · dsimp only at hjk ⊢
        rw [k1 j] at hjk
        rw [b1 j]
        by_cases e : j = t
        · rw [if_pos e]
          split <;> omega
        · rw [if_neg e] at hjk ⊢
          have := h.le j hj hjk
          split <;> omega
      · dsimp only
        split
        · exact ⟨_, _, hps'⟩
        · exact h.ms
      · dsimp only
        split <;> omega
      · dsimp only
        rw [k1 j]
        split
        · rfl
        · exact hjk
      · dsimp only
        rw [b1 j]
        by_cases e : j = t
        · rw [if_pos e]
          subst e
          rcases h2 with h2 | h2
          · rw [h2] at hjk; cases hjk
          · omega
        · rw [if_neg e]; exact Int.le_refl _
      · dsimp only
        rw [k1 t, if_pos rfl]
      · dsimp only
        rw [b1 t, if_pos rfl]
        omega
    · rw [if_neg h2, Option.some.injEq] at hs
      subst hs
      have h3 : rb st.known t = true := by
        cases e : rb st.known t with
        | true => rfl
        | false => exact absurd (Or.inl e) h2
      exact ⟨h, BLe.refl n st, h3, by omega, by omega, fun _ => rfl⟩
theorem stepF_none {x : Nat} (hx : x < n) {t : Nat} (ht : t < n) (hm : (t : Int) ∈ nx x) {st : BF} (h : BOK nx costs n st) (hk : rb st.known x = true) (hs : stepF costs n x (t : Int) st = none) : TooG nx n costs := by
  have _u := hc
  unfold stepF at hs
  rw [if_pos (isN_of ht), Int.toNat_natCast] at hs
  obtain ⟨m, hps⟩ := h.att x hx hk
  by_cases h1 : rd costs (t : Int) > mostG - rd st.best (x : Int)
  · exact ⟨_, _, _, PS.step hps ht hm, by omega⟩
  · rw [if_neg h1] at hs
    split at hs <;> cases hs
/-- What a row's steps give. -/
structure RowS (nx : Nat → List Int) (costs : List Int) (n x : Nat) (l : List Int) (st st' : BF) : Prop where
  ok : BOK nx costs n st'
  le : BLe n st st'
  all : ∀ t : Nat, t < n → (t : Int) ∈ l → rb st'.known t = true ∧ rd st.best (x : Int) + rd costs (t : Int) ≤ rd st'.best (t : Int) ∧ rd costs (t : Int) ≤ mostG - rd st.best (x : Int)
  same : st'.ch = false → st' = st
theorem rowF_some {x : Nat} (hx : x < n) : ∀ (l : List Int) (st st' : BF), (∀ t ∈ l, t ∈ nx x) → BOK nx costs n st → rb st.known x = true → rowF costs n x l st = some st' → RowS nx costs n x l st st'
  | [], st, st', hl, h, hk, hs => by
    rw [rowF, Option.some.injEq] at hs
    subst hs
    exact ⟨h, BLe.refl n st, fun t _ ht => absurd ht (by simp), fun _ => rfl⟩
  | t :: l, st, st', hl, h, hk, hs => by
    rw [rowF] at hs
    obtain ⟨s1, h1, h2⟩ := Option.bind_eq_some_iff.1 hs
    by_cases hn : isN n t = true
    · obtain ⟨j, rfl, hj⟩ := isN_nat hn
      obtain ⟨a1, a2, a3, a4, a5, a6⟩ := stepF_some hc hx hj (hl _ List.mem_cons_self) h hk h1
      have ih := rowF_some hx l s1 st' (fun u hu => hl u (List.mem_cons_of_mem _ hu)) a1 (a2.known x hx hk) h2
      have hbx := a2.best x hx hk
      refine ⟨ih.ok, a2.trans ih.le, fun u hu hm => ?_, fun hch => ?_⟩
      · rcases List.mem_cons.1 hm with e | hm
        · have : u = j := by omega
          subst this
          have := ih.le.best u hu a3
          exact ⟨ih.le.known u hu a3, by omega, a5⟩
        · have := ih.all u hu hm
          exact ⟨this.1, by omega, by omega⟩
      · have e1 := ih.same hch
        subst e1
        exact a6 hch
    · have e : stepF costs n x t st = some st := by unfold stepF; rw [if_neg hn]
      rw [e, Option.some.injEq] at h1
      subst h1
      have ih := rowF_some hx l st st' (fun u hu => hl u (List.mem_cons_of_mem _ hu)) h hk h2
      refine ⟨ih.ok, ih.le, fun u hu hm => ?_, ih.same⟩
      rcases List.mem_cons.1 hm with e | hm
      · exact absurd (by rw [← e]; exact isN_of hu) hn
      · exact ih.all u hu hm
theorem rowF_none {x : Nat} (hx : x < n) : ∀ (l : List Int) (st : BF), (∀ t ∈ l, t ∈ nx x) → BOK nx costs n st → rb st.known x = true → rowF costs n x l st = none → TooG nx n costs
  | [], st, hl, h, hk, hs => by rw [rowF] at hs; cases hs
  | t :: l, st, hl, h, hk, hs => by
    rw [rowF] at hs
    by_cases hn : isN n t = true
    · obtain ⟨j, rfl, hj⟩ := isN_nat hn
      cases h1 : stepF costs n x (j : Int) st with
      | none => exact stepF_none hc hx hj (hl _ List.mem_cons_self) h hk h1
      | some s1 =>
        rw [h1, Option.bind_some] at hs
        obtain ⟨a1, a2, _⟩ := stepF_some hc hx hj (hl _ List.mem_cons_self) h hk h1
        exact rowF_none hx l s1 (fun u hu => hl u (List.mem_cons_of_mem _ hu)) a1 (a2.known x hx hk) hs
    · have e : stepF costs n x t st = some st := by unfold stepF; rw [if_neg hn]
      rw [e, Option.bind_some] at hs
      exact rowF_none hx l st (fun u hu => hl u (List.mem_cons_of_mem _ hu)) h hk hs
/-- What a round gives. -/
structure PassS (nx : Nat → List Int) (costs : List Int) (n : Nat) (from_ : Nat) (st st' : BF) : Prop where
  ok : BOK nx costs n st'
  le : BLe n st st'
  all : ∀ x : Nat, from_ ≤ x → x < n → rb st.known x = true → ∀ t : Nat, t < n → (t : Int) ∈ nx x → rb st'.known t = true ∧ rd st.best (x : Int) + rd costs (t : Int) ≤ rd st'.best (t : Int) ∧ rd costs (t : Int) ≤ mostG - rd st.best (x : Int)
  same : st'.ch = false → st' = st
theorem passF_some : ∀ (d x : Nat) (st st' : BF), x + d = n → BOK nx costs n st → passF nx costs n d x st = some st' → PassS nx costs n x st st'
  | 0, x, st, st', hx, h, hs => by
    rw [passF, Option.some.injEq] at hs
    subst hs
    exact ⟨h, BLe.refl n st, fun y h1 h2 => by omega, fun _ => rfl⟩
  | d + 1, x, st, st', hx, h, hs => by
    rw [passF] at hs
    obtain ⟨s1, h1, h2⟩ := Option.bind_eq_some_iff.1 hs
    have hxn : x < n := by omega
    unfold oneF at h1
    by_cases hk : rb st.known x = true
    · rw [if_pos hk] at h1
      have hr := rowF_some hc hxn (nx x) st s1 (fun _ h => h) h hk h1
      have ih := passF_some d (x + 1) s1 st' (by omega) hr.ok h2
      refine ⟨ih.ok, hr.le.trans ih.le, fun y hy1 hy2 hyk t ht hm => ?_, fun hch => ?_⟩
      · by_cases e : y = x
        · subst e
          have a := hr.all t ht hm
          have := ih.le.best t ht a.1
          exact ⟨ih.le.known t ht a.1, by omega, a.2.2⟩
        · have a := ih.all y (by omega) hy2 (hr.le.known y hy2 hyk) t ht hm
          have := hr.le.best y hy2 hyk
          exact ⟨a.1, by omega, by omega⟩
      · have e1 := ih.same hch
        subst e1
        exact hr.same hch
    · rw [if_neg hk, Option.some.injEq] at h1
      subst h1
      have ih := passF_some d (x + 1) st st' (by omega) h h2
      refine ⟨ih.ok, ih.le, fun y hy1 hy2 hyk => ?_, ih.same⟩
      by_cases e : y = x
      · subst e; exact absurd hyk hk
      · exact ih.all y (by omega) hy2 hyk
theorem passF_none : ∀ (d x : Nat) (st : BF), x + d = n → BOK nx costs n st → passF nx costs n d x st = none → TooG nx n costs
  | 0, x, st, hx, h, hs => by rw [passF] at hs; cases hs
  | d + 1, x, st, hx, h, hs => by
    rw [passF] at hs
    have hxn : x < n := by omega
    cases h1 : oneF nx costs n x st with
    | none =>
      unfold oneF at h1
      split at h1
      · rename_i hk
        exact rowF_none hc hxn (nx x) st (fun _ h => h) h hk h1
      · cases h1
    | some s1 =>
      rw [h1, Option.bind_some] at hs
      unfold oneF at h1
      split at h1
      · rename_i hk
        exact passF_none d (x + 1) s1 (by omega) (rowF_some hc hxn (nx x) st s1 (fun _ h => h) h hk h1).ok hs
      · rw [Option.some.injEq] at h1
        subst h1
        exact passF_none d (x + 1) st (by omega) h hs
/-- All ways of so many steps are told, and what they go on to is paid for. -/
structure FinS (nx : Nat → List Int) (costs : List Int) (n : Nat) (st : BF) : Prop where
  ok : BOK nx costs n st
  all : ∀ (m x : Nat) (s : Int), m ≤ n → PS nx n costs m x s → rb st.known x = true ∧ s ≤ rd st.best (x : Int) ∧ ∀ t : Nat, t < n → (t : Int) ∈ nx x → rd costs (t : Int) ≤ mostG - s
theorem ch_ok {st : BF} (h : BOK nx costs n st) : BOK nx costs n { st with ch := false } := by
  have _u := hc
  exact ⟨h.bl, h.kl, h.bd, h.att, h.le, h.ms, h.mb⟩
theorem loopF_spec (hn : 0 < n) : ∀ (d r : Nat) (st : BF), r + d = n + 1 → 0 < d → BOK nx costs n st → (∀ (m x : Nat) (s : Int), m ≤ r → PS nx n costs m x s → x < n ∧ rb st.known x = true ∧ s ≤ rd st.best (x : Int)) →
    match loopF nx costs n d st with
    | some st' => FinS nx costs n st'
    | none => TooG nx n costs
  | 0, r, st, hr, h0, h, hD => by omega
  | d + 1, r, st, hr, h0, h, hD => by
    rw [loopF]
    cases hp : passF nx costs n n 0 { st with ch := false } with
    | none => exact passF_none hc n 0 _ (by omega) (ch_ok hc h) hp
    | some st' =>
      rw [Option.bind_some]
      have hS := passF_some hc n 0 _ st' (by omega) (ch_ok hc h) hp
      have hlt : ∀ (m x : Nat) (s : Int), PS nx n costs m x s → x < n := fun m x s hps => hps.rch.lt hn
      by_cases hch : st'.ch = true
      · rw [if_pos hch]
        have hD' : ∀ (m x : Nat) (s : Int), m ≤ r + 1 → PS nx n costs m x s → x < n ∧ rb st'.known x = true ∧ s ≤ rd st'.best (x : Int) := by
          intro m x s hm hps
          cases hps with
          | zero =>
            have := hD 0 0 _ (Nat.zero_le _) PS.zero
            exact ⟨hn, hS.le.known 0 hn this.2.1, Int.le_trans this.2.2 (hS.le.best 0 hn this.2.1)⟩
          | @step m y s t hy ht htm =>
            have a := hD m y s (by omega) hy
            have c := hS.all y (Nat.zero_le _) a.1 a.2.1 _ ht htm
            have e := a.2.2
            have c2 := c.2.1
            dsimp only at c2
            exact ⟨ht, c.1, by omega⟩
        cases d with
        | zero =>
          rw [loopF]
          refine ⟨hS.ok, fun m x s hm hps => ?_⟩
          have a := hD m x s (by omega) hps
          have b := hD' m x s (by omega) hps
          refine ⟨b.2.1, b.2.2, fun t ht htm => ?_⟩
          have c := (hS.all x (Nat.zero_le _) a.1 a.2.1 t ht htm).2.2
          have e := a.2.2
          dsimp only at c
          omega
        | succ d => exact loopF_spec hn (d + 1) (r + 1) st' (by omega) (by omega) hS.ok hD'
      · rw [if_neg hch]
        have e := hS.same (by simpa using hch)
        have key : ∀ (m x : Nat) (s : Int), PS nx n costs m x s → rb st'.known x = true ∧ s ≤ rd st'.best (x : Int) := by
          intro m x s hps
          induction hps with
          | zero =>
            have := hD 0 0 _ (Nat.zero_le _) PS.zero
            exact ⟨hS.le.known 0 hn this.2.1, Int.le_trans this.2.2 (hS.le.best 0 hn this.2.1)⟩
          | @step m y s t hy ht htm ih =>
            have hyn := hlt m y s hy
            have c := hS.all y (Nat.zero_le _) hyn (by rw [← e]; exact ih.1) _ ht htm
            rw [← e] at c
            exact ⟨c.1, by omega⟩
        refine ⟨hS.ok, fun m x s hm hps => ?_⟩
        have a := key m x s hps
        refine ⟨a.1, a.2, fun t ht htm => ?_⟩
        have c := (hS.all x (Nat.zero_le _) (hlt m x s hps) (by rw [← e]; exact a.1) t ht htm).2.2
        rw [← e] at c
        omega
end
/-! ### The loops -/
def finB (b : List S30) (st : BF) : Int × Bool := if backG b = true then (0, false) else (st.most, true)
section
variable (b : List S30) (costs : List Int) (hb : b.length ≤ 40) (hcl : costs.length = b.length) (hc : ∀ j : Nat, j < b.length → 0 ≤ rd costs (j : Int)) (hnl : ∀ x : Nat, x < b.length → (nxB b x).length ≤ 17592186044415)
  (seen : List Bool) (hsl : seen.length = b.length) (hseen : ∀ j : Nat, j < b.length → Rch (nxB b) b.length 0 j → rb seen j = true) (r : Int × Bool)
include hb hcl hc hnl hsl hseen
theorem l3_none (rnd : Int) (x : Nat) (hx : x < b.length) (best : List Int) (known : List Bool) (most : Int) (ch : Bool) (hkl : known.length = b.length) (q : Nat) (hq : q = (nxB b x).length ∨ (q < (nxB b x).length ∧ rb known x = false)) :
    Ev (fun k => pianolaref10_Longest.l2 k b costs seen best known most rnd ch ((x + 1 : Nat) : Int)) r → Ev (fun k => pianolaref10_Longest.l3 k b costs seen best known most rnd ch (x : Int) (q : Int)) r := by
  have _u := And.intro hc (And.intro hnl hseen)
  intro h
  have hnb : nxB b x = (rd_T30 b (x : Int)).f2 := rfl
  rw [hnb] at hq
  obtain ⟨K, h⟩ := h
  refine ⟨K + 2, fun k hk => ?_⟩
  obtain ⟨k, rfl⟩ : ∃ m, k = m + 2 := ⟨k - 2, by omega⟩
  refine Eq.trans ?_ (h k (by omega))
  show pianolaref10_Longest.l3 (k + 2) b costs seen best known most rnd ch (x : Int) (q : Int) = _
  simp only [pianolaref10_Longest.l3]
  rw [if_pos (by omega), if_pos (by omega)]
  rcases hq with hq | ⟨hq, hk2⟩
  · rw [if_neg (by omega)]
    simp only [pianolaref10_Longest.j5]
    rw [if_neg (by simp), w1 x (by omega)]
  · rw [if_pos (by omega), if_pos (by omega), rdOf_nat, hk2]
    simp only [pianolaref10_Longest.j5]
    rw [if_neg (by simp), w1 x (by omega)]
theorem l3_ev (rnd : Int) (x : Nat) (hx : x < b.length) : ∀ (d q : Nat) (st : BF), q + d = (nxB b x).length → BOK (nxB b) costs b.length st → rb st.known x = true →
    (∀ st', rowF costs b.length x ((nxB b x).drop q) st = some st' → Ev (fun k => pianolaref10_Longest.l2 k b costs seen st'.best st'.known st'.most rnd st'.ch ((x + 1 : Nat) : Int)) r) →
    (rowF costs b.length x ((nxB b x).drop q) st = none → r = (0, false)) →
    Ev (fun k => pianolaref10_Longest.l3 k b costs seen st.best st.known st.most rnd st.ch (x : Int) (q : Int)) r
  | 0, q, st, hq, h, hk, hs, hn => by
    rw [List.drop_eq_nil_of_le (by omega), rowF] at hs
    exact l3_none b costs hb hcl hc hnl seen hsl hseen r rnd x hx st.best st.known st.most st.ch h.kl q (Or.inl (by omega)) (hs st rfl)
  | d + 1, q, st, hq, h, hk, hs, hn => by
    have hlt : q < (nxB b x).length := by omega
    have hr := rd_of hlt
    have hmem := List.getElem_mem hlt
    have hnx := hnl x hx
    rw [List.drop_eq_getElem_cons hlt] at hs hn
    obtain ⟨t, ht⟩ : ∃ t, (nxB b x)[q] = t := ⟨_, rfl⟩
    rw [ht] at hr hmem hs hn
    rw [rowF] at hs hn
    have hnb : nxB b x = (rd_T30 b (x : Int)).f2 := rfl
    have ih := fun st1 => l3_ev rnd x hx d (q + 1) st1 (by omega)
    rw [hnb] at hr hlt hnx
    have head : ∀ k, pianolaref10_Longest.l3 (k + 2) b costs seen st.best st.known st.most rnd st.ch (x : Int) (q : Int) =
        if t < 0 then pianolaref10_Longest.j6 k b costs seen st.best st.known st.most rnd st.ch (x : Int) (q : Int) t true else if t ≥ (b.length : Int) then pianolaref10_Longest.j6 k b costs seen st.best st.known st.most rnd st.ch (x : Int) (q : Int) t true
        else if 0 ≤ t then (if t < (seen.length : Int) then pianolaref10_Longest.j6 k b costs seen st.best st.known st.most rnd st.ch (x : Int) (q : Int) t (!(rdOf false seen t)) else none) else none := by
      intro k
      have hkl := h.kl
      simp only [pianolaref10_Longest.l3]
      rw [if_pos (by omega), if_pos (by omega), if_pos (by omega), if_pos (by omega), rdOf_nat, hk]
      simp only [pianolaref10_Longest.j5]
      rw [if_pos trivial, if_pos (by omega), if_pos (by omega), if_pos (by omega), if_pos (by omega), hr]
    by_cases hN : isN b.length t = true
    · obtain ⟨j, rfl, hj⟩ := isN_nat hN
      obtain ⟨m0, hps⟩ := h.att x hx hk
      have hsj := hseen j hj (Rch.step hps.rch hj hmem)
      have hbx := h.bd x hx
      have hbj := h.bd j hj
      have hcj := hc j hj
      have head2 : ∀ k, pianolaref10_Longest.l3 (k + 3) b costs seen st.best st.known st.most rnd st.ch (x : Int) (q : Int) =
          if rd costs (j : Int) > mostG - rd st.best (x : Int) then some (0, false) else
            if rb st.known j = true then pianolaref10_Longest.j7 k b costs seen st.best st.known st.most rnd st.ch (x : Int) (q : Int) (j : Int) (wrap64 (rd st.best (x : Int) + rd costs (j : Int))) (decide (wrap64 (rd st.best (x : Int) + rd costs (j : Int)) > rd st.best (j : Int)))
            else pianolaref10_Longest.j7 k b costs seen st.best st.known st.most rnd st.ch (x : Int) (q : Int) (j : Int) (wrap64 (rd st.best (x : Int) + rd costs (j : Int))) true := by
        intro k
        have hkl := h.kl
        have hbl := h.bl
        rw [head (k + 1), if_neg (by omega), if_neg (by omega), if_pos (by omega), if_pos (by omega), rdOf_nat, hsj]
        simp only [pianolaref10_Longest.j6]
        rw [if_neg (by simp), if_pos (by omega), if_pos (by omega), if_pos (by omega), if_pos (by omega), wrap_sub _ (by omega) hbx.2]
        by_cases h1 : rd costs (j : Int) > mostG - rd st.best (x : Int)
        · rw [if_pos h1, if_pos h1]
        · rw [if_neg h1, if_neg h1, if_pos (by omega), rdOf_nat]
          by_cases h2 : rb st.known j = true
          · rw [if_pos h2, if_pos h2, if_pos (by omega)]
          · rw [if_neg h2, if_neg h2]
      have hst : stepF costs b.length x (j : Int) st = if rd costs (j : Int) > mostG - rd st.best (x : Int) then none
          else if rb st.known j = false ∨ rd st.best (x : Int) + rd costs (j : Int) > rd st.best (j : Int) then
            some ⟨st.best.set j (rd st.best (x : Int) + rd costs (j : Int)), st.known.set j true, if rd st.best (x : Int) + rd costs (j : Int) > st.most then rd st.best (x : Int) + rd costs (j : Int) else st.most, true⟩
          else some st := by
        unfold stepF
        rw [if_pos hN, Int.toNat_natCast]
      by_cases h1 : rd costs (j : Int) > mostG - rd st.best (x : Int)
      · rw [if_pos h1] at hst
        rw [hst, Option.bind_none] at hn
        rw [hn rfl]
        refine ⟨3, fun k hk3 => ?_⟩
        obtain ⟨k, rfl⟩ : ∃ m, k = m + 3 := ⟨k - 3, by omega⟩
        show pianolaref10_Longest.l3 (k + 3) b costs seen st.best st.known st.most rnd st.ch (x : Int) (q : Int) = _
        rw [head2 k, if_pos h1]
      · rw [if_neg h1] at hst
        have hwa := wrap_add (rd st.best (x : Int)) (rd costs (j : Int)) (by omega) hcj h1
        by_cases h2 : rb st.known j = false ∨ rd st.best (x : Int) + rd costs (j : Int) > rd st.best (j : Int)
        · rw [if_pos h2] at hst
          have hS := stepF_some hc hx hj hmem h hk hst
          rw [hst, Option.bind_some] at hs hn
          obtain ⟨K, ih1⟩ := ih _ hS.1 (hS.2.1.known x hx hk) hs hn
          refine ⟨K + 4, fun k hk3 => ?_⟩
          obtain ⟨k, rfl⟩ : ∃ m, k = m + 4 := ⟨k - 4, by omega⟩
          have hkl := h.kl
          have hbl := h.bl
          have tail : pianolaref10_Longest.j7 (k + 1) b costs seen st.best st.known st.most rnd st.ch (x : Int) (q : Int) (j : Int) (rd st.best (x : Int) + rd costs (j : Int)) true = r := by
            refine Eq.trans ?_ (ih1 k (by omega))
            simp only [pianolaref10_Longest.j7]
            rw [if_pos trivial, if_pos (by omega), if_pos (by omega), Option.bind_some, if_pos (by omega), Option.bind_some, Int.toNat_natCast, w1 q (by omega)]
            by_cases h4 : rd st.best (x : Int) + rd costs (j : Int) > st.most
            · rw [if_pos h4, if_pos h4]
            · rw [if_neg h4, if_neg h4]
          show pianolaref10_Longest.l3 (k + 4) b costs seen st.best st.known st.most rnd st.ch (x : Int) (q : Int) = _
          rw [head2 (k + 1), if_neg h1, hwa]
          by_cases h5 : rb st.known j = true
          · rw [if_pos h5, decide_eq_true (by rcases h2 with h2 | h2; · rw [h5] at h2; cases h2
                                              · exact h2)]
            exact tail
          · rw [if_neg h5]
            exact tail
        · rw [if_neg h2] at hst
          rw [hst, Option.bind_some] at hs hn
          have h5 : rb st.known j = true := by
            cases e : rb st.known j with
            | true => rfl
            | false => exact absurd (Or.inl e) h2
          obtain ⟨K, ih1⟩ := ih st h hk hs hn
          refine ⟨K + 4, fun k hk3 => ?_⟩
          obtain ⟨k, rfl⟩ : ∃ m, k = m + 4 := ⟨k - 4, by omega⟩
          refine Eq.trans ?_ (ih1 k (by omega))
          show pianolaref10_Longest.l3 (k + 4) b costs seen st.best st.known st.most rnd st.ch (x : Int) (q : Int) = _
          rw [head2 (k + 1), if_neg h1, hwa, if_pos h5, decide_eq_false (fun h => h2 (Or.inr h))]
          simp only [pianolaref10_Longest.j7]
          rw [if_neg (by simp), w1 q (by omega)]
    · have e : stepF costs b.length x t st = some st := by unfold stepF; rw [if_neg hN]
      rw [e, Option.bind_some] at hs hn
      obtain ⟨K, ih1⟩ := ih st h hk hs hn
      refine ⟨K + 3, fun k hk3 => ?_⟩
      obtain ⟨k, rfl⟩ : ∃ m, k = m + 3 := ⟨k - 3, by omega⟩
      refine Eq.trans ?_ (ih1 k (by omega))
      have skip : pianolaref10_Longest.j6 (k + 1) b costs seen st.best st.known st.most rnd st.ch (x : Int) (q : Int) t true = pianolaref10_Longest.l3 k b costs seen st.best st.known st.most rnd st.ch (x : Int) ((q + 1 : Nat) : Int) := by
        simp only [pianolaref10_Longest.j6]
        rw [if_pos trivial, w1 q (by omega)]
      show pianolaref10_Longest.l3 (k + 3) b costs seen st.best st.known st.most rnd st.ch (x : Int) (q : Int) = _
      rw [head (k + 1)]
      unfold isN at hN
      by_cases h0 : t < 0
      · rw [if_pos h0]
        exact skip
      · rw [if_neg h0]
        by_cases h1 : t ≥ (b.length : Int)
        · rw [if_pos h1]
          exact skip
        · exfalso
          exact hN (by rw [decide_eq_true (by omega), decide_eq_true (by omega)]; rfl)
theorem l2_ev2 (rnd : Int) : ∀ (d x : Nat) (st : BF), x + d = b.length → BOK (nxB b) costs b.length st →
    (∀ st', passF (nxB b) costs b.length d x st = some st' → (st'.ch = true → Ev (fun k => pianolaref10_Longest.l1 k b costs seen st'.best st'.known st'.most (wrap64 (rnd + 1))) r) ∧ (st'.ch = false → r = finB b st')) →
    (passF (nxB b) costs b.length d x st = none → r = (0, false)) →
    Ev (fun k => pianolaref10_Longest.l2 k b costs seen st.best st.known st.most rnd st.ch (x : Int)) r
  | 0, x, st, hx, h, hs, hn => by
    rw [passF] at hs
    have h1 := hs st rfl
    by_cases hch : st.ch = true
    · refine Ev.step (fun k => ?_) (h1.1 hch)
      simp only [pianolaref10_Longest.l2]
      rw [if_neg (by omega), if_pos hch]
    · have e := h1.2 (by simpa using hch)
      have hbk := back_ev b hb hnl
      refine Ev.step (f := fun k => (pianolaref10_back.f k b).bind fun t => if t = true then some (0, false) else some (st.most, true)) (fun k => ?_) (Ev.bind hbk ?_)
      · simp only [pianolaref10_Longest.l2]
        rw [if_neg (by omega), if_neg hch]
      · rw [e]
        unfold finB
        split
        · exact Ev.now _
        · exact Ev.now _
  | d + 1, x, st, hx, h, hs, hn => by
    rw [passF] at hs hn
    have hxn : x < b.length := by omega
    have head : Ev (fun k => pianolaref10_Longest.l3 k b costs seen st.best st.known st.most rnd st.ch (x : Int) ((0 : Nat) : Int)) r := by
      by_cases hk : rb st.known x = true
      · refine l3_ev b costs hb hcl hc hnl seen hsl hseen r rnd x hxn (nxB b x).length 0 st (by omega) h hk (fun st' hst => ?_) (fun hst => ?_)
        · rw [List.drop_zero] at hst
          have e : oneF (nxB b) costs b.length x st = some st' := by unfold oneF; rw [if_pos hk]; exact hst
          rw [e, Option.bind_some] at hs hn
          exact l2_ev2 rnd d (x + 1) st' (by omega) (rowF_some hc hxn _ st st' (fun _ h => h) h hk hst).ok hs hn
        · rw [List.drop_zero] at hst
          have e : oneF (nxB b) costs b.length x st = none := by unfold oneF; rw [if_pos hk]; exact hst
          rw [e, Option.bind_none] at hn
          exact hn rfl
      · have e : oneF (nxB b) costs b.length x st = some st := by unfold oneF; rw [if_neg hk]
        rw [e, Option.bind_some] at hs hn
        refine l3_none b costs hb hcl hc hnl seen hsl hseen r rnd x hxn st.best st.known st.most st.ch h.kl 0 ?_ (l2_ev2 rnd d (x + 1) st (by omega) h hs hn)
        rcases Nat.eq_zero_or_pos (nxB b x).length with h0 | h0
        · exact Or.inl h0.symm
        · exact Or.inr ⟨h0, by simpa using hk⟩
    refine Ev.step (fun k => ?_) head
    simp only [pianolaref10_Longest.l2]
    rw [if_pos (by omega)]
    rfl
theorem l1_ev2 : ∀ (d rnd : Nat) (st : BF), rnd + d = b.length + 1 → BOK (nxB b) costs b.length st →
    (match loopF (nxB b) costs b.length d st with | some st' => r = finB b st' | none => r = (0, false)) →
    Ev (fun k => pianolaref10_Longest.l1 k b costs seen st.best st.known st.most (rnd : Int)) r
  | 0, rnd, st, hr, h, hs => by
    rw [loopF] at hs
    dsimp only at hs
    refine Ev.step (f := fun k => (pianolaref10_back.f k b).bind fun t => if t = true then some (0, false) else some (st.most, true)) (fun k => ?_) (Ev.bind (back_ev b hb hnl) ?_)
    · simp only [pianolaref10_Longest.l1]
      rw [if_neg (by omega)]
    · rw [hs]
      unfold finB
      split
      · exact Ev.now _
      · exact Ev.now _
  | d + 1, rnd, st, hr, h, hs => by
    rw [loopF] at hs
    have h2 := l2_ev2 b costs hb hcl hc hnl seen hsl hseen r (rnd : Int) b.length 0 { st with ch := false } (by omega) (ch_ok hc h) (fun st' hst => by
      rw [hst, Option.bind_some] at hs
      have hP := passF_some hc b.length 0 _ st' (by omega) (ch_ok hc h) hst
      constructor
      · intro hch
        rw [if_pos hch] at hs
        rw [w1 rnd (by omega)]
        exact l1_ev2 d (rnd + 1) st' (by omega) hP.ok hs
      · intro hch
        rw [if_neg (by rw [hch]; simp)] at hs
        exact hs) (fun hst => by
      rw [hst, Option.bind_none] at hs
      exact hs)
    refine Ev.step (fun k => ?_) h2
    simp only [pianolaref10_Longest.l1]
    rw [if_pos (by omega)]
    rfl
end
theorem neg_ev (b : List S30) (costs : List Int) (hl : costs.length ≤ 17592186044415) (r : Int × Bool) : ∀ (d i : Nat), i + d = costs.length →
    ((∀ c ∈ costs.drop i, 0 ≤ c) → Ev (fun k => pianolaref10_Longest.l0 k b costs (costs.length : Int)) r) → ((∃ c ∈ costs.drop i, c < 0) → r = (0, false)) → Ev (fun k => pianolaref10_Longest.l0 k b costs (i : Int)) r
  | 0, i, hi, h, hn => by
    have := h (by rw [List.drop_eq_nil_of_le (by omega)]; simp)
    rw [show (costs.length : Int) = (i : Int) by omega] at this
    exact this
  | d + 1, i, hi, h, hn => by
    have hlt : i < costs.length := by omega
    have hr := rd_of hlt
    rw [List.drop_eq_getElem_cons hlt] at h hn
    by_cases h0 : costs[i] < 0
    · rw [hn ⟨_, List.mem_cons_self, h0⟩]
      refine ⟨1, fun k hk => ?_⟩
      obtain ⟨k, rfl⟩ : ∃ m, k = m + 1 := ⟨k - 1, by omega⟩
      simp only [pianolaref10_Longest.l0]
      rw [if_pos (by omega), if_pos (by omega), hr, if_pos h0]
    · refine Ev.step (fun k => ?_) (neg_ev b costs hl r d (i + 1) (by omega) (fun hc => h (fun c hm => ?_)) (fun ⟨c, hm, h1⟩ => hn ⟨c, List.mem_cons_of_mem _ hm, h1⟩))
      · simp only [pianolaref10_Longest.l0]
        rw [if_pos (by omega), if_pos (by omega), hr, if_neg h0, w1 i (by omega)]
      · rcases List.mem_cons.1 hm with e | hm
        · subst e; omega
        · exact hc c hm
theorem ref_ev (b : List S30) (costs : List Int) (hb : b.length ≤ 40) (hcl2 : costs.length ≤ 17592186044415) (hc64 : ∀ c ∈ costs, c ≤ 9223372036854775807) (hnl : ∀ x : Nat, x < b.length → (nxB b x).length ≤ 17592186044415) :
    Ev (fun k => pianolaref10_Longest.f k b costs) (resG b costs) := by
  have no : ∀ (r : Int × Bool), r = (0, false) → Ev (fun k => pianolaref10_Longest.j0 k b costs true) r := by
    rintro r rfl
    refine ⟨1, fun k hk => ?_⟩
    obtain ⟨k, rfl⟩ : ∃ m, k = m + 1 := ⟨k - 1, by omega⟩
    simp only [pianolaref10_Longest.j0]
    rw [if_pos trivial]
  have nores : ¬ (0 < b.length ∧ costs.length = b.length ∧ ∀ c ∈ costs, 0 ≤ c) → resG b costs = (0, false) := fun h => by unfold resG; rw [if_neg h]
  by_cases h0 : b.length = 0
  · refine Ev.congr (fun k => ?_) (no _ (nores (by omega)))
    unfold pianolaref10_Longest.f
    rw [if_pos (by omega)]
  · by_cases hl : costs.length = b.length
    · have hj : ∀ k, pianolaref10_Longest.f k b costs = pianolaref10_Longest.j0 k b costs false := by
        intro k
        unfold pianolaref10_Longest.f
        rw [if_neg (by omega), hl]
        simp
      refine Ev.congr hj (Ev.step (f := fun k => pianolaref10_Longest.l0 k b costs ((0 : Nat) : Int)) (fun k => ?_) ?_)
      · simp only [pianolaref10_Longest.j0]
        rw [if_neg (by simp)]
        rfl
      · refine neg_ev b costs hcl2 _ costs.length 0 (by omega) (fun hcc => ?_) (fun ⟨c, hm, hc0⟩ => nores fun h => by
          rw [List.drop_zero] at hm
          have := h.2.2 c hm
          omega)
        rw [List.drop_zero] at hcc
        have hc : ∀ j : Nat, j < b.length → 0 ≤ rd costs (j : Int) := fun j hj => hcc _ (rd_at (by omega))
        have hO := ordOK_B b (by omega)
        have hsl := walkB_len b
        have hseen : ∀ j : Nat, j < b.length → Rch (nxB b) b.length 0 j → rb (walkB b (-1)).1 j = true := fun j hj hr => rb_seen.2 ((hO.seen j hj).2 ((hO.reach j).2 hr))
        obtain ⟨pos, hP, hres⟩ := resG_spec b costs (by omega) hl hcc
        have e0 : ∀ k, pianolaref10_Longest.l0 (k + 1) b costs (costs.length : Int) = if rd costs 0 > mostG then some (0, false) else
            pianolaref10_Longest.l1 k b costs (walkB b (-1)).1 ((List.replicate b.length 0).set 0 (rd costs 0)) ((List.replicate b.length false).set 0 true) (rd costs 0) ((0 : Nat) : Int) := by
          intro k
          simp only [pianolaref10_Longest.l0]
          rw [if_neg (by omega), walk_run b (-1) (by omega), Option.bind_some, if_pos (by omega), if_pos (by omega), Option.bind_some, if_pos (by omega), Option.bind_some, if_pos (by omega), Int.toNat_natCast, if_pos (by rw [List.length_replicate]; omega), if_pos (by rw [List.length_replicate]; omega)]
          rfl
        by_cases htop : rd costs 0 > mostG
        · have hr : resG b costs = (0, false) := by
            rcases hres with ⟨L, hr, hG⟩ | ⟨hr, _⟩
            · have := (hG.le 0 0 _ PS.zero).1
              have := hG.top
              omega
            · exact hr
          rw [hr]
          refine ⟨1, fun k hk => ?_⟩
          obtain ⟨k, rfl⟩ : ∃ m, k = m + 1 := ⟨k - 1, by omega⟩
          show pianolaref10_Longest.l0 (k + 1) b costs (costs.length : Int) = _
          rw [e0 k, if_pos htop]
        · have hB0 : BOK (nxB b) costs b.length ⟨(List.replicate b.length 0).set 0 (rd costs 0), (List.replicate b.length false).set 0 true, rd costs 0, false⟩ := by
            have hc00 := hc 0 (by omega)
            rw [show ((0 : Nat) : Int) = 0 from rfl] at hc00
            have b1 : ∀ j : Nat, j < b.length → rd ((List.replicate b.length 0).set 0 (rd costs 0)) (j : Int) = if j = 0 then rd costs 0 else 0 := by
              intro j hj
              rw [rd_set (by rw [List.length_replicate]; omega)]
              split
              · rfl
              · unfold rd
                rw [Int.toNat_natCast, List.getD_eq_getElem?_getD, List.getElem?_replicate, if_pos hj]
                rfl
            have k1 : ∀ j : Nat, rb ((List.replicate b.length false).set 0 true) j = if j = 0 then true else false := by
              intro j
              rw [rb_set (by rw [List.length_replicate]; omega), rb_rep]
            refine ⟨by simp, by simp, fun j hj => ?_, fun j hj hk => ?_, fun j hj hk => ?_, ⟨0, 0, PS.zero⟩, ⟨hc00, by show rd costs 0 ≤ mostG; omega⟩⟩
            · dsimp only
              rw [b1 j hj]
              split
              · omega
              · unfold mostG; omega
            · dsimp only at hk ⊢
              rw [k1 j] at hk
              by_cases e : j = 0
              · subst e
                rw [b1 0 hj, if_pos rfl]
                exact ⟨0, PS.zero⟩
              · rw [if_neg e] at hk
                cases hk
            · dsimp only at hk ⊢
              rw [k1 j] at hk
              by_cases e : j = 0
              · subst e
                rw [b1 0 hj, if_pos rfl]
                exact Int.le_refl _
              · rw [if_neg e] at hk
                cases hk
          have hspec := loopF_spec hc (by omega) (b.length + 1) 0 _ (by omega) (by omega) hB0 (fun m x s hm hps => by
            have : m = 0 := by omega
            subst this
            cases hps
            refine ⟨by omega, ?_, ?_⟩
            · rw [rb_set (by rw [List.length_replicate]; omega), if_pos rfl]
            · rw [rd_set (by rw [List.length_replicate]; omega), if_pos rfl]
              exact Int.le_refl _)
          have hev := l1_ev2 b costs hb hl hc hnl (walkB b (-1)).1 hsl hseen (resG b costs) (b.length + 1) 0 _ (by omega) hB0 (by
            cases hlp : loopF (nxB b) costs b.length (b.length + 1) ⟨(List.replicate b.length 0).set 0 (rd costs 0), (List.replicate b.length false).set 0 true, rd costs 0, false⟩ with
            | none =>
              rw [hlp] at hspec
              dsimp only at hspec ⊢
              rcases hres with ⟨L, hr, hG⟩ | ⟨hr, _⟩
              · obtain ⟨m, x, s, hps, hs⟩ := hspec
                have := (hG.le m x s hps).1
                have := hG.top
                omega
              · exact hr
            | some st =>
              rw [hlp] at hspec
              dsimp only at hspec ⊢
              unfold finB
              rcases hres with ⟨L, hr, hG⟩ | ⟨hr, hB⟩
              · rw [back_no b (by omega) costs pos L hP hG, if_neg (by simp), hr]
                obtain ⟨m, x, hps⟩ := hG.at_
                have hpx := hG.le m x L hps
                have hxo := (hO.reach x).2 hps.rch
                have hp2 := hP.at_ x hxo
                have hle := hO.le
                have h1 := hspec.all m x L (by omega) hps
                have h2 := hspec.ok.le x (hps.rch.lt (by omega)) h1.1
                obtain ⟨m2, x2, hps2⟩ := hspec.ok.ms
                have h3 := (hG.le m2 x2 _ hps2).1
                have : L = st.most := by omega
                rw [this]
              · rw [hr]
                rcases hB with ⟨x, t, hx, ht, hm, hp⟩ | hB | ⟨m, x, t, v, hps, hm, hv, ht, htm, hbad⟩
                · rw [back_yes b (by omega) pos hP x t hx ht hm hp, if_pos rfl]
                · exact absurd hB htop
                · have h1 := (hspec.all m x v (by omega) hps).2.2 t ht htm
                  omega)
          refine Ev.step (fun k => ?_) hev
          rw [e0 k, if_neg htop]
    · refine Ev.congr (f := fun k => pianolaref10_Longest.j0 k b costs true) (fun k => ?_) (no _ (nores (fun h => hl h.2.1)))
      unfold pianolaref10_Longest.f
      rw [if_neg (by omega), show ((costs.length : Int) != (b.length : Int)) = true by simp; omega]
theorem GasLongest : Q.GasLongest := by
  intro x0 x1 h0 h1
  apply Ev.rounds
  unfold pianolalaw10_GasLongest.f
  by_cases hl : (x0.length : Int) > 40
  · simp only [if_pos hl]
    exact Ev.bind lives_ev (Ev.now true)
  · simp only [if_neg hl]
    have hwf : ∀ c ∈ x1, c ≤ 9223372036854775807 := by
      intro c hc
      have := wfA (h1.1 c hc)
      omega
    have hnl : ∀ x : Nat, x < x0.length → (nxB x0 x).length ≤ 17592186044415 := by
      intro x hx
      have : rd_T30 x0 (x : Int) ∈ x0 := by
        unfold rd_T30
        rw [Int.toNat_natCast, List.getD_eq_getElem?_getD, List.getElem?_eq_getElem hx]
        exact List.getElem_mem hx
      have := (h0.1 _ this).2.2.2
      unfold reachBytes at this
      unfold nxB
      omega
    have hcl : x1.length ≤ 17592186044415 := by
      have := h1.2
      unfold reachBytes at this
      omega
    refine Ev.bind (longest_ev x0 x1 (by omega) hwf hnl) (Ev.bind (ref_ev x0 x1 (by omega) hcl hwf hnl) (Ev.bind lives_ev ?_))
    rw [if_pos rfl, if_pos rfl]
    simp only [BEq.rfl]
    exact Ev.now true
end Go.Proofs.Ytpfbfnbffglbkaa.Pure
