import Derived.Test.YtpfbfnbffglbkaaFlowG
import Derived.Test.YtpfbfnbffglbkaaPF25
/- The dearest way is the dearest of all ways: plain; no statement of the seat. -/
set_option linter.unusedVariables false
set_option linter.unusedSimpArgs false
namespace Go.Proofs.Ytpfbfnbffglbkaa.P
open Go.RowKit Go.Proofs.YtpfbfnbffglbkaaW.PrintWords Go.Proofs.YtpfbfnbffglbkaaW.PrintLast Go.Proofs.YtpfbfnbffglbkaaW.PrintMore
theorem wfA {n : Int} (h : (Lit.int .i64 n).wf = true) : -9223372036854775808 ≤ n ∧ n < 9223372036854775808 := by
  simp [Lit.wf, IntKind.min, IntKind.max, IntKind.bits, IntKind.signed] at h
  omega
/-- In so many steps to a block, at such a cost. -/
inductive PS (nx : Nat → List Int) (n : Nat) (costs : List Int) : Nat → Nat → Int → Prop
  | zero : PS nx n costs 0 0 (rd costs 0)
  | step {m x : Nat} {s : Int} {t : Nat} : PS nx n costs m x s → t < n → (t : Int) ∈ nx x → PS nx n costs (m + 1) t (s + rd costs (t : Int))
theorem PS.rch {nx : Nat → List Int} {n : Nat} {costs : List Int} {m x : Nat} {s : Int} (h : PS nx n costs m x s) : Rch nx n 0 x := by
  induction h with
  | zero => exact Rch.refl 0
  | step _ a b ih => exact Rch.step ih a b
section
variable {nx : Nat → List Int} {pl costs : List Int} {n : Nat}
theorem isN_of {n j : Nat} (h : j < n) : isN n (j : Int) = true := by unfold isN; rw [decide_eq_true (by omega), decide_eq_true (by omega)]; rfl
/-- What a block's others have become. -/
structure InnS (pl costs : List Int) (n x : Nat) (l best best' : List Int) : Prop where
  len : best'.length = n
  le : ∀ j : Nat, rd best (j : Int) ≤ rd best' (j : Int)
  keep : ∀ j : Nat, rd pl (j : Int) ≤ rd pl (x : Int) → rd best' (j : Int) = rd best (j : Int)
  all : ∀ t : Nat, t < n → (t : Int) ∈ l → rd pl (x : Int) < rd pl (t : Int) ∧ rd costs (t : Int) ≤ mostG - rd best (x : Int) ∧ rd best (x : Int) + rd costs (t : Int) ≤ rd best' (t : Int)
  from_ : ∀ j : Nat, j < n → rd best' (j : Int) = rd best (j : Int) ∨ ((j : Int) ∈ l ∧ rd pl (x : Int) < rd pl (j : Int) ∧ rd best' (j : Int) = rd best (x : Int) + rd costs (j : Int))
theorem innG_some {x : Nat} : ∀ (l best best' : List Int), best.length = n → innG pl costs n (x : Int) l best = some best' → InnS pl costs n x l best best'
  | [], best, best', hl, h => by
    rw [innG, Option.some.injEq] at h
    subst h
    exact ⟨hl, fun j => Int.le_refl _, fun j _ => rfl, fun t _ ht => absurd ht (by simp), fun j _ => Or.inl rfl⟩
  | t :: l, best, best', hl, h => by
    rw [innG] at h
    by_cases hn : isN n t = true
    · rw [if_pos hn] at h
      obtain ⟨j, rfl, hj⟩ := isN_nat hn
      by_cases hbad : rd pl (j : Int) ≤ rd pl (x : Int) ∨ rd costs (j : Int) > mostG - rd best (x : Int)
      · rw [if_pos hbad] at h
        cases h
      · rw [if_neg hbad, Int.toNat_natCast] at h
        have hne : x ≠ j := by rintro rfl; omega
        have ih := innG_some l _ best' (by rw [List.length_set]; exact hl) h
        have hs : ∀ i : Nat, rd (best.set j (mx (rd best (j : Int)) (rd best (x : Int) + rd costs (j : Int)))) (i : Int) = if i = j then mx (rd best (j : Int)) (rd best (x : Int) + rd costs (j : Int)) else rd best (i : Int) := fun i => rd_set (by omega) _ i
        have hx := hs x
        rw [if_neg hne] at hx
        have hmx := mx_def (rd best (j : Int)) (rd best (x : Int) + rd costs (j : Int))
        have hjj := hs j
        rw [if_pos rfl] at hjj
        refine ⟨ih.len, fun i => ?_, fun i hi => ?_, fun u hu hm => ?_, fun i hi => ?_⟩
        · have h1 := ih.le i
          by_cases e : i = j
          · subst e
            rw [hjj, hmx] at h1
            split at h1 <;> omega
          · have h2 := hs i
            rw [if_neg e] at h2
            omega
        · rw [ih.keep i hi]
          have h2 := hs i
          rw [if_neg (by rintro rfl; omega)] at h2
          exact h2
        · rcases List.mem_cons.1 hm with e | hm
          · have : u = j := by omega
            subst this
            have h1 := ih.le u
            rw [hjj, hmx] at h1
            refine ⟨by omega, by omega, ?_⟩
            split at h1 <;> omega
          · have h1 := ih.all u hu hm
            rw [hx] at h1
            exact h1
        · rcases ih.from_ i hi with h1 | ⟨h1, h2, h3⟩
          · by_cases e : i = j
            · subst e
              rw [hjj, hmx] at h1
              split at h1
              · exact Or.inr ⟨List.mem_cons_self, by omega, h1⟩
              · exact Or.inl h1
            · have h2 := hs i
              rw [if_neg e] at h2
              exact Or.inl (h1.trans h2)
          · rw [hx] at h3
            exact Or.inr ⟨List.mem_cons_of_mem _ h1, h2, h3⟩
    · rw [if_neg hn] at h
      have ih := innG_some l best best' hl h
      refine ⟨ih.len, ih.le, ih.keep, fun u hu hm => ?_, fun i hi => (ih.from_ i hi).imp id (fun ⟨a, b, c⟩ => ⟨List.mem_cons_of_mem _ a, b, c⟩)⟩
      rcases List.mem_cons.1 hm with e | hm
      · exact absurd (by rw [← e]; exact isN_of hu) hn
      · exact ih.all u hu hm
theorem innG_none {x : Nat} : ∀ (l best : List Int), best.length = n → innG pl costs n (x : Int) l best = none → ∃ t : Nat, t < n ∧ (t : Int) ∈ l ∧ (rd pl (t : Int) ≤ rd pl (x : Int) ∨ rd costs (t : Int) > mostG - rd best (x : Int))
  | [], best, hl, h => by rw [innG] at h; cases h
  | t :: l, best, hl, h => by
    rw [innG] at h
    by_cases hn : isN n t = true
    · rw [if_pos hn] at h
      obtain ⟨j, rfl, hj⟩ := isN_nat hn
      by_cases hbad : rd pl (j : Int) ≤ rd pl (x : Int) ∨ rd costs (j : Int) > mostG - rd best (x : Int)
      · exact ⟨j, hj, List.mem_cons_self, hbad⟩
      · rw [if_neg hbad, Int.toNat_natCast] at h
        have hne : x ≠ j := by rintro rfl; omega
        obtain ⟨u, h1, h2, h3⟩ := innG_none l _ (by rw [List.length_set]; exact hl) h
        rw [rd_set (by omega), if_neg hne] at h3
        exact ⟨u, h1, List.mem_cons_of_mem _ h2, h3⟩
    · rw [if_neg hn] at h
      obtain ⟨u, h1, h2, h3⟩ := innG_none l best hl h
      exact ⟨u, h1, List.mem_cons_of_mem _ h2, h3⟩
/-- What holds of the costs so far. -/
structure OutI (nx : Nat → List Int) (pl costs : List Int) (n : Nat) (pos : Nat → Nat) (A : List Int) (lg : Int) (best : List Int) : Prop where
  len : best.length = n
  att : ∀ j : Nat, j < n → rd best (j : Int) = -1 ∨ ∃ m, m ≤ pos j ∧ PS nx n costs m j (rd best (j : Int))
  done : ∀ x : Nat, (x : Int) ∈ A → 0 ≤ rd best (x : Int) ∧ rd best (x : Int) ≤ lg ∧ ∀ t : Nat, t < n → (t : Int) ∈ nx x → rd pl (x : Int) < rd pl (t : Int) ∧ rd costs (t : Int) ≤ mostG - rd best (x : Int) ∧ rd best (x : Int) + rd costs (t : Int) ≤ rd best (t : Int)
  lg0 : 0 ≤ lg ∧ lg ≤ mostG
  lga : A = [] ∨ ∃ m x, PS nx n costs m x lg
  base : rd best 0 = rd costs 0
  first : A = [] → lg = 0
  top : ∀ j : Nat, j < n → j ≠ 0 → rd best (j : Int) ≤ mostG
/-- A way that goes back, or one that is too dear. -/
def BadG (nx : Nat → List Int) (n : Nat) (costs : List Int) (pos : Nat → Nat) (ord : List Int) : Prop :=
  (∃ x t : Nat, (x : Int) ∈ ord ∧ t < n ∧ (t : Int) ∈ nx x ∧ pos t ≤ pos x) ∨ rd costs 0 > mostG ∨ ∃ (m x t : Nat) (v : Int), PS nx n costs m x v ∧ m < n ∧ 0 ≤ v ∧ t < n ∧ (t : Int) ∈ nx x ∧ rd costs (t : Int) > mostG - v
variable {seen : List Bool} {ord : List Int} {pos : Nat → Nat}
theorem outG_spec (hO : OrdOK nx n seen ord) (hP : PlB n ord pl pos) (hc : ∀ j : Nat, j < n → 0 ≤ rd costs (j : Int)) (hn : 0 < n) : ∀ (l A : List Int) (lg : Int) (best : List Int), ord = A ++ l → OutI nx pl costs n pos A lg best →
    match outG nx pl costs n l lg best with
    | some L => ∃ best', OutI nx pl costs n pos ord L best'
    | none => BadG nx n costs pos ord
  | [], A, lg, best, e, h => by
    rw [outG]
    rw [List.append_nil] at e
    exact ⟨best, by rw [e]; exact h⟩
  | x :: l, A, lg, best, e, h => by
    obtain ⟨x, rfl, hxn⟩ := hO.isNat x (by rw [e]; simp)
    have hx : (x : Int) ∈ ord := by rw [e]; simp
    have hpx := hP.at_ x hx
    have hsort := fun y hy => hP.sorted hO.nd A l x y e hy
    have hb0 : 0 ≤ rd best (x : Int) := by
      by_cases h0 : x = 0
      · subst h0
        have := h.base
        rw [show ((0 : Nat) : Int) = 0 from rfl, this]
        exact hc 0 hn
      · obtain ⟨p, hpA, hp⟩ := hO.pred A l x e h0
        have h1 := h.done p hpA
        have h2 := h1.2.2 x hxn hp
        have h3 := hc x hxn
        omega
    rw [outG, Int.toNat_natCast]
    by_cases hm : rd best (x : Int) > mostG
    · rw [if_pos hm]
      show BadG nx n costs pos ord
      by_cases h0 : x = 0
      · subst h0
        refine Or.inr (Or.inl ?_)
        have := h.base
        rw [show ((0 : Nat) : Int) = 0 from rfl, this] at hm
        exact hm
      · have := h.top x hxn h0
        omega
    · rw [if_neg hm]
      cases hi : innG pl costs n (x : Int) (nx x) best with
      | none =>
        rw [Option.bind_none]
        show BadG nx n costs pos ord
        obtain ⟨t, ht, htm, hbad⟩ := innG_none (nx x) best h.len hi
        rcases hbad with hbad | hbad
        · refine Or.inl ⟨x, t, hx, ht, htm, ?_⟩
          have hto : (t : Int) ∈ ord := (hO.reach t).2 (Rch.step ((hO.reach x).1 hx) ht htm)
          have := hP.at_ t hto
          omega
        · rcases h.att x hxn with h1 | ⟨m, h1, h2⟩
          · omega
          · exact Or.inr (Or.inr ⟨m, x, t, _, h2, by have := hO.le; omega, hb0, ht, htm, hbad⟩)
      | some best' =>
        rw [Option.bind_some]
        have hI := innG_some (nx x) best best' h.len hi
        have hkx := hI.keep x (Int.le_refl _)
        have hmx := mx_def lg (rd best (x : Int))
        refine outG_spec hO hP hc hn l (A ++ [(x : Int)]) _ best' (by rw [e, List.append_assoc]; rfl) ⟨hI.len, fun j hj => ?_, fun y hy => ?_, ?_, ?_, ?_, ?_, fun j hj hj0 => ?_⟩
        · rcases hI.from_ j hj with h1 | ⟨h1, h2, h3⟩
          · rw [h1]; exact h.att j hj
          · rw [h3]
            rcases h.att x hxn with h4 | ⟨m, h4, h5⟩
            · omega
            · refine Or.inr ⟨m + 1, ?_, PS.step h5 hj h1⟩
              have hto : (j : Int) ∈ ord := (hO.reach j).2 (Rch.step ((hO.reach x).1 hx) hj h1)
              have := hP.at_ j hto
              omega
        · rcases List.mem_append.1 hy with hy | hy
          · have h1 := h.done y hy
            have hyo : (y : Int) ∈ ord := by rw [e]; exact List.mem_append_left _ hy
            have h2 := hsort y hy
            have h3 := hP.at_ y hyo
            have h4 := hI.keep y (by omega)
            rw [h4]
            refine ⟨h1.1, by rw [hmx]; split <;> omega, fun t ht htm => ?_⟩
            have h5 := h1.2.2 t ht htm
            have h6 := hI.le t
            exact ⟨h5.1, h5.2.1, by omega⟩
          · rw [List.mem_singleton] at hy
            have : y = x := by omega
            subst this
            rw [hkx]
            exact ⟨hb0, by rw [hmx]; split <;> omega, fun t ht htm => hI.all t ht htm⟩
        · have := h.lg0
          rw [hmx]
          split <;> omega
        · refine Or.inr ?_
          rw [hmx]
          split
          · rcases h.att x hxn with h4 | ⟨m, h4, h5⟩
            · omega
            · exact ⟨m, x, h5⟩
          · rcases h.lga with h4 | h4
            · have := h.first h4
              rcases h.att x hxn with h5 | ⟨m, h5, h6⟩
              · omega
              · have e1 : rd best (x : Int) = lg := by omega
                rw [e1] at h6
                exact ⟨m, x, h6⟩
            · exact h4
        · have h0 : (0 : Int) ∈ ord := by obtain ⟨l', e'⟩ := hO.first; rw [e']; simp
          have hz := hP.at_ 0 h0
          have hz0 : pos 0 = 0 := by
            obtain ⟨l', e'⟩ := hO.first
            exact hP.split hO.nd [] l' 0 (by rw [e']; rfl)
          have := hI.keep 0 (by omega)
          rw [show ((0 : Nat) : Int) = 0 from rfl] at this
          rw [this]
          exact h.base
        · intro h1
          simp at h1
        · rcases hI.from_ j hj with h1 | ⟨h1, h2, h3⟩
          · rw [h1]; exact h.top j hj hj0
          · have := (hI.all j hj h1).2.1
            omega
/-- What is so at the end. -/
structure GoodG (nx : Nat → List Int) (n : Nat) (costs : List Int) (pos : Nat → Nat) (ord : List Int) (L : Int) : Prop where
  up : ∀ x t : Nat, (x : Int) ∈ ord → t < n → (t : Int) ∈ nx x → pos x < pos t
  le : ∀ (m x : Nat) (s : Int), PS nx n costs m x s → s ≤ L ∧ m ≤ pos x
  at_ : ∃ m x, PS nx n costs m x L
  top : 0 ≤ L ∧ L ≤ mostG
theorem goodG (hO : OrdOK nx n seen ord) (hP : PlB n ord pl pos) (hn : 0 < n) {L : Int} {best : List Int} (h : OutI nx pl costs n pos ord L best) : GoodG nx n costs pos ord L := by
  have h0 : (0 : Int) ∈ ord := by obtain ⟨l', e'⟩ := hO.first; rw [e']; simp
  have hup : ∀ x t : Nat, (x : Int) ∈ ord → t < n → (t : Int) ∈ nx x → pos x < pos t := by
    intro x t hx ht htm
    have h1 := (h.done x hx).2.2 t ht htm
    have h2 := hP.at_ x hx
    have h3 := hP.at_ t ((hO.reach t).2 (Rch.step ((hO.reach x).1 hx) ht htm))
    omega
  refine ⟨hup, ?_, ?_, h.lg0⟩
  · have key : ∀ (m x : Nat) (s : Int), PS nx n costs m x s → s ≤ rd best (x : Int) ∧ m ≤ pos x := by
      intro m x s hs
      induction hs with
      | zero => exact ⟨by rw [show ((0 : Nat) : Int) = 0 from rfl, h.base]; exact Int.le_refl _, Nat.zero_le _⟩
      | step hp ht htm ih =>
        have hx := (hO.reach _).2 hp.rch
        have h1 := (h.done _ hx).2.2 _ ht htm
        have h2 := hup _ _ hx ht htm
        exact ⟨by omega, by omega⟩
    intro m x s hs
    have h1 := key m x s hs
    have h2 := (h.done x ((hO.reach x).2 hs.rch)).2.1
    exact ⟨by omega, h1.2⟩
  · rcases h.lga with h1 | h1
    · rw [h1] at h0; simp at h0
    · exact h1
theorem startG (hP : PlB n ord pl pos) (hn : 0 < n) (hcl : costs.length = n) : OutI nx pl costs n pos [] 0 ((List.replicate n (-1)).set 0 (rd costs 0)) := by
  have hs : ∀ i : Nat, i < n → rd ((List.replicate n (-1)).set 0 (rd costs 0)) (i : Int) = if i = 0 then rd costs 0 else -1 := by
    intro i hi
    rw [rd_set (by simpa using hn)]
    split
    · rfl
    · unfold rd
      rw [Int.toNat_natCast, List.getD_eq_getElem?_getD, List.getElem?_replicate, if_pos hi]
      rfl
  refine ⟨by simp, fun j hj => ?_, fun x hx => by simp at hx, ⟨Int.le_refl _, by unfold mostG; omega⟩, Or.inl rfl, ?_, fun _ => rfl, fun j hj hj0 => ?_⟩
  · rw [hs j hj]
    split
    · rename_i h0
      subst h0
      exact Or.inr ⟨0, Nat.zero_le _, PS.zero⟩
    · exact Or.inl rfl
  · have := hs 0 hn
    rw [if_pos rfl] at this
    exact this
  · rw [hs j hj, if_neg hj0]
    unfold mostG
    omega
end
theorem minL_fold : ∀ (l : List Int) (m : Int), (l.foldl (fun m y => if y < m then y else m) m ≤ m) ∧ (∀ y ∈ l, l.foldl (fun m y => if y < m then y else m) m ≤ y) ∧ (l.foldl (fun m y => if y < m then y else m) m = m ∨ l.foldl (fun m y => if y < m then y else m) m ∈ l)
  | [], m => ⟨Int.le_refl _, fun y hy => absurd hy (by simp), Or.inl rfl⟩
  | x :: l, m => by
    rw [List.foldl_cons]
    obtain ⟨h1, h2, h3⟩ := minL_fold l (if x < m then x else m)
    have hx : (if x < m then x else m) ≤ x ∧ (if x < m then x else m) ≤ m := by split <;> omega
    refine ⟨by omega, fun y hy => ?_, ?_⟩
    · rcases List.mem_cons.1 hy with e | hy
      · subst e; omega
      · exact h2 y hy
    · rcases h3 with h3 | h3
      · rw [h3]
        split
        · exact Or.inr List.mem_cons_self
        · exact Or.inl rfl
      · exact Or.inr (List.mem_cons_of_mem _ h3)
theorem minL_neg (l : List Int) (h : l ≠ []) : minL l < 0 ↔ ∃ y ∈ l, y < 0 := by
  match l, h with
  | x :: l, _ =>
    obtain ⟨h1, h2, h3⟩ := minL_fold l x
    show l.foldl _ x < 0 ↔ _
    constructor
    · intro hl
      rcases h3 with h3 | h3
      · exact ⟨x, List.mem_cons_self, by omega⟩
      · exact ⟨_, List.mem_cons_of_mem _ h3, hl⟩
    · rintro ⟨y, hy, hy0⟩
      rcases List.mem_cons.1 hy with e | hy
      · subst e; omega
      · have := h2 y hy
        omega
/-- gas.Longest's answer. -/
def resG (b : List S30) (costs : List Int) : Int × Bool :=
  if 0 < b.length ∧ costs.length = b.length ∧ ∀ c ∈ costs, 0 ≤ c then (match outG (nxB b) (placeG (ordB b) 0 (List.replicate b.length 0)) costs b.length (ordB b) 0 ((List.replicate b.length (-1)).set 0 (rd costs 0)) with | some L => (L, true) | none => (0, false)) else (0, false)
theorem longest_ev (b : List S30) (costs : List Int) (hb : b.length ≤ 3600000000000) (hc : ∀ c ∈ costs, c ≤ 9223372036854775807) (hnl : ∀ x : Nat, x < b.length → (nxB b x).length ≤ 17592186044415) : Ev (fun k => gas_Longest.f k b costs) (resG b costs) := by
  have no : ∀ (r : Int × Bool), r = (0, false) → Ev (fun k => gas_Longest.j0 k b costs true) r := by
    rintro r rfl
    refine ⟨1, fun k hk => ?_⟩
    obtain ⟨k, rfl⟩ : ∃ m, k = m + 1 := ⟨k - 1, by omega⟩
    simp only [gas_Longest.j0]
    rw [if_pos trivial]
  unfold resG
  by_cases h0 : b.length = 0
  · refine Ev.congr (f := fun k => gas_Longest.j0 k b costs true) (fun k => ?_) (no _ (by rw [if_neg (by omega)]))
    unfold gas_Longest.f
    rw [if_pos (by omega)]
  · by_cases hl : costs.length = b.length
    · have hne : costs ≠ [] := by
        rintro rfl
        exact h0 hl.symm
      by_cases hm : minL costs < 0
      · refine Ev.congr (f := fun k => gas_Longest.j0 k b costs true) (fun k => ?_) (no _ ?_)
        · unfold gas_Longest.f slices_Min_int_int.f
          rw [if_neg (by omega), if_pos (by omega), if_neg (by omega), Option.bind_some, decide_eq_true hm]
        · rw [if_neg]
          rintro ⟨_, _, h⟩
          obtain ⟨y, hy, hy0⟩ := (minL_neg costs hne).1 hm
          have := h y hy
          omega
      · have hnn : ∀ c ∈ costs, 0 ≤ c := by
          intro c hcm
          by_cases h1 : 0 ≤ c
          · exact h1
          · exact absurd ((minL_neg costs hne).2 ⟨c, hcm, by omega⟩) hm
        rw [if_pos ⟨by omega, hl, hnn⟩]
        have hO := ordOK_B b (by omega)
        obtain ⟨r, hr⟩ : ∃ r, r = (match outG (nxB b) (placeG (ordB b) 0 (List.replicate b.length 0)) costs b.length (ordB b) 0 ((List.replicate b.length (-1)).set 0 (rd costs 0)) with | some L => (L, true) | none => (0, false)) := ⟨_, rfl⟩
        rw [← hr]
        have hc0 : 0 ≤ rd costs 0 ∧ rd costs 0 ≤ 9223372036854775807 := by
          have : rd costs ((0 : Nat) : Int) ∈ costs := rd_at (by omega)
          exact ⟨hnn _ this, hc _ this⟩
        have hBI : BI b.length ((List.replicate b.length (-1)).set 0 (rd costs 0)) := by
          refine BI.set ⟨List.length_replicate, fun j hj => ?_⟩ 0 (by omega) _ (by omega) hc0.2
          have : rd (List.replicate b.length (-1)) (j : Int) = -1 := by
            unfold rd
            rw [Int.toNat_natCast, List.getD_eq_getElem?_getD, List.getElem?_replicate, if_pos hj]
            rfl
          omega
        have e1 := l1_ev b (placeG (ordB b) 0 (List.replicate b.length 0)) costs (ordB b) r hl (fun c hcm => ⟨hnn c hcm, hc c hcm⟩) (by rw [placeG_len, List.length_replicate]) hb hO.le hO.isNat hnl (ordB b).length 0 0 ((List.replicate b.length (-1)).set 0 (rd costs 0)) (by omega) hBI (by
          rw [List.drop_zero]
          cases ho : outG (nxB b) (placeG (ordB b) 0 (List.replicate b.length 0)) costs b.length (ordB b) 0 ((List.replicate b.length (-1)).set 0 (rd costs 0)) with
          | none => rw [ho] at hr; exact hr
          | some L => rw [ho] at hr; exact hr)
        have e0 := l0_ev b costs (ordB b) r hb hO.le hO.isNat hl (by omega) (ordB b).length 0 (List.replicate b.length 0) (by omega) List.length_replicate (by rw [List.drop_zero]; exact e1)
        refine Ev.congr (f := fun k => gas_Longest.j0 k b costs false) (fun k => ?_) (Ev.step (fun k => ?_) e0)
        · unfold gas_Longest.f slices_Min_int_int.f
          rw [if_neg (by omega), if_pos (by omega), if_neg (by omega), Option.bind_some, decide_eq_false hm]
        · simp only [gas_Longest.j0]
          rw [if_neg (by simp), order_run b hb, Option.bind_some, if_pos (by omega), if_pos (by omega), Int.toNat_natCast]
          rfl
    · refine Ev.congr (f := fun k => gas_Longest.j0 k b costs true) (fun k => ?_) (no _ (by rw [if_neg (fun h => hl h.2.1)]))
      unfold gas_Longest.f
      rw [if_neg (by omega), if_neg (by omega)]
/-- .. and what it says. -/
theorem resG_spec (b : List S30) (costs : List Int) (hb : 0 < b.length) (hl : costs.length = b.length) (hc : ∀ c ∈ costs, 0 ≤ c) :
    ∃ pos, PlB b.length (ordB b) (placeG (ordB b) 0 (List.replicate b.length 0)) pos ∧ ((∃ L, resG b costs = (L, true) ∧ GoodG (nxB b) b.length costs pos (ordB b) L) ∨ (resG b costs = (0, false) ∧ BadG (nxB b) b.length costs pos (ordB b))) := by
  have hO := ordOK_B b hb
  have hP := plB (nxB b) b.length _ (ordB b) hO
  refine ⟨_, hP, ?_⟩
  have hs := outG_spec (costs := costs) hO hP (fun j hj => hc _ (rd_at (by omega))) hb (ordB b) [] 0 _ rfl (startG hP hb hl)
  unfold resG
  rw [if_pos ⟨hb, hl, hc⟩]
  split at hs
  · rename_i L ho
    obtain ⟨best, hbest⟩ := hs
    exact Or.inl ⟨L, rfl, goodG hO hP hb hbest⟩
  · exact Or.inr ⟨rfl, hs⟩
theorem resG_true (b : List S30) (costs : List Int) (h : (resG b costs).2 = true) : 0 < b.length ∧ costs.length = b.length ∧ ∀ c ∈ costs, 0 ≤ c := by
  unfold resG at h
  by_cases hc : 0 < b.length ∧ costs.length = b.length ∧ ∀ c ∈ costs, 0 ≤ c
  · exact hc
  · rw [if_neg hc] at h
    cases h
theorem gasLives : pianolalaw10_lives.f 60 = some true := by decide +kernel
theorem gasLives_at (k : Nat) (hk : 60 ≤ k) : pianolalaw10_lives.f k = some true := at_rounds pianolalaw10_lives.mono hk gasLives
end Go.Proofs.Ytpfbfnbffglbkaa.P
