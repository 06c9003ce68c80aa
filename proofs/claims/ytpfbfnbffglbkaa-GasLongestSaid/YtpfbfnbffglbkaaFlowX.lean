import Derived.Test.YtpfbfnbffglbkaaFlowA
/- Blocks gone through: which are reached, in which order they are left: plain; no statement of the seat. -/
set_option linter.unusedVariables false
set_option linter.unusedSimpArgs false
namespace Go.Proofs.Ytpfbfnbffglbkaa.P
open Go.RowKit Go.Proofs.YtpfbfnbffglbkaaW.PrintWords Go.Proofs.YtpfbfnbffglbkaaW.PrintLast Go.Proofs.YtpfbfnbffglbkaaW.PrintMore
/-- From a block one comes to another. -/
inductive Rch (nx : Nat → List Int) (n : Nat) : Nat → Nat → Prop
  | refl (i : Nat) : Rch nx n i i
  | step {i j k : Nat} : Rch nx n i j → k < n → (k : Int) ∈ nx j → Rch nx n i k
theorem Rch.trans {nx : Nat → List Int} {n i j k : Nat} (h : Rch nx n i j) (g : Rch nx n j k) : Rch nx n i k := by
  induction g with
  | refl => exact h
  | step _ hk hm ih => exact Rch.step ih hk hm
theorem Rch.lt {nx : Nat → List Int} {n i j : Nat} (h : Rch nx n i j) (hi : i < n) : j < n := by
  cases h with
  | refl => exact hi
  | step _ hk _ => exact hk
/-- What going through blocks from some roots does. -/
structure VS (nx : Nat → List Int) (n : Nat) (R : Nat → Prop) (a c : List Bool × List Int) (L : List Int) : Prop where
  ln : a.1.length = n
  app : c.2 = a.2 ++ L
  len : c.1.length = n
  seen : ∀ j : Nat, j < n → (c.1[j]? = some true ↔ (a.1[j]? = some true ∨ (j : Int) ∈ L))
  new : ∀ x ∈ L, ∃ j : Nat, x = (j : Int) ∧ j < n ∧ a.1[j]? = some false
  nd : L.Nodup
  clos : ∀ j : Nat, (j : Int) ∈ L → ∀ t : Nat, t < n → (t : Int) ∈ nx j → c.1[t]? = some true
  pred : ∀ (P S : List Int) (j : Nat), L = P ++ (j : Int) :: S → R j ∨ ∃ p : Nat, (p : Int) ∈ S ∧ (j : Int) ∈ nx p
  reach : ∀ j : Nat, (j : Int) ∈ L → ∃ r, R r ∧ Rch nx n r j
  back : (∀ g : Nat, g < n → a.1[g]? = some true → ¬ (g : Int) ∈ a.2 → ∀ r, R r → Rch nx n g r) → ∀ (P S : List Int) (j : Nat), L = P ++ (j : Int) :: S →
    ∀ t : Nat, t < n → (t : Int) ∈ nx j → (t : Int) ∈ a.2 ∨ (t : Int) ∈ P ∨ Rch nx n t j
theorem tf {o : Option Bool} (h : o = some true) (k : o = some false) : False := by rw [h] at k; cases k
theorem VS.refl {nx : Nat → List Int} {n : Nat} {R : Nat → Prop} {a : List Bool × List Int} (h : a.1.length = n) : VS nx n R a a [] := by
  refine ⟨h, by simp, h, fun j _ => by simp, by simp, List.nodup_nil, by simp, ?_, by simp, ?_⟩
  · intro P S j e
    simp at e
  · intro _ P S j e
    simp at e
theorem VS.mono {nx : Nat → List Int} {n : Nat} {R R' : Nat → Prop} {a c : List Bool × List Int} {L : List Int} (h : VS nx n R a c L) (hR : ∀ r, R r → R' r) : VS nx n R' a c L :=
  ⟨h.ln, h.app, h.len, h.seen, h.new, h.nd, h.clos, fun P S j e => (h.pred P S j e).imp (hR j) id, fun j hj => let ⟨r, a, b⟩ := h.reach j hj; ⟨r, hR r a, b⟩,
    fun H P S j e t => h.back (fun g hg h1 h2 r hr => H g hg h1 h2 r (hR r hr)) P S j e t⟩
theorem VS.keep {nx : Nat → List Int} {n : Nat} {R : Nat → Prop} {a c : List Bool × List Int} {L : List Int} (h : VS nx n R a c L) (j : Nat) (hj : j < n) (hs : a.1[j]? = some true) : c.1[j]? = some true := (h.seen j hj).2 (Or.inl hs)
theorem VS.trans {nx : Nat → List Int} {n : Nat} {R R' : Nat → Prop} {a b c : List Bool × List Int} {L L' : List Int} (h : VS nx n R a b L) (k : VS nx n R' b c L') : VS nx n (fun r => R r ∨ R' r) a c (L ++ L') := by
  refine ⟨h.ln, by rw [k.app, h.app, List.append_assoc], k.len, ?_, ?_, ?_, ?_, ?_, ?_, ?_⟩
  · intro j hj
    rw [k.seen j hj, h.seen j hj, List.mem_append, or_assoc]
  · intro x hx
    rcases List.mem_append.1 hx with hx | hx
    · exact h.new x hx
    · obtain ⟨j, rfl, hj, hb⟩ := k.new x hx
      refine ⟨j, rfl, hj, ?_⟩
      have hl : j < a.1.length := by rw [h.ln]; exact hj
      cases hv : a.1[j] with
      | false => rw [List.getElem?_eq_getElem hl, hv]
      | true => exact (tf (h.keep j hj (by rw [List.getElem?_eq_getElem hl, hv])) hb).elim
  · rw [List.nodup_append]
    refine ⟨h.nd, k.nd, ?_⟩
    rintro x hx y hy rfl
    obtain ⟨j, rfl, hj, hb⟩ := k.new x hy
    exact tf ((h.seen j hj).2 (Or.inr hx)) hb
  · intro j hj t ht hm
    rcases List.mem_append.1 hj with hj | hj
    · exact k.keep t ht (h.clos j hj t ht hm)
    · exact k.clos j hj t ht hm
  · intro P S j e
    rcases List.append_eq_append_iff.1 e with ⟨Q, e1, e2⟩ | ⟨Q, e1, e2⟩
    · rcases k.pred Q S j e2 with hr | hp
      · exact Or.inl (Or.inr hr)
      · exact Or.inr hp
    · cases Q with
      | nil =>
        rcases k.pred [] S j (by simpa using e2.symm) with hr | hp
        · exact Or.inl (Or.inr hr)
        · exact Or.inr hp
      | cons q Q =>
        rw [List.cons_append, List.cons.injEq] at e2
        obtain ⟨rfl, rfl⟩ := e2
        rcases h.pred P Q j e1 with hr | ⟨p, hp, hm⟩
        · exact Or.inl (Or.inl hr)
        · exact Or.inr ⟨p, List.mem_append_left _ hp, hm⟩
  · intro j hj
    rcases List.mem_append.1 hj with hj | hj
    · obtain ⟨r, hr, hh⟩ := h.reach j hj
      exact ⟨r, Or.inl hr, hh⟩
    · obtain ⟨r, hr, hh⟩ := k.reach j hj
      exact ⟨r, Or.inr hr, hh⟩
  · intro H P S j e t ht hm
    have H1 : ∀ g : Nat, g < n → a.1[g]? = some true → ¬ (g : Int) ∈ a.2 → ∀ r, R r → Rch nx n g r := fun g hg h1 h2 r hr => H g hg h1 h2 r (Or.inl hr)
    have H2 : ∀ g : Nat, g < n → b.1[g]? = some true → ¬ (g : Int) ∈ b.2 → ∀ r, R' r → Rch nx n g r := by
      intro g hg h1 h2 r hr
      rw [h.app, List.mem_append] at h2
      rcases (h.seen g hg).1 h1 with h3 | h3
      · exact H g hg h3 (fun h4 => h2 (Or.inl h4)) r (Or.inr hr)
      · exact absurd (Or.inr h3) h2
    have two : ∀ (Q : List Int), L' = Q ++ (j : Int) :: S → P = L ++ Q → (t : Int) ∈ a.2 ∨ (t : Int) ∈ P ∨ Rch nx n t j := by
      intro Q e2 e1
      rcases k.back H2 Q S j e2 t ht hm with h3 | h3 | h3
      · rw [h.app, List.mem_append] at h3
        rcases h3 with h3 | h3
        · exact Or.inl h3
        · exact Or.inr (Or.inl (by rw [e1]; exact List.mem_append_left _ h3))
      · exact Or.inr (Or.inl (by rw [e1]; exact List.mem_append_right _ h3))
      · exact Or.inr (Or.inr h3)
    rcases List.append_eq_append_iff.1 e with ⟨Q, e1, e2⟩ | ⟨Q, e1, e2⟩
    · exact two Q e2 e1
    · cases Q with
      | nil => exact two [] (by simpa using e2.symm) (by simpa using e1.symm)
      | cons q Q =>
        rw [List.cons_append, List.cons.injEq] at e2
        obtain ⟨rfl, rfl⟩ := e2
        exact h.back H1 P Q j e1 t ht hm
theorem vis_vs (nx : Nat → List Int) (n : Nat) : ∀ f i (st : List Bool × List Int), st.1.length = n → i < n → st.1[i]? = some false → unseen st.1 ≤ f →
    ∃ L, VS nx n (fun r => r = i) st (vis nx n f i st) (L ++ [(i : Int)])
  | 0, i, st, hl, hi, hf, hu => by
    have := unseen_set st.1 i hf
    omega
  | f + 1, i, st, hl, hi, hf, hu => by
    have hs := unseen_set st.1 i hf
    have one : ∀ (t : Int) (a : List Bool × List Int), a.1.length = n → unseen a.1 ≤ f → ∃ L, VS nx n (fun r => r < n ∧ (r : Int) = t) a (goV nx n f a t) L ∧ (isN n t = true → (goV nx n f a t).1[t.toNat]? = some true) := by
      intro t a ha hua
      unfold goV
      split
      · rename_i hc
        rw [Bool.and_eq_true] at hc
        obtain ⟨j, rfl, hj⟩ := isN_nat hc.1
        rw [Int.toNat_natCast] at hc ⊢
        obtain ⟨L, h⟩ := vis_vs nx n f j a ha hj (getD_false (by omega) (by simpa using hc.2)) hua
        exact ⟨_, h.mono (fun r hr => by subst hr; exact ⟨hj, rfl⟩), fun _ => (h.seen j hj).2 (Or.inr (by simp))⟩
      · rename_i hc
        refine ⟨[], VS.refl ha, fun hn => ?_⟩
        obtain ⟨j, rfl, hj⟩ := isN_nat hn
        rw [hn, Int.toNat_natCast, Bool.true_and, Bool.not_eq_true', Bool.not_eq_false, List.getD_eq_getElem?_getD, List.getElem?_eq_getElem (by omega)] at hc
        rw [Int.toNat_natCast, List.getElem?_eq_getElem (by omega)]
        exact congrArg some hc
    have hgo : ∀ (l : List Int) (a : List Bool × List Int), a.1.length = n → unseen a.1 ≤ f →
        ∃ L, VS nx n (fun r => r < n ∧ (r : Int) ∈ l) a (l.foldl (goV nx n f) a) L ∧ ∀ t : Nat, t < n → (t : Int) ∈ l → (l.foldl (goV nx n f) a).1[t]? = some true := by
      intro l
      induction l with
      | nil => intro a ha _; exact ⟨[], VS.refl ha, by simp⟩
      | cons t l ih =>
        intro a ha hua
        obtain ⟨L1, h1, s1⟩ := one t a ha hua
        have ho := goV_ok nx n f a ha hua t
        obtain ⟨L2, h2, s2⟩ := ih _ ho.len (Nat.le_trans ho.less hua)
        rw [List.foldl_cons]
        refine ⟨_, (h1.trans h2).mono ?_, ?_⟩
        · rintro r (⟨h, e⟩ | ⟨h, e⟩)
          · exact ⟨h, by rw [e]; exact List.mem_cons_self⟩
          · exact ⟨h, List.mem_cons_of_mem _ e⟩
        · intro u hu hm
          rcases List.mem_cons.1 hm with e | hm
          · subst e
            have := s1 (by unfold isN; rw [Bool.and_eq_true, decide_eq_true_eq, decide_eq_true_eq]; omega)
            rw [Int.toNat_natCast] at this
            exact h2.keep u hu this
          · exact s2 u hu hm
    obtain ⟨L, h, sa⟩ := hgo (nx i) (st.1.set i true, st.2) (by simpa using hl) (show unseen (st.1.set i true) ≤ f by omega)
    rw [vis_succ]
    obtain ⟨c, hc⟩ : ∃ c, (nx i).foldl (goV nx n f) (st.1.set i true, st.2) = c := ⟨_, rfl⟩
    rw [hc] at h sa ⊢
    have hset : ∀ j : Nat, j < n → ((st.1.set i true)[j]? = some true ↔ (st.1[j]? = some true ∨ j = i)) := by
      intro j hj
      by_cases e : i = j
      · subst e
        rw [List.getElem?_set_self (by omega)]
        simp
      · rw [List.getElem?_set_ne e]
        constructor
        · exact Or.inl
        · rintro (h | h)
          · exact h
          · exact absurd h.symm e
    have hnew : ∀ x ∈ L, ∃ j : Nat, x = (j : Int) ∧ j < n ∧ st.1[j]? = some false ∧ j ≠ i := by
      intro x hx
      obtain ⟨j, rfl, hj, hb⟩ := h.new x hx
      by_cases e : i = j
      · subst e
        rw [List.getElem?_set_self (by omega)] at hb
        cases hb
      · rw [List.getElem?_set_ne e] at hb
        exact ⟨j, rfl, hj, hb, fun h => e h.symm⟩
    refine ⟨L, hl, ?_, h.len, ?_, ?_, ?_, ?_, ?_, ?_, ?_⟩
    · show c.2 ++ [(i : Int)] = st.2 ++ (L ++ [(i : Int)])
      rw [h.app, List.append_assoc]
    · intro j hj
      show c.1[j]? = some true ↔ _
      rw [h.seen j hj, hset j hj, List.mem_append, List.mem_singleton]
      constructor
      · rintro ((h | h) | h)
        · exact Or.inl h
        · exact Or.inr (Or.inr (by rw [h]))
        · exact Or.inr (Or.inl h)
      · rintro (h | h | h)
        · exact Or.inl (Or.inl h)
        · exact Or.inr h
        · exact Or.inl (Or.inr (by omega))
    · intro x hx
      rcases List.mem_append.1 hx with hx | hx
      · obtain ⟨j, e, hj, hb, _⟩ := hnew x hx
        exact ⟨j, e, hj, hb⟩
      · rw [List.mem_singleton] at hx
        exact ⟨i, hx, hi, hf⟩
    · rw [List.nodup_append]
      refine ⟨h.nd, by simp, ?_⟩
      intro x hx y hy e
      rw [List.mem_singleton] at hy
      obtain ⟨j, e1, _, _, hne⟩ := hnew x hx
      omega
    · intro j hj t ht hm
      rcases List.mem_append.1 hj with hj | hj
      · exact h.clos j hj t ht hm
      · rw [List.mem_singleton] at hj
        have : j = i := by omega
        subst this
        exact sa t ht hm
    · intro P S j e
      rcases List.append_eq_append_iff.1 e with ⟨Q, e1, e2⟩ | ⟨Q, e1, e2⟩
      · cases Q with
        | nil =>
          rw [List.nil_append, List.cons.injEq] at e2
          exact Or.inl (by omega)
        | cons q Q => simp at e2
      · cases Q with
        | nil =>
          rw [List.nil_append, List.cons.injEq] at e2
          exact Or.inl (by omega)
        | cons q Q =>
          rw [List.cons_append, List.cons.injEq] at e2
          obtain ⟨rfl, rfl⟩ := e2
          rcases h.pred P Q j e1 with ⟨_, hr⟩ | ⟨p, hp, hm⟩
          · exact Or.inr ⟨i, by simp, hr⟩
          · exact Or.inr ⟨p, List.mem_append_left _ hp, hm⟩
    · intro j hj
      refine ⟨i, rfl, ?_⟩
      rcases List.mem_append.1 hj with hj | hj
      · obtain ⟨r, ⟨hr, hm⟩, hh⟩ := h.reach j hj
        exact (Rch.step (Rch.refl i) hr hm).trans hh
      · rw [List.mem_singleton] at hj
        have : j = i := by omega
        subst this
        exact Rch.refl _
    · intro H P S j e t ht hm
      have H0 : ∀ g : Nat, g < n → (st.1.set i true)[g]? = some true → ¬ (g : Int) ∈ st.2 → Rch nx n g i := by
        intro g hg h1 h2
        rcases (hset g hg).1 h1 with h3 | h3
        · exact H g hg h3 h2 i rfl
        · subst h3; exact Rch.refl _
      have H1 : ∀ g : Nat, g < n → (st.1.set i true)[g]? = some true → ¬ (g : Int) ∈ st.2 → ∀ r, (r < n ∧ (r : Int) ∈ nx i) → Rch nx n g r :=
        fun g hg h1 h2 r hr => Rch.step (H0 g hg h1 h2) hr.1 hr.2
      have last : j = i → P = L → (t : Int) ∈ st.2 ∨ (t : Int) ∈ P ∨ Rch nx n t j := by
        rintro rfl rfl
        rcases (h.seen t ht).1 (sa t ht hm) with h3 | h3
        · by_cases h4 : (t : Int) ∈ st.2
          · exact Or.inl h4
          · exact Or.inr (Or.inr (H0 t ht h3 h4))
        · exact Or.inr (Or.inl h3)
      rcases List.append_eq_append_iff.1 e with ⟨Q, e1, e2⟩ | ⟨Q, e1, e2⟩
      · cases Q with
        | nil =>
          rw [List.nil_append, List.cons.injEq] at e2
          exact last (by omega) (by simpa using e1)
        | cons q Q => simp at e2
      · cases Q with
        | nil =>
          rw [List.nil_append, List.cons.injEq] at e2
          exact last (by omega) (by simpa using e1.symm)
        | cons q Q =>
          rw [List.cons_append, List.cons.injEq] at e2
          obtain ⟨rfl, rfl⟩ := e2
          exact h.back H1 P Q j e1 t ht hm
/-- The order from the first block on. -/
structure OrdOK (nx : Nat → List Int) (n : Nat) (seen : List Bool) (ord : List Int) : Prop where
  len : seen.length = n
  le : ord.length ≤ n
  isNat : ∀ x ∈ ord, ∃ j : Nat, x = (j : Int) ∧ j < n
  nd : ord.Nodup
  seen : ∀ j : Nat, j < n → (seen[j]? = some true ↔ (j : Int) ∈ ord)
  reach : ∀ j : Nat, (j : Int) ∈ ord ↔ Rch nx n 0 j
  first : ∃ l, ord = 0 :: l
  pred : ∀ (A B : List Int) (j : Nat), ord = A ++ (j : Int) :: B → j ≠ 0 → ∃ p : Nat, (p : Int) ∈ A ∧ (j : Int) ∈ nx p
  back : ∀ (A B : List Int) (j : Nat), ord = A ++ (j : Int) :: B → ∀ t : Nat, t < n → (t : Int) ∈ nx j → (t : Int) ∈ B ∨ Rch nx n t j
theorem ord_ok (nx : Nat → List Int) (n : Nat) (hn : 0 < n) : OrdOK nx n (vis nx n n 0 (List.replicate n false, [])).1 (vis nx n n 0 (List.replicate n false, [])).2.reverse := by
  have hun : unseen (List.replicate n false) = n := by unfold unseen; rw [List.count_replicate]; simp
  have hv := vis_ok nx n n 0 (List.replicate n false, []) List.length_replicate hn (by rw [List.getElem?_replicate, if_pos (by omega)]) (by show unseen (List.replicate n false) ≤ n; omega)
  obtain ⟨L, h⟩ := vis_vs nx n n 0 (List.replicate n false, []) List.length_replicate hn (by rw [List.getElem?_replicate, if_pos (by omega)]) (by show unseen (List.replicate n false) ≤ n; omega)
  obtain ⟨c, hc⟩ : ∃ c, vis nx n n 0 (List.replicate n false, []) = c := ⟨_, rfl⟩
  rw [hc] at h hv ⊢
  have e : c.2 = L ++ [((0 : Nat) : Int)] := by have := h.app; rw [List.nil_append] at this; exact this
  have hst : ∀ j : Nat, ¬ (List.replicate n false)[j]? = some true := by
    intro j h
    rw [List.getElem?_replicate] at h
    split at h <;> simp at h
  have hsn : ∀ j : Nat, j < n → (c.1[j]? = some true ↔ (j : Int) ∈ c.2) := by
    intro j hj
    rw [h.seen j hj, ← e]
    constructor
    · rintro (k | k)
      · exact absurd k (hst j)
      · exact k
    · exact Or.inr
  have hrev : ∀ (A B : List Int) (j : Nat), c.2.reverse = A ++ (j : Int) :: B → L ++ [((0 : Nat) : Int)] = B.reverse ++ (j : Int) :: A.reverse := by
    intro A B j h1
    have := congrArg List.reverse h1
    rw [List.reverse_reverse, List.reverse_append, List.reverse_cons, List.append_assoc, List.singleton_append] at this
    rw [← e]; exact this
  refine ⟨h.len, ?_, ?_, ?_, ?_, ?_, ?_, ?_, ?_⟩
  · rw [List.length_reverse]
    have := hv.sum
    dsimp only at this
    rw [hun, List.length_nil] at this
    omega
  · intro x hx
    rw [List.mem_reverse, e] at hx
    obtain ⟨j, e1, hj, _⟩ := h.new x hx
    exact ⟨j, e1, hj⟩
  · rw [e]
    exact List.pairwise_reverse.2 (h.nd.imp fun hab => hab.symm)
  · intro j hj
    rw [hsn j hj, List.mem_reverse]
  · intro j
    rw [List.mem_reverse]
    constructor
    · intro hj
      rw [e] at hj
      obtain ⟨r, rfl, hr⟩ := h.reach j hj
      exact hr
    · intro hr
      induction hr with
      | refl => rw [e]; simp
      | step _ hk hm ih => exact (hsn _ hk).1 (h.clos _ (by rw [← e]; exact ih) _ hk hm)
  · exact ⟨L.reverse, by rw [e, List.reverse_append]; rfl⟩
  · intro A B j h1 h0
    rcases h.pred _ _ j (hrev A B j h1) with h2 | ⟨p, hp, hm⟩
    · exact absurd h2 h0
    · exact ⟨p, List.mem_reverse.1 hp, hm⟩
  · intro A B j h1 t ht hm
    rcases h.back (fun g _ hg => absurd hg (hst g)) _ _ j (hrev A B j h1) t ht hm with h2 | h2 | h2
    · simp at h2
    · exact Or.inl (List.mem_reverse.1 h2)
    · exact Or.inr h2
end Go.Proofs.Ytpfbfnbffglbkaa.P
