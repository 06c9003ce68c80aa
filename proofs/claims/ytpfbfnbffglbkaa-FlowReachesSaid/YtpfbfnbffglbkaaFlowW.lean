import Derived.Test.YtpfbfnbffglbkaaFlowA
/- Blocks gone through: which are reached, in which order they are left: plain; no statement of the seat. -/
set_option linter.unusedVariables false
set_option linter.unusedSimpArgs false
namespace Go.Proofs.Ytpfbfnbffglbkaa.P
open Go.RowKit Go.Proofs.YtpfbfnbffglbkaaW.PrintWords Go.Proofs.YtpfbfnbffglbkaaW.PrintLast Go.Proofs.YtpfbfnbffglbkaaW.PrintMore
/-- From a block one comes to another. -/
inductive Rch (nx : Nat → List Int) (n : Nat) : Nat → Nat → Prop
  | refl (i : Nat) : Rch nx n i i
  | step {i j k : Nat} : Rch nx n i j → k < n → (k : Int) ∈ nx j → Rch nx n i k
theorem Rch.trans {nx : Nat → List Int} {n i j k : Nat} (h : Rch nx n i j) (g : Rch nx n j k) : Rch nx n i k := by
  induction g with
  | refl => exact h
  | step _ hk hm ih => exact Rch.step ih hk hm
theorem Rch.lt {nx : Nat → List Int} {n i j : Nat} (h : Rch nx n i j) (hi : i < n) : j < n := by
  cases h with
  | refl => exact hi
  | step _ hk _ => exact hk
/-- What going through blocks from some roots does. -/
structure VS (nx : Nat → List Int) (n : Nat) (R : Nat → Prop) (a c : List Bool × List Int) (L : List Int) : Prop where
  ln : a.1.length = n
  app : c.2 = a.2 ++ L
  len : c.1.length = n
  seen : ∀ j : Nat, j < n → (c.1[j]? = some true ↔ (a.1[j]? = some true ∨ (j : Int) ∈ L))
  new : ∀ x ∈ L, ∃ j : Nat, x = (j : Int) ∧ j < n ∧ a.1[j]? = some false
  nd : L.Nodup
  clos : ∀ j : Nat, (j : Int) ∈ L → ∀ t : Nat, t < n → (t : Int) ∈ nx j → c.1[t]? = some true
  pred : ∀ (P S : List Int) (j : Nat), L = P ++ (j : Int) :: S → R j ∨ ∃ p : Nat, (p : Int) ∈ S ∧ (j : Int) ∈ nx p
  reach : ∀ j : Nat, (j : Int) ∈ L → ∃ r, R r ∧ Rch nx n r j
  back : (∀ g : Nat, g < n → a.1[g]? = some true → ¬ (g : Int) ∈ a.2 → ∀ r, R r → Rch nx n g r) → ∀ (P S : List Int) (j : Nat), L = P ++ (j : Int) :: S →
    ∀ t : Nat, t < n → (t : Int) ∈ nx j → (t : Int) ∈ a.2 ∨ (t : Int) ∈ P ∨ Rch nx n t j
theorem tf {o : Option Bool} (h : o = some true) (k : o = some false) : False := by rw [h] at k; cases k
theorem VS.refl {nx : Nat → List Int} {n : Nat} {R : Nat → Prop} {a : List Bool × List Int} (h : a.1.length = n) : VS nx n R a a [] := by
  refine ⟨h, by simp, h, fun j _ => by simp, by simp, List.nodup_nil, by simp, ?_, by simp, ?_⟩
  · intro P S j e
    simp at e
  · intro _ P S j e
    simp at e
theorem VS.mono {nx : Nat → List Int} {n : Nat} {R R' : Nat → Prop} {a c : List Bool × List Int} {L : List Int} (h : VS nx n R a c L) (hR : ∀ r, R r → R' r) : VS nx n R' a c L :=
  ⟨h.ln, h.app, h.len, h.seen, h.new, h.nd, h.clos, fun P S j e => (h.pred P S j e).imp (hR j) id, fun j hj => let ⟨r, a, b⟩ := h.reach j hj; ⟨r, hR r a, b⟩,
    fun H P S j e t => h.back (fun g hg h1 h2 r hr => H g hg h1 h2 r (hR r hr)) P S j e t⟩
theorem VS.keep {nx : Nat → List Int} {n : Nat} {R : Nat → Prop} {a c : List Bool × List Int} {L : List Int} (h : VS nx n R a c L) (j : Nat) (hj : j < n) (hs : a.1[j]? = some true) : c.1[j]? = some true := (h.seen j hj).2 (Or.inl hs)
theorem VS.trans {nx : Nat → List Int} {n : Nat} {R R' : Nat → Prop} {a b c : List Bool × List Int} {L L' : List Int} (h : VS nx n R a b L) (k : VS nx n R' b c L') : VS nx n (fun r => R r ∨ R' r) a c (L ++ L') := by
  refine ⟨h.ln, by rw [k.app, h.app, List.append_assoc], k.len, ?_, ?_, ?_, ?_, ?_, ?_, ?_⟩
  · intro j hj
    rw [k.seen j hj, h.seen j hj, List.mem_append, or_assoc]
  · intro x hx
    rcases List.mem_append.1 hx with hx | hx
    · exact h.new x hx
    · obtain ⟨j, rfl, hj, hb⟩ := k.new x hx
      refine ⟨j, rfl, hj, ?_⟩
      have hl : j < a.1.length := by rw [h.ln]; exact hj
      cases hv : a.1[j] with
      | false => rw [List.getElem?_eq_getElem hl, hv]
      | true => exact (tf (h.keep j hj (by rw [List.getElem?_eq_getElem hl, hv])) hb).elim
  · rw [List.nodup_append]
    refine ⟨h.nd, k.nd, ?_⟩
    rintro x hx y hy rfl
    obtain ⟨j, rfl, hj, hb⟩ := k.new x hy
    exact tf ((h.seen j hj).2 (Or.inr hx)) hb
  · intro j hj t ht hm
    rcases List.mem_append.1 hj with hj | hj
    · exact k.keep t ht (h.clos j hj t ht hm)
    · exact k.clos j hj t ht hm
  · intro P S j e
    rcases List.append_eq_append_iff.1 e with ⟨Q, e1, e2⟩ | ⟨Q, e1, e2⟩
    · rcases k.pred Q S j e2 with hr | hp
      · exact Or.inl (Or.inr hr)
      · exact Or.inr hp
    · cases Q with
      | nil =>
        rcases k.pred [] S j (by simpa using e2.symm) with hr | hp
        · exact Or.inl (Or.inr hr)
        · exact Or.inr hp
      | cons q Q =>
        rw [List.cons_append, List.cons.injEq] at e2
        obtain ⟨rfl, rfl⟩ := e2
        rcases h.pred P Q j e1 with hr | ⟨p, hp, hm⟩
        · exact Or.inl (Or.inl hr)
        · exact Or.inr ⟨p, List.mem_append_left _ hp, hm⟩
  · intro j hj
    rcases List.mem_append.1 hj with hj | hj
    · obtain ⟨r, hr, hh⟩ := h.reach j hj
      exact ⟨r, Or.inl hr, hh⟩
    · obtain ⟨r, hr, hh⟩ := k.reach j hj
      exact ⟨r, Or.inr hr, hh⟩
  · intro H P S j e t ht hm
    have H1 : ∀ g : Nat, g < n → a.1[g]? = some true → ¬ (g : Int) ∈ a.2 → ∀ r, R r → Rch nx n g r := fun g hg h1 h2 r hr => H g hg h1 h2 r (Or.inl hr)
    have H2 : ∀ g : Nat, g < n → b.1[g]? = some true → ¬ (g : Int) ∈ b.2 → ∀ r, R' r → Rch nx n g r := by
      intro g hg h1 h2 r hr
      rw [h.app, List.mem_append] at h2
      rcases (h.seen g hg).1 h1 with h3 | h3
      · exact H g hg h3 (fun h4 => h2 (Or.inl h4)) r (Or.inr hr)
      · exact absurd (Or.inr h3) h2
    have two : ∀ (Q : List Int), L' = Q ++ (j : Int) :: S → P = L ++ Q → (t : Int) ∈ a.2 ∨ (t : Int) ∈ P ∨ Rch nx n t j := by
      intro Q e2 e1
      rcases k.back H2 Q S j e2 t ht hm with h3 | h3 | h3
      · rw [h.app, List.mem_append] at h3
        rcases h3 with h3 | h3
        · exact Or.inl h3
        · exact Or.inr (Or.inl (by rw [e1]; exact List.mem_append_left _ h3))
      · exact Or.inr (Or.inl (by rw [e1]; exact List.mem_append_right _ h3))
      · exact Or.inr (Or.inr h3)
    rcases List.append_eq_append_iff.1 e with ⟨Q, e1, e2⟩ | ⟨Q, e1, e2⟩
    · exact two Q e2 e1
    · cases Q with
      | nil => exact two [] (by simpa using e2.symm) (by simpa using e1.symm)
      | cons q Q =>
        rw [List.cons_append, List.cons.injEq] at e2
        obtain ⟨rfl, rfl⟩ := e2
        exact h.back H1 P Q j e1 t ht hm
theorem vis_vs (nx : Nat → List Int) (n : Nat) : ∀ f i (st : List Bool × List Int), st.1.length = n → i < n → st.1[i]? = some false → unseen st.1 ≤ f →
    ∃ L, VS nx n (fun r => r = i) st (vis nx n f i st) (L ++ [(i : Int)])
  | 0, i, st, hl, hi, hf, hu => by
    have := unseen_set st.1 i hf
    omega
  | f + 1, i, st, hl, hi, hf, hu => by
    have hs := unseen_set st.1 i hf
    have one : ∀ (t : Int) (a : List Bool × List Int), a.1.length = n → unseen a.1 ≤ f → ∃ L, VS nx n (fun r => r < n ∧ (r : Int) = t) a (goV nx n f a t) L ∧ (isN n t = true → (goV nx n f a t).1[t.toNat]? = some true) := by
      intro t a ha hua
      unfold goV
      split
      · rename_i hc
        rw [Bool.and_eq_true] at hc
        obtain ⟨j, rfl, hj⟩ := isN_nat hc.1
        rw [Int.toNat_natCast] at hc ⊢
        obtain ⟨L, h⟩ := vis_vs nx n f j a ha hj (getD_false (by omega) (by simpa using hc.2)) hua
        exact ⟨_, h.mono (fun r hr => by subst hr; exact ⟨hj, rfl⟩), fun _ => (h.seen j hj).2 (Or.inr (by simp))⟩
      · rename_i hc
        refine ⟨[], VS.refl ha, fun hn => ?_⟩
        obtain ⟨j, rfl, hj⟩ := isN_nat hn
        rw [hn, Int.toNat_natCast, Bool.true_and, Bool.not_eq_true', Bool.not_eq_false, List.getD_eq_getElem?_getD, List.getElem?_eq_getElem (by omega)] at hc
        rw [Int.toNat_natCast, List.getElem?_eq_getElem (by omega)]
        exact congrArg some hc
    have hgo : ∀ (l : List Int) (a : List Bool × List Int), a.1.length = n → unseen a.1 ≤ f →
        ∃ L, VS nx n (fun r => r < n ∧ (r : Int) ∈ l) a (l.foldl (goV nx n f) a) L ∧ ∀ t : Nat, t < n → (t : Int) ∈ l → (l.foldl (goV nx n f) a).1[t]? = some true := by
      intro l
      induction l with
      | nil => intro a ha _; exact ⟨[], VS.refl ha, by simp⟩
      | cons t l ih =>
        intro a ha hua
        obtain ⟨L1, h1, s1⟩ := one t a ha hua
        have ho := goV_ok nx n f a ha hua t
        obtain ⟨L2, h2, s2⟩ := ih _ ho.len (Nat.le_trans ho.less hua)
        rw [List.foldl_cons]
        refine ⟨_, (h1.trans h2).mono ?_, ?_⟩
        · rintro r (⟨h, e⟩ | ⟨h, e⟩)
          · exact ⟨h, by rw [e]; exact List.mem_cons_self⟩
          · exact ⟨h, List.mem_cons_of_mem _ e⟩
        · intro u hu hm
          rcases List.mem_cons.1 hm with e | hm
          · subst e
            have := s1 (by unfold isN; rw [Bool.and_eq_true, decide_eq_true_eq, decide_eq_true_eq]; omega)
            rw [Int.toNat_natCast] at this
            exact h2.keep u hu this
          · exact s2 u hu hm
    obtain ⟨L, h, sa⟩ := hgo (nx i) (st.1.set i true, st.2) (by simpa using hl) (show unseen (st.1.set i true) ≤ f by omega)
    rw [vis_succ]
    obtain ⟨c, hc⟩ : ∃ c, (nx i).foldl (goV nx n f) (st.1.set i true, st.2) = c := ⟨_, rfl⟩
    rw [hc] at h sa ⊢
    have hset : ∀ j : Nat, j < n → ((st.1.set i true)[j]? = some true ↔ (st.1[j]? = some true ∨ j = i)) := by
      intro j hj
      by_cases e : i = j
      · subst e
        rw [List.getElem?_set_self (by omega)]
        simp
      · rw [List.getElem?_set_ne e]
        constructor
        · exact Or.inl
        · rintro (h | h)
          · exact h
          · exact absurd h.symm e
    have hnew : ∀ x ∈ L, ∃ j : Nat, x = (j : Int) ∧ j < n ∧ st.1[j]? = some false ∧ j ≠ i := by
      intro x hx
      obtain ⟨j, rfl, hj, hb⟩ := h.new x hx
      by_cases e : i = j
      · subst e
        rw [List.getElem?_set_self (by omega)] at hb
        cases hb
      · rw [List.getElem?_set_ne e] at hb
        exact ⟨j, rfl, hj, hb, fun h => e h.symm⟩
    refine ⟨L, hl, ?_, h.len, ?_, ?_, ?_, ?_, ?_, ?_, ?_⟩
    · show c.2 ++ [(i : Int)] = st.2 ++ (L ++ [(i : Int)])
      rw [h.app, List.append_assoc]
    · intro j hj
      show c.1[j]? = some true ↔ _
      rw [h.seen j hj, hset j hj, List.mem_append, List.mem_singleton]
      constructor
      · rintro ((h | h) | h)
        · exact Or.inl h
        · exact Or.inr (Or.inr (by rw [h]))
        · exact Or.inr (Or.inl h)
      · rintro (h | h | h)
        · exact Or.inl (Or.inl h)
        · exact Or.inr h
        · exact Or.inl (Or.inr (by omega))
    · intro x hx
      rcases List.mem_append.1 hx with hx | hx
      · obtain ⟨j, e, hj, hb, _⟩ := hnew x hx
        exact ⟨j, e, hj, hb⟩
      · rw [List.mem_singleton] at hx
        exact ⟨i, hx, hi, hf⟩
    · rw [List.nodup_append]
      refine ⟨h.nd, by simp, ?_⟩
      intro x hx y hy e
      rw [List.mem_singleton] at hy
      obtain ⟨j, e1, _, _, hne⟩ := hnew x hx
      omega
    · intro j hj t ht hm
      rcases List.mem_append.1 hj with hj | hj
      · exact h.clos j hj t ht hm
      · rw [List.mem_singleton] at hj
        have : j = i := by omega
        subst this
        exact sa t ht hm
    · intro P S j e
      rcases List.append_eq_append_iff.1 e with ⟨Q, e1, e2⟩ | ⟨Q, e1, e2⟩
      · cases Q with
        | nil =>
          rw [List.nil_append, List.cons.injEq] at e2
          exact Or.inl (by omega)
        | cons q Q => simp at e2
      · cases Q with
        | nil =>
          rw [List.nil_append, List.cons.injEq] at e2
          exact Or.inl (by omega)
        | cons q Q =>
          rw [List.cons_append, List.cons.injEq] at e2
          obtain ⟨rfl, rfl⟩ := e2
          rcases h.pred P Q j e1 with ⟨_, hr⟩ | ⟨p, hp, hm⟩
          · exact Or.inr ⟨i, by simp, hr⟩
          · exact Or.inr ⟨p, List.mem_append_left _ hp, hm⟩
    · intro j hj
      refine ⟨i, rfl, ?_⟩
      rcases List.mem_append.1 hj with hj | hj
      · obtain ⟨r, ⟨hr, hm⟩, hh⟩ := h.reach j hj
        exact (Rch.step (Rch.refl i) hr hm).trans hh
      · rw [List.mem_singleton] at hj
        have : j = i := by omega
        subst this
        exact Rch.refl _
    · intro H P S j e t ht hm
      have H0 : ∀ g : Nat, g < n → (st.1.set i true)[g]? = some true → ¬ (g : Int) ∈ st.2 → Rch nx n g i := by
        intro g hg h1 h2
        rcases (hset g hg).1 h1 with h3 | h3
        · exact H g hg h3 h2 i rfl
        · subst h3; exact Rch.refl _
      have H1 : ∀ g : Nat, g < n → (st.1.set i true)[g]? = some true → ¬ (g : Int) ∈ st.2 → ∀ r, (r < n ∧ (r : Int) ∈ nx i) → Rch nx n g r :=
        fun g hg h1 h2 r hr => Rch.step (H0 g hg h1 h2) hr.1 hr.2
      have last : j = i → P = L → (t : Int) ∈ st.2 ∨ (t : Int) ∈ P ∨ Rch nx n t j := by
        rintro rfl rfl
        rcases (h.seen t ht).1 (sa t ht hm) with h3 | h3
        · by_cases h4 : (t : Int) ∈ st.2
          · exact Or.inl h4
          · exact Or.inr (Or.inr (H0 t ht h3 h4))
        · exact Or.inr (Or.inl h3)
      rcases List.append_eq_append_iff.1 e with ⟨Q, e1, e2⟩ | ⟨Q, e1, e2⟩
      · cases Q with
        | nil =>
          rw [List.nil_append, List.cons.injEq] at e2
          exact last (by omega) (by simpa using e1)
        | cons q Q => simp at e2
      · cases Q with
        | nil =>
          rw [List.nil_append, List.cons.injEq] at e2
          exact last (by omega) (by simpa using e1.symm)
        | cons q Q =>
          rw [List.cons_append, List.cons.injEq] at e2
          obtain ⟨rfl, rfl⟩ := e2
          exact h.back H1 P Q j e1 t ht hm
/-- The order from the first block on. -/
structure OrdOK (nx : Nat → List Int) (n : Nat) (seen : List Bool) (ord : List Int) : Prop where
  len : seen.length = n
  le : ord.length ≤ n
  isNat : ∀ x ∈ ord, ∃ j : Nat, x = (j : Int) ∧ j < n
  nd : ord.Nodup
  seen : ∀ j : Nat, j < n → (seen[j]? = some true ↔ (j : Int) ∈ ord)
  reach : ∀ j : Nat, (j : Int) ∈ ord ↔ Rch nx n 0 j
  first : ∃ l, ord = 0 :: l
  pred : ∀ (A B : List Int) (j : Nat), ord = A ++ (j : Int) :: B → j ≠ 0 → ∃ p : Nat, (p : Int) ∈ A ∧ (j : Int) ∈ nx p
  back : ∀ (A B : List Int) (j : Nat), ord = A ++ (j : Int) :: B → ∀ t : Nat, t < n → (t : Int) ∈ nx j → (t : Int) ∈ B ∨ Rch nx n t j
theorem ord_ok (nx : Nat → List Int) (n : Nat) (hn : 0 < n) : OrdOK nx n (vis nx n n 0 (List.replicate n false, [])).1 (vis nx n n 0 (List.replicate n false, [])).2.reverse := by
  have hun : unseen (List.replicate n false) = n := by unfold unseen; rw [List.count_replicate]; simp
  have hv := vis_ok nx n n 0 (List.replicate n false, []) List.length_replicate hn (by rw [List.getElem?_replicate, if_pos (by omega)]) (by show unseen (List.replicate n false) ≤ n; omega)
  obtain ⟨L, h⟩ := vis_vs nx n n 0 (List.replicate n false, []) List.length_replicate hn (by rw [List.getElem?_replicate, if_pos (by omega)]) (by show unseen (List.replicate n false) ≤ n; omega)
  obtain ⟨c, hc⟩ : ∃ c, vis nx n n 0 (List.replicate n false, []) = c := ⟨_, rfl⟩
  rw [hc] at h hv ⊢
  have e : c.2 = L ++ [((0 : Nat) : Int)] := by have := h.app; rw [List.nil_append] at this; exact this
  have hst : ∀ j : Nat, ¬ (List.replicate n false)[j]? = some true := by
    intro j h
    rw [List.getElem?_replicate] at h
    split at h <;> simp at h
  have hsn : ∀ j : Nat, j < n → (c.1[j]? = some true ↔ (j : Int) ∈ c.2) := by
    intro j hj
    rw [h.seen j hj, ← e]
    constructor
    · rintro (k | k)
      · exact absurd k (hst j)
      · exact k
    · exact Or.inr
  have hrev : ∀ (A B : List Int) (j : Nat), c.2.reverse = A ++ (j : Int) :: B → L ++ [((0 : Nat) : Int)] = B.reverse ++ (j : Int) :: A.reverse := by
    intro A B j h1
    have := congrArg List.reverse h1
    rw [List.reverse_reverse, List.reverse_append, List.reverse_cons, List.append_assoc, List.singleton_append] at this
    rw [← e]; exact this
  refine ⟨h.len, ?_, ?_, ?_, ?_, ?_, ?_, ?_, ?_⟩
  · rw [List.length_reverse]
    have := hv.sum
    dsimp only at this
    rw [hun, List.length_nil] at this
    omega
  · intro x hx
    rw [List.mem_reverse, e] at hx
    obtain ⟨j, e1, hj, _⟩ := h.new x hx
    exact ⟨j, e1, hj⟩
  · rw [e]
    exact List.pairwise_reverse.2 (h.nd.imp fun hab => hab.symm)
  · intro j hj
    rw [hsn j hj, List.mem_reverse]
  · intro j
    rw [List.mem_reverse]
    constructor
    · intro hj
      rw [e] at hj
      obtain ⟨r, rfl, hr⟩ := h.reach j hj
      exact hr
    · intro hr
      induction hr with
      | refl => rw [e]; simp
      | step _ hk hm ih => exact (hsn _ hk).1 (h.clos _ (by rw [← e]; exact ih) _ hk hm)
  · exact ⟨L.reverse, by rw [e, List.reverse_append]; rfl⟩
  · intro A B j h1 h0
    rcases h.pred _ _ j (hrev A B j h1) with h2 | ⟨p, hp, hm⟩
    · exact absurd h2 h0
    · exact ⟨p, List.mem_reverse.1 hp, hm⟩
  · intro A B j h1 t ht hm
    rcases h.back (fun g _ hg => absurd hg (hst g)) _ _ j (hrev A B j h1) t ht hm with h2 | h2 | h2
    · simp at h2
    · exact Or.inl (List.mem_reverse.1 h2)
    · exact Or.inr h2
end Go.Proofs.Ytpfbfnbffglbkaa.P
/- pianolaref08.Walk: a row of blocks with their places instead of calls: plain, and what lies in memory; no statement of the seat. -/
set_option linter.unusedVariables false
set_option linter.unusedSimpArgs false
namespace Go.Proofs.Ytpfbfnbffglbkaa.P
open Go.RowKit Go.Proofs.YtpfbfnbffglbkaaW.PrintWords Go.Proofs.YtpfbfnbffglbkaaW.PrintLast Go.Proofs.YtpfbfnbffglbkaaW.PrintMore
/-- Blocks behind one, without one. -/
def nxw (nx : Nat → List Int) (wo : Int) (i : Nat) : List Int := (nx i).filter fun t => t != wo
def walkB (b : List S30) (wo : Int) : List Bool × List Int :=
  if b.length = 0 ∨ wo = 0 then (List.replicate b.length false, []) else vis (nxw (nxB b) wo) b.length b.length 0 (List.replicate b.length false, [])
theorem fold_fuel (nx : Nat → List Int) (n : Nat) : ∀ f f' (l : List Int) (a : List Bool × List Int), a.1.length = n → unseen a.1 ≤ f → unseen a.1 ≤ f' → l.foldl (goV nx n f) a = l.foldl (goV nx n f') a := by
  have hv : ∀ f f' i (st : List Bool × List Int), st.1.length = n → i < n → st.1[i]? = some false → unseen st.1 ≤ f → unseen st.1 ≤ f' → vis nx n f i st = vis nx n f' i st := by
    intro f
    induction f with
    | zero =>
      intro f' i st hl hi hf hu _
      have := unseen_set st.1 i hf
      omega
    | succ f ih =>
      intro f' i st hl hi hf hu hu'
      have hs := unseen_set st.1 i hf
      obtain ⟨f', rfl⟩ : ∃ j, f' = j + 1 := ⟨f' - 1, by omega⟩
      have hgo : ∀ (l : List Int) (a : List Bool × List Int), a.1.length = n → unseen a.1 ≤ f → unseen a.1 ≤ f' → l.foldl (goV nx n f) a = l.foldl (goV nx n f') a := by
        intro l
        induction l with
        | nil => intro a _ _ _; rfl
        | cons t l ihl =>
          intro a ha h1 h2
          have e : goV nx n f a t = goV nx n f' a t := by
            unfold goV
            split
            · rename_i hc
              rw [Bool.and_eq_true] at hc
              obtain ⟨j, rfl, hj⟩ := isN_nat hc.1
              rw [Int.toNat_natCast] at hc ⊢
              exact ih f' j a ha hj (getD_false (by omega) (by simpa using hc.2)) h1 h2
            · rfl
          have ho := goV_ok nx n f a ha h1 t
          rw [List.foldl_cons, List.foldl_cons, ← e]
          exact ihl _ ho.len (Nat.le_trans ho.less h1) (Nat.le_trans ho.less h2)
      rw [vis_succ, vis_succ, hgo (nx i) (st.1.set i true, st.2) (by simpa using hl) (by show unseen (st.1.set i true) ≤ f; omega) (by show unseen (st.1.set i true) ≤ f'; omega)]
  intro f f' l
  induction l with
  | nil => intro a _ _ _; rfl
  | cons t l ihl =>
    intro a ha h1 h2
    have e : goV nx n f a t = goV nx n f' a t := by
      unfold goV
      split
      · rename_i hc
        rw [Bool.and_eq_true] at hc
        obtain ⟨j, rfl, hj⟩ := isN_nat hc.1
        rw [Int.toNat_natCast] at hc ⊢
        exact hv f f' j a ha hj (getD_false (by omega) (by simpa using hc.2)) h1 h2
      · rfl
    have ho := goV_ok nx n f a ha h1 t
    rw [List.foldl_cons, List.foldl_cons, ← e]
    exact ihl _ ho.len (Nat.le_trans ho.less h1) (Nat.le_trans ho.less h2)
theorem unseen_le (l : List Bool) : unseen l ≤ l.length := List.count_le_length
theorem vis_step (nx : Nat → List Int) (n i : Nat) (st : List Bool × List Int) (hl : st.1.length = n) (hi : i < n) (hf : st.1[i]? = some false) :
    vis nx n n i st = (((nx i).foldl (goV nx n n) (st.1.set i true, st.2)).1, ((nx i).foldl (goV nx n n) (st.1.set i true, st.2)).2 ++ [(i : Int)]) := by
  have hs := unseen_set st.1 i hf
  have hu := unseen_le st.1
  obtain ⟨m, rfl⟩ : ∃ j, n = j + 1 := ⟨n - 1, by omega⟩
  rw [vis_succ, fold_fuel nx (m + 1) m (m + 1) (nx i) (st.1.set i true, st.2) (by simpa using hl) (by show unseen (st.1.set i true) ≤ m; omega) (by show unseen (st.1.set i true) ≤ m + 1; omega)]
/-- What comes of the rows: each block's others, then it is left. -/
def finW (nx : Nat → List Int) (wo : Int) (n : Nat) : List (Nat × Nat) → List Bool × List Int → List Bool × List Int
  | [], st => st
  | (i, k) :: F, st => finW nx wo n F (((((nx i).drop k).filter fun t => t != wo).foldl (goV (nxw nx wo) n n) st).1, ((((nx i).drop k).filter fun t => t != wo).foldl (goV (nxw nx wo) n n) st).2 ++ [(i : Int)])
def potW (nx : Nat → List Int) : List (Nat × Nat) → Nat
  | [] => 0
  | (i, k) :: F => ((nx i).length - k + 1) + potW nx F
def potU (nx : Nat → List Int) : Nat → List Bool → Nat
  | _, [] => 0
  | j, b :: l => (if b = true then 0 else (nx j).length + 2) + potU nx (j + 1) l
theorem potU_set (nx : Nat → List Int) : ∀ (l : List Bool) (j i : Nat), l[i]? = some false → potU nx j (l.set i true) + ((nx (j + i)).length + 2) = potU nx j l
  | [], j, i, h => by simp at h
  | b :: l, j, 0, h => by
    simp only [List.getElem?_cons_zero, Option.some.injEq] at h
    subst h
    rw [List.set_cons_zero, potU, potU, if_pos rfl, if_neg (by simp)]
    show 0 + _ + ((nx j).length + 2) = _
    omega
  | b :: l, j, i + 1, h => by
    have h' : l[i]? = some false := by simpa using h
    have := potU_set nx l (j + 1) i h'
    rw [show j + 1 + i = j + (i + 1) by omega] at this
    rw [List.set_cons_succ, potU, potU]
    omega
/-- How far it is. -/
structure WS (nx : Nat → List Int) (wo : Int) (n : Nat) (R : List Bool × List Int) (K : Nat) (seen : List Bool) (left : List Int) (F : List (Nat × Nat)) : Prop where
  sl : seen.length = n
  nd : left.length + F.length + unseen seen = n
  fr : ∀ p ∈ F, p.1 < n
  fin : finW nx wo n F (seen, left) = R
  pot : potW nx F + potU nx 0 seen + 1 ≤ K
section
variable {nx : Nat → List Int} {wo : Int} {n : Nat} {R : List Bool × List Int} {K : Nat} {seen : List Bool} {left : List Int} {F : List (Nat × Nat)} {i k : Nat}
theorem WS.done (h : WS nx wo n R K seen left []) : (seen, left) = R := h.fin
theorem WS.pop (h : WS nx wo n R (K + 1) seen left ((i, k) :: F)) (hk : (nx i).length ≤ k) : WS nx wo n R K seen (left ++ [(i : Int)]) F := by
  refine ⟨h.sl, ?_, fun p hp => h.fr p (List.mem_cons_of_mem _ hp), ?_, ?_⟩
  · have := h.nd
    rw [List.length_cons] at this
    rw [List.length_append, List.length_singleton]
    omega
  · have := h.fin
    rw [finW, List.drop_eq_nil_of_le hk] at this
    exact this
  · have := h.pot
    rw [potW] at this
    omega
theorem WS.skip (h : WS nx wo n R (K + 1) seen left ((i, k) :: F)) (hk : k < (nx i).length) (t : Int) (ht' : (nx i)[k]? = some t) (hno : isN n t = false ∨ t = wo ∨ ∃ j : Nat, t = (j : Int) ∧ seen[j]? = some true) :
    WS nx wo n R K seen left ((i, k + 1) :: F) := by
  have ht := Option.some.inj ((List.getElem?_eq_getElem hk).symm.trans ht')
  refine ⟨h.sl, ?_, ?_, ?_, ?_⟩
  · have := h.nd
    rw [List.length_cons] at this ⊢
    exact this
  · intro p hp
    rcases List.mem_cons.1 hp with rfl | hp
    · exact h.fr (i, k) List.mem_cons_self
    · exact h.fr p (List.mem_cons_of_mem _ hp)
  · have := h.fin
    rw [finW, List.drop_eq_getElem_cons hk, ht, List.filter_cons] at this
    rw [finW]
    by_cases hw : t = wo
    · rw [if_neg (by simp [hw])] at this
      exact this
    · rw [if_pos (by simp [hw]), List.foldl_cons] at this
      have e : goV (nxw nx wo) n n (seen, left) t = (seen, left) := by
        unfold goV
        rw [if_neg]
        rcases hno with h1 | h1 | ⟨j, rfl, h1⟩
        · rw [h1]; simp
        · exact absurd h1 hw
        · rw [Int.toNat_natCast, List.getD_eq_getElem?_getD]
          show ¬ (isN n (j : Int) && !(seen[j]?.getD false)) = true
          rw [h1]
          simp
      rw [e] at this
      exact this
  · have := h.pot
    rw [potW] at this ⊢
    omega
theorem WS.visit (h : WS nx wo n R (K + 1) seen left ((i, k) :: F)) (hk : k < (nx i).length) (j : Nat) (ht' : (nx i)[k]? = some (j : Int)) (hj : j < n) (hw : (j : Int) ≠ wo) (hs : seen[j]? = some false) :
    WS nx wo n R K (seen.set j true) left ((j, 0) :: (i, k + 1) :: F) := by
  have ht := Option.some.inj ((List.getElem?_eq_getElem hk).symm.trans ht')
  have hu := unseen_set seen j hs
  refine ⟨by rw [List.length_set]; exact h.sl, ?_, ?_, ?_, ?_⟩
  · have := h.nd
    rw [List.length_cons] at this
    rw [List.length_cons, List.length_cons]
    omega
  · intro p hp
    rcases List.mem_cons.1 hp with rfl | hp
    · exact hj
    · rcases List.mem_cons.1 hp with rfl | hp
      · exact h.fr (i, k) List.mem_cons_self
      · exact h.fr p (List.mem_cons_of_mem _ hp)
  · have := h.fin
    rw [finW, List.drop_eq_getElem_cons hk, ht, List.filter_cons, if_pos (by simp [hw]), List.foldl_cons] at this
    have e : goV (nxw nx wo) n n (seen, left) (j : Int) = vis (nxw nx wo) n n j (seen, left) := by
      unfold goV
      rw [if_pos]
      · rw [Int.toNat_natCast]
      · rw [Int.toNat_natCast, List.getD_eq_getElem?_getD]
        show (isN n (j : Int) && !(seen[j]?.getD false)) = true
        rw [hs]
        unfold isN
        simp [hj]
    rw [e, vis_step (nxw nx wo) n j (seen, left) h.sl hj hs] at this
    rw [finW, finW, List.drop_zero]
    exact this
  · have := h.pot
    have hp := potU_set nx seen 0 j hs
    rw [Nat.zero_add] at hp
    rw [potW] at this
    rw [potW, potW]
    omega
end
theorem WS.start (nx : Nat → List Int) (wo : Int) (n : Nat) (hn : 0 < n) :
    WS nx wo n (vis (nxw nx wo) n n 0 (List.replicate n false, [])) (potW nx [(0, 0)] + potU nx 0 ((List.replicate n false).set 0 true) + 1) ((List.replicate n false).set 0 true) [] [(0, 0)] := by
  have hf : (List.replicate n false)[0]? = some false := by rw [List.getElem?_replicate, if_pos hn]
  have hu := unseen_set (List.replicate n false) 0 hf
  have hun : unseen (List.replicate n false) = n := by unfold unseen; rw [List.count_replicate]; simp
  refine ⟨by simp, ?_, ?_, ?_, Nat.le_refl _⟩
  · simp only [List.length_nil, List.length_singleton]
    omega
  · intro p hp
    rw [List.mem_singleton] at hp
    subst hp
    exact hn
  · rw [vis_step (nxw nx wo) n 0 (List.replicate n false, []) List.length_replicate hn hf, finW, finW, List.drop_zero]
    rfl
/-! ### What lies in memory -/
theorem own_block_slice' {w : World} {base : Nat} {e : TypeId} {size n : Nat} {v : Value} {xs : List Value} (h : w.ownsRow base e size v n xs) (hn : 0 < n) : ∃ g c, v = .slice (some ⟨g, 0, none⟩) n c ∧ base ≤ g ∧ g < w.heap.size := by
  rcases h.2 with ⟨_, h0⟩ | ⟨g, cap, cur, rfl, hb, hg, _⟩
  · omega
  · exact ⟨g, cap, rfl, hb, blk_lt hg⟩
def stkL (F : List (Nat × Nat)) : List Int := (F.map fun p => (p.1 : Int)).reverse
def nxtL (F : List (Nat × Nat)) : List Int := (F.map fun p => (p.2 : Int)).reverse
theorem stkL_cons (i k : Nat) (F : List (Nat × Nat)) : stkL ((i, k) :: F) = stkL F ++ [(i : Int)] := by unfold stkL; simp
theorem nxtL_cons (i k : Nat) (F : List (Nat × Nat)) : nxtL ((i, k) :: F) = nxtL F ++ [(k : Int)] := by unfold nxtL; simp
theorem stkL_len (F : List (Nat × Nat)) : (stkL F).length = F.length := by unfold stkL; simp
theorem nxtL_len (F : List (Nat × Nat)) : (nxtL F).length = F.length := by unfold nxtL; simp
structure WK (w W : World) (n : Nat) (v7 v8 v9 : Value) (seen : List Bool) (left stk nxt : List Int) : Prop where
  o6 : W.heap[w.heap.size]? = some (.cells (bools seen).toArray 4 (0, 0))
  o7 : W.ownsRow (w.heap.size + 1) 3 1 v7 left.length (nums .i64 left)
  o8 : W.ownsRow (w.heap.size + 1) 3 1 v8 stk.length (nums .i64 stk)
  o9 : W.ownsRow (w.heap.size + 1) 3 1 v9 nxt.length (nums .i64 nxt)
  d78 : v7.ownBlock = none ∨ v7.ownBlock ≠ v8.ownBlock
  d79 : v7.ownBlock = none ∨ v7.ownBlock ≠ v9.ownBlock
  d89 : v8.ownBlock = none ∨ v8.ownBlock ≠ v9.ownBlock
  hb : Below w.heap.size w W
theorem d_swap {a b : Option Nat} (h : a = none ∨ a ≠ b) : b = none ∨ b ≠ a := by
  rcases h with h | h
  · cases b with
    | none => exact Or.inl rfl
    | some b => exact Or.inr (by rw [h]; simp)
  · exact Or.inr fun e => h e.symm
theorem d_new {W : World} {base : Nat} {e : TypeId} {size n : Nat} {u v v1 : Value} {xs : List Value} (hu : W.ownsRow base e size u n xs) (hd : u.ownBlock = none ∨ u.ownBlock ≠ v.ownBlock) (hat : v1.ownBlock = v.ownBlock ∨ ∃ b, v1.ownBlock = some b ∧ W.heap.size ≤ b) :
    u.ownBlock = none ∨ u.ownBlock ≠ v1.ownBlock := by
  rcases hat with h | ⟨b, h, hb⟩
  · rw [h]; exact hd
  · refine Or.inr fun h2 => ?_
    have := own_lt hu b (h2.trans h)
    omega
section
variable {w W w1 : World} {n : Nat} {v7 v8 v9 v1 : Value} {seen : List Bool} {left stk nxt : List Int}
theorem WK.below (h : WK w W n v7 v8 v9 seen left stk nxt) (hb : Below W.heap.size W w1) : WK w w1 n v7 v8 v9 seen left stk nxt :=
  ⟨blk_below h.o6 hb, pw_own_below h.o7 hb, pw_own_below h.o8 hb, pw_own_below h.o9 hb, h.d78, h.d79, h.d89, h.hb.trans (hb.mono h.hb.size)⟩
theorem WK.push7 (h : WK w W n v7 v8 v9 seen left stk nxt) (y : Int) (ho : w1.ownsRow (w.heap.size + 1) 3 1 v1 (left ++ [y]).length (nums .i64 (left ++ [y]))) (hb : Below (w.heap.size + 1) W w1) (hg : W.grownBy w1 v7.ownBlock)
    (hat : v1.ownBlock = v7.ownBlock ∨ ∃ b, v1.ownBlock = some b ∧ W.heap.size ≤ b) : WK w w1 n v1 v8 v9 seen (left ++ [y]) stk nxt :=
  ⟨(hb.block _ (by omega)).trans h.o6, ho, own_other h.o8 hg (d_swap h.d78), own_other h.o9 hg (d_swap h.d79), d_swap (d_new h.o8 (d_swap h.d78) hat), d_swap (d_new h.o9 (d_swap h.d79) hat), h.d89, h.hb.trans (hb.mono (by omega))⟩
theorem WK.push8 (h : WK w W n v7 v8 v9 seen left stk nxt) (y : Int) (ho : w1.ownsRow (w.heap.size + 1) 3 1 v1 (stk ++ [y]).length (nums .i64 (stk ++ [y]))) (hb : Below (w.heap.size + 1) W w1) (hg : W.grownBy w1 v8.ownBlock)
    (hat : v1.ownBlock = v8.ownBlock ∨ ∃ b, v1.ownBlock = some b ∧ W.heap.size ≤ b) : WK w w1 n v7 v1 v9 seen left (stk ++ [y]) nxt :=
  ⟨(hb.block _ (by omega)).trans h.o6, own_other h.o7 hg h.d78, ho, own_other h.o9 hg (d_swap h.d89), d_new h.o7 h.d78 hat, h.d79, d_swap (d_new h.o9 (d_swap h.d89) hat), h.hb.trans (hb.mono (by omega))⟩
theorem WK.push9 (h : WK w W n v7 v8 v9 seen left stk nxt) (y : Int) (ho : w1.ownsRow (w.heap.size + 1) 3 1 v1 (nxt ++ [y]).length (nums .i64 (nxt ++ [y]))) (hb : Below (w.heap.size + 1) W w1) (hg : W.grownBy w1 v9.ownBlock)
    (hat : v1.ownBlock = v9.ownBlock ∨ ∃ b, v1.ownBlock = some b ∧ W.heap.size ≤ b) : WK w w1 n v7 v8 v1 seen left stk (nxt ++ [y]) :=
  ⟨(hb.block _ (by omega)).trans h.o6, own_other h.o7 hg h.d79, own_other h.o8 hg h.d89, ho, h.d78, d_new h.o7 h.d79 hat, d_new h.o8 h.d89 hat, h.hb.trans (hb.mono (by omega))⟩
theorem ob_len (A : Option Addr) (m m' : Nat) {c : Nat} : (Value.slice A m c).ownBlock = (Value.slice A m' c).ownBlock := by cases A <;> rfl
theorem own_pop {base : Nat} {e : TypeId} {k : IntKind} {A : Option Addr} {m c : Nat} {l : List Int} {x : Int} (h : W.ownsRow base e 1 (.slice A (m + 1) c) (l ++ [x]).length (nums k (l ++ [x]))) (hm : l.length = m) :
    W.ownsRow base e 1 (.slice A m c) l.length (nums k l) := by
  rw [List.length_append, List.length_singleton, hm] at h
  have := own_take h (m := m) (by omega)
  rw [Nat.mul_one, nums_append, List.take_left' (by rw [nums_length, hm])] at this
  rw [hm]
  exact this
theorem WK.pop {A8 A9 : Option Addr} {m c8 c9 : Nat} {x y : Int} (h : WK w W n v7 (.slice A8 (m + 1) c8) (.slice A9 (m + 1) c9) seen left (stk ++ [x]) (nxt ++ [y])) (h8 : stk.length = m) (h9 : nxt.length = m) :
    WK w W n v7 (.slice A8 m c8) (.slice A9 m c9) seen left stk nxt :=
  ⟨h.o6, h.o7, own_pop h.o8 h8, own_pop h.o9 h9, by rw [ob_len A8 m (m + 1)]; exact h.d78, by rw [ob_len A9 m (m + 1)]; exact h.d79, by rw [ob_len A8 m (m + 1), ob_len A9 m (m + 1)]; exact h.d89, h.hb⟩
theorem WK.see (h : WK w W n v7 v8 v9 seen left stk nxt) (j : Nat) : WK w (W.setCell ⟨w.heap.size, j, none⟩ (.bool true)) n v7 v8 v9 (seen.set j true) left stk nxt := by
  have ne : ∀ {v : Value} {m : Nat} {xs : List Value}, W.ownsRow (w.heap.size + 1) 3 1 v m xs → some w.heap.size ≠ v.ownBlock := fun ho e => by
    have := own_base ho w.heap.size e.symm
    omega
  refine ⟨?_, own_setCell h.o7 (p := ⟨w.heap.size, j, none⟩) (ne h.o7) _, own_setCell h.o8 (p := ⟨w.heap.size, j, none⟩) (ne h.o8) _, own_setCell h.o9 (p := ⟨w.heap.size, j, none⟩) (ne h.o9) _, h.d78, h.d79, h.d89, Below.setCell (p := ⟨w.heap.size, j, none⟩) h.hb (Nat.le_refl _) _⟩
  have hs := blk_set h.o6 j (.bool true)
  rw [List.setIfInBounds_toArray] at hs
  have e : (bools seen).set j (.bool true) = bools (seen.set j true) := by unfold bools; rw [List.map_set]
  rw [e] at hs
  exact hs
theorem WK.next {g9 m c9 : Nat} {y : Int} (h : WK w W n v7 v8 (.slice (some ⟨g9, 0, none⟩) (m + 1) c9) seen left stk (nxt ++ [y])) (h9 : nxt.length = m) (x : Int) :
    WK w (W.setCell ⟨g9, m, none⟩ (.int .i64 x)) n v7 v8 (.slice (some ⟨g9, 0, none⟩) (m + 1) c9) seen left stk (nxt ++ [x]) := by
  subst h9
  have o9 := h.o9
  rw [List.length_append, List.length_singleton] at o9
  have hp := own_put (xs := nxt ++ [y]) (by rw [List.length_append, List.length_singleton]; exact o9) (nxt.length : Int) x
  rw [Int.toNat_natCast, List.set_append_right _ _ (Nat.le_refl _), Nat.sub_self, List.set_cons_zero, List.length_append, List.length_append, List.length_singleton, List.length_singleton] at hp
  have hg : w.heap.size + 1 ≤ g9 := own_base h.o9 g9 rfl
  refine ⟨blk_far h.o6 (p := ⟨g9, nxt.length, none⟩) (by show w.heap.size ≠ g9; omega) _, ?_, ?_, by rw [List.length_append, List.length_singleton]; exact hp, h.d78, h.d79, h.d89, Below.setCell (p := ⟨g9, nxt.length, none⟩) h.hb (by show w.heap.size ≤ g9; omega) _⟩
  · refine own_setCell h.o7 (p := ⟨g9, nxt.length, none⟩) (fun e => ?_) _
    rcases h.d79 with h1 | h1
    · rw [h1] at e; cases e
    · exact h1 e.symm
  · refine own_setCell h.o8 (p := ⟨g9, nxt.length, none⟩) (fun e => ?_) _
    rcases h.d89 with h1 | h1
    · rw [h1] at e; cases e
    · exact h1 e.symm
theorem own_top {base g m c : Nat} {e : TypeId} {l : List Int} {x : Int} (h : W.ownsRow base e 1 (.slice (some ⟨g, 0, none⟩) (m + 1) c) (l ++ [x]).length (nums .i64 (l ++ [x]))) (hm : l.length = m) : W.cell? ⟨g, m, none⟩ = some (.int .i64 x) ∧ W.frozen? ⟨g, m, none⟩ = false := by
  subst hm
  rw [List.length_append, List.length_singleton] at h
  have := own_at h (l.length : Int) (by omega) (by omega)
  rw [Int.toNat_natCast] at this
  have e : rd (l ++ [x]) (l.length : Int) = x := by
    unfold rd
    rw [Int.toNat_natCast, List.getD_eq_getElem?_getD, List.getElem?_append_right (Nat.le_refl _), Nat.sub_self]
    rfl
  rw [e] at this
  exact this
theorem own_some {base m c : Nat} {e : TypeId} {A : Option Addr} {xs : List Value} (h : W.ownsRow base e 1 (.slice A (m + 1) c) (m + 1) xs) : ∃ g, A = some ⟨g, 0, none⟩ := by
  obtain ⟨g, c', e1, _⟩ := own_block_slice' h (by omega)
  simp only [Value.slice.injEq] at e1
  exact ⟨g, e1.1⟩
end
end Go.Proofs.Ytpfbfnbffglbkaa.P
