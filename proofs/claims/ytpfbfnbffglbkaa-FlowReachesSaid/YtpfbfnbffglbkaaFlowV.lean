import Derived.Test.YtpfbfnbffglbkaaPF19
import Derived.Test.YtpfbfnbffglbkaaPF20
import Derived.Test.YtpfbfnbffglbkaaFlowW
/- What is reached, by the program and by the reference: plain; no statement of the seat. -/
set_option linter.unusedVariables false
set_option linter.unusedSimpArgs false
namespace Go.Proofs.Ytpfbfnbffglbkaa.P
open Go.RowKit Go.Proofs.YtpfbfnbffglbkaaW.PrintWords Go.Proofs.YtpfbfnbffglbkaaW.PrintLast Go.Proofs.YtpfbfnbffglbkaaW.PrintMore
theorem vis_filter (nx : Nat → List Int) (n : Nat) (p : Int → Bool) (hp : ∀ t, isN n t = true → p t = true) : ∀ f i (st : List Bool × List Int), vis (fun i => (nx i).filter p) n f i st = vis nx n f i st
  | 0, i, st => rfl
  | f + 1, i, st => by
    have hgo : ∀ (l : List Int) (a : List Bool × List Int), (l.filter p).foldl (goV (fun i => (nx i).filter p) n f) a = l.foldl (goV nx n f) a := by
      intro l
      induction l with
      | nil => intro a; rfl
      | cons t l ih =>
        intro a
        rw [List.filter_cons, List.foldl_cons]
        cases hpt : p t with
        | true =>
          rw [if_pos rfl, List.foldl_cons, ih]
          congr 1
          unfold goV
          split
          · exact vis_filter nx n p hp f _ _
          · rfl
        | false =>
          rw [if_neg (by simp), ih]
          congr 1
          unfold goV
          rw [if_neg]
          intro hc
          rw [Bool.and_eq_true] at hc
          rw [hp t hc.1] at hpt
          cases hpt
    rw [vis_succ, vis_succ, hgo]
theorem walkB_plain (b : List S30) : walkB b (-1) = if b.length = 0 then (List.replicate b.length false, []) else vis (nxB b) b.length b.length 0 (List.replicate b.length false, []) := by
  unfold walkB
  by_cases h : b.length = 0
  · rw [if_pos (Or.inl h), if_pos h]
  · rw [if_neg (by omega), if_neg h]
    refine vis_filter (nxB b) b.length (fun t => t != -1) (fun t ht => ?_) _ _ _
    obtain ⟨j, rfl, _⟩ := isN_nat ht
    simp
theorem walkB_ord (b : List S30) : ordB b = (walkB b (-1)).2.reverse := by
  rw [walkB_plain]
  unfold ordB
  split
  · rfl
  · rfl
theorem ordOK_B (b : List S30) (h : 0 < b.length) : OrdOK (nxB b) b.length (walkB b (-1)).1 (ordB b) := by
  rw [walkB_ord, walkB_plain, if_neg (by omega)]
  exact ord_ok (nxB b) b.length h
theorem walk_run (b : List S30) (wo : Int) (h : b.length ≤ 3600000000000) : pianolaref08_Walk.f b wo = some (walkB b wo) := by
  unfold pianolaref08_Walk.f
  rw [if_pos h]
theorem order_run (b : List S30) (h : b.length ≤ 3600000000000) : flow_Order.f b = some (ordB b) := by
  unfold flow_Order.f
  rw [if_pos h]
theorem walkB_len (b : List S30) : (walkB b (-1)).1.length = b.length := by
  by_cases h : b.length = 0
  · rw [walkB_plain, if_pos h]
    exact List.length_replicate
  · exact (ordOK_B b (by omega)).len
theorem ordB_le (b : List S30) : (ordB b).length ≤ b.length := by
  by_cases h : b.length = 0
  · unfold ordB
    rw [if_pos h]
    exact Nat.zero_le _
  · exact (ordOK_B b (by omega)).le
theorem rd_at {l : List Int} {i : Nat} (h : i < l.length) : rd l (i : Int) ∈ l := by
  unfold rd
  rw [Int.toNat_natCast, List.getD_eq_getElem?_getD, List.getElem?_eq_getElem h]
  exact List.getElem_mem h
theorem rd_of {l : List Int} {i : Nat} (h : i < l.length) : rd l (i : Int) = l[i] := by
  unfold rd
  rw [Int.toNat_natCast, List.getD_eq_getElem?_getD, List.getElem?_eq_getElem h]
  rfl
/-- What is set of some. -/
def setsL (l : List Int) (s : List Bool) : List Bool := l.foldl (fun s x => s.set x.toNat true) s
theorem setsL_len (l : List Int) : ∀ s, (setsL l s).length = s.length := by
  induction l with
  | nil => intro s; rfl
  | cons x l ih =>
    intro s
    have := ih (s.set x.toNat true)
    rw [List.length_set] at this
    exact this
theorem setsL_get (l : List Int) (n : Nat) : ∀ (s : List Bool), s.length = n → (∀ x ∈ l, ∃ j : Nat, x = (j : Int) ∧ j < n) → ∀ j, j < n → ((setsL l s)[j]? = some true ↔ (s[j]? = some true ∨ (j : Int) ∈ l)) := by
  induction l with
  | nil => intro s _ _ j _; show s[j]? = some true ↔ _; simp
  | cons x l ih =>
    intro s hs hx j hj
    obtain ⟨i, rfl, hi⟩ := hx x List.mem_cons_self
    have := ih (s.set i true) (by rw [List.length_set]; exact hs) (fun y hy => hx y (List.mem_cons_of_mem _ hy)) j hj
    show (setsL l (s.set (i : Int).toNat true))[j]? = some true ↔ _
    rw [Int.toNat_natCast, this]
    by_cases e : i = j
    · subst e
      rw [List.getElem?_set_self (by omega)]
      simp
    · rw [List.getElem?_set_ne e]
      constructor
      · rintro (h | h)
        · exact Or.inl h
        · exact Or.inr (List.mem_cons_of_mem _ h)
      · rintro (h | h)
        · exact Or.inl h
        · rcases List.mem_cons.1 h with h | h
          · omega
          · exact Or.inr h
theorem reached_l0 (ord : List Int) (n : Nat) (hn : ord.length ≤ 3600000000000) (ho : ∀ x ∈ ord, ∃ j : Nat, x = (j : Int) ∧ j < n) : ∀ (d k i : Nat) (s : List Bool), s.length = n → i + d = ord.length → d < k →
    flow_Reached.l0 k s ord (ord.length : Int) (i : Int) = some (setsL (ord.drop i) s)
  | 0, k, i, s, hs, hi, hk => by
    obtain ⟨k, rfl⟩ : ∃ m, k = m + 1 := ⟨k - 1, by omega⟩
    simp only [flow_Reached.l0]
    rw [if_neg (by omega), List.drop_eq_nil_of_le (by omega)]
    rfl
  | d + 1, k, i, s, hs, hi, hk => by
    obtain ⟨k, rfl⟩ : ∃ m, k = m + 1 := ⟨k - 1, by omega⟩
    have hlt : i < ord.length := by omega
    obtain ⟨j, hj, hjn⟩ := ho _ (List.getElem_mem hlt)
    have hr := rd_of hlt
    have hw : wrap64 ((i : Int) + 1) = ((i + 1 : Nat) : Int) := by unfold wrap64; omega
    simp only [flow_Reached.l0]
    rw [if_pos (by omega), if_pos (by omega), if_pos (by omega), hr, hj, if_pos (by omega), if_pos (by omega), hw, Int.toNat_natCast, reached_l0 ord n hn ho d k (i + 1) (s.set j true) (by rw [List.length_set]; exact hs) (by omega) (by omega),
      List.drop_eq_getElem_cons hlt]
    show _ = some (setsL (ord.drop (i + 1)) (s.set (ord[i]).toNat true))
    rw [hj, Int.toNat_natCast]
theorem reached_run (b : List S30) (h : b.length ≤ 3600000000000) (k : Nat) (hk : b.length < k) : flow_Reached.f k b = some (walkB b (-1)).1 := by
  unfold flow_Reached.f
  rw [if_pos (by omega), if_pos (by omega), order_run b h, Option.bind_some, Int.toNat_natCast]
  have hle := ordB_le b
  by_cases h0 : b.length = 0
  · have e : ordB b = [] := by unfold ordB; rw [if_pos h0]
    obtain ⟨k, rfl⟩ : ∃ m, k = m + 1 := ⟨k - 1, by omega⟩
    rw [e, walkB_plain, if_pos h0]
    simp only [flow_Reached.l0]
    rw [if_neg (by simp)]
  · have hO := ordOK_B b (by omega)
    have hr := reached_l0 (ordB b) b.length (by omega) hO.isNat (ordB b).length k 0 (List.replicate b.length false) List.length_replicate (by omega) (by omega)
    rw [List.drop_zero] at hr
    refine hr.trans (congrArg some ?_)
    have hln := walkB_len b
    apply List.ext_getElem?
    intro j
    by_cases hj : j < b.length
    · have h1 := setsL_get (ordB b) b.length (List.replicate b.length false) List.length_replicate hO.isNat j hj
      have h2 := hO.seen j hj
      have h3 : ¬ (List.replicate b.length false)[j]? = some true := by
        rw [List.getElem?_replicate, if_pos hj]
        simp
      have h4 : ((setsL (ordB b) (List.replicate b.length false))[j]? = some true) ↔ ((walkB b (-1)).1[j]? = some true) := by
        rw [h1, h2]
        constructor
        · rintro (h | h)
          · exact absurd h h3
          · exact h
        · exact Or.inr
      rw [List.getElem?_eq_getElem (by rw [setsL_len, List.length_replicate]; exact hj), List.getElem?_eq_getElem (by rw [hln]; exact hj)] at h4 ⊢
      simp only [Option.some.injEq] at h4 ⊢
      exact Bool.eq_iff_iff.2 h4
    · rw [List.getElem?_eq_none (by rw [setsL_len, List.length_replicate]; omega), List.getElem?_eq_none (by rw [hln]; omega)]
end Go.Proofs.Ytpfbfnbffglbkaa.P
/- Places in an order: plain; no statement of the seat. -/
set_option linter.unusedVariables false
set_option linter.unusedSimpArgs false
namespace Go.Proofs.Ytpfbfnbffglbkaa.P
open Go.RowKit Go.Proofs.YtpfbfnbffglbkaaW.PrintWords Go.Proofs.YtpfbfnbffglbkaaW.PrintLast Go.Proofs.YtpfbfnbffglbkaaW.PrintMore
/-! ### Places in the order -/
theorem placeG_len : ∀ (l : List Int) (i : Nat) (pl : List Int), (placeG l i pl).length = pl.length
  | [], i, pl => rfl
  | x :: l, i, pl => by rw [placeG, placeG_len l (i + 1), List.length_set]
theorem placeG_out (n : Nat) : ∀ (l : List Int) (i : Nat) (pl : List Int) (j : Nat), (∀ x ∈ l, ∃ j : Nat, x = (j : Int) ∧ j < n) → ¬ (j : Int) ∈ l → (placeG l i pl)[j]? = pl[j]?
  | [], i, pl, j, hl, hj => rfl
  | x :: l, i, pl, j, hl, hj => by
    obtain ⟨a, rfl, ha⟩ := hl x List.mem_cons_self
    rw [placeG, placeG_out n l (i + 1) _ j (fun y hy => hl y (List.mem_cons_of_mem _ hy)) (fun h => hj (List.mem_cons_of_mem _ h)), Int.toNat_natCast, List.getElem?_set_ne]
    rintro rfl
    exact hj List.mem_cons_self
theorem placeG_get (n : Nat) : ∀ (l : List Int) (i : Nat) (pl : List Int) (k j : Nat), pl.length = n → (∀ x ∈ l, ∃ j : Nat, x = (j : Int) ∧ j < n) → l.Nodup → l[k]? = some (j : Int) → (placeG l i pl)[j]? = some ((i + k : Nat) : Int)
  | [], i, pl, k, j, hp, hl, hd, hk => by simp at hk
  | x :: l, i, pl, k, j, hp, hl, hd, hk => by
    obtain ⟨a, rfl, ha⟩ := hl x List.mem_cons_self
    rw [List.nodup_cons] at hd
    rw [placeG, Int.toNat_natCast]
    cases k with
    | zero =>
      simp only [List.getElem?_cons_zero, Option.some.injEq] at hk
      have : a = j := by omega
      subst this
      rw [placeG_out n l (i + 1) _ a (fun y hy => hl y (List.mem_cons_of_mem _ hy)) hd.1, List.getElem?_set_self (by omega)]
      rfl
    | succ k =>
      rw [List.getElem?_cons_succ] at hk
      rw [placeG_get n l (i + 1) _ k j (by rw [List.length_set]; exact hp) (fun y hy => hl y (List.mem_cons_of_mem _ hy)) hd.2 hk]
      congr 2
      omega
/-- The places of an order. -/
structure PlB (n : Nat) (ord pl : List Int) (pos : Nat → Nat) : Prop where
  len : pl.length = n
  at_ : ∀ x : Nat, (x : Int) ∈ ord → rd pl (x : Int) = (pos x : Int) ∧ pos x < ord.length ∧ ord[pos x]? = some (x : Int)
theorem plB (nx : Nat → List Int) (n : Nat) (seen : List Bool) (ord : List Int) (h : OrdOK nx n seen ord) : PlB n ord (placeG ord 0 (List.replicate n 0)) (fun x => (rd (placeG ord 0 (List.replicate n 0)) (x : Int)).toNat) := by
  refine ⟨by rw [placeG_len, List.length_replicate], fun x hx => ?_⟩
  obtain ⟨k, hk, e⟩ := List.getElem_of_mem hx
  have h1 := placeG_get n ord 0 (List.replicate n 0) k x List.length_replicate h.isNat h.nd (by rw [List.getElem?_eq_getElem hk, e])
  have h2 : rd (placeG ord 0 (List.replicate n 0)) (x : Int) = (k : Int) := by
    unfold rd
    rw [Int.toNat_natCast, List.getD_eq_getElem?_getD, h1, Nat.zero_add]
    rfl
  rw [h2, Int.toNat_natCast]
  exact ⟨rfl, hk, by rw [List.getElem?_eq_getElem hk, e]⟩
theorem nodup_split {α : Type} {A B A' B' : List α} {x : α} (hd : (A ++ x :: B).Nodup) (e : A ++ x :: B = A' ++ x :: B') : A = A' := by
  induction A generalizing A' with
  | nil =>
    cases A' with
    | nil => rfl
    | cons a A' =>
      rw [List.nil_append, List.cons_append, List.cons.injEq] at e
      rw [List.nil_append, List.nodup_cons] at hd
      exact absurd (by rw [e.2]; simp) hd.1
  | cons a A ih =>
    cases A' with
    | nil =>
      rw [List.nil_append, List.cons_append, List.cons.injEq] at e
      rw [List.cons_append, List.nodup_cons] at hd
      exact absurd (by rw [e.1]; simp) hd.1
    | cons b A' =>
      rw [List.cons_append, List.cons_append, List.cons.injEq] at e
      rw [List.cons_append, List.nodup_cons] at hd
      rw [e.1, ih hd.2 e.2]
section
variable {n : Nat} {ord pl : List Int} {pos : Nat → Nat}
theorem PlB.inj (h : PlB n ord pl pos) (x y : Nat) (hx : (x : Int) ∈ ord) (hy : (y : Int) ∈ ord) (e : pos x = pos y) : x = y := by
  have a := (h.at_ x hx).2.2
  have b := (h.at_ y hy).2.2
  rw [e, b] at a
  injection a with a
  omega
/-- Where one stands is how many stand ahead. -/
theorem PlB.split (h : PlB n ord pl pos) (hd : ord.Nodup) (A B : List Int) (x : Nat) (e : ord = A ++ (x : Int) :: B) : pos x = A.length := by
  have a := (h.at_ x (by rw [e]; simp)).2
  have b : ord[A.length]? = some (x : Int) := by rw [e, List.getElem?_append_right (Nat.le_refl _), Nat.sub_self]; rfl
  have hA : A.length < ord.length := by rw [e]; simp
  rw [List.getElem?_eq_getElem a.1] at a
  rw [List.getElem?_eq_getElem hA] at b
  exact (List.getElem_inj hd).1 ((Option.some.inj a.2).trans (Option.some.inj b).symm)
theorem PlB.sorted (h : PlB n ord pl pos) (hd : ord.Nodup) (A B : List Int) (x y : Nat) (e : ord = A ++ (x : Int) :: B) (hy : (y : Int) ∈ A) : pos y < pos x := by
  obtain ⟨C, D, rfl⟩ := List.append_of_mem hy
  rw [h.split hd _ B x e, h.split hd C (D ++ (x : Int) :: B) y (by rw [e]; simp)]
  simp
end
theorem rd_set {l : List Int} {i : Nat} (h : i < l.length) (v : Int) (j : Nat) : rd (l.set i v) (j : Int) = if j = i then v else rd l (j : Int) := by
  unfold rd
  rw [Int.toNat_natCast, List.getD_eq_getElem?_getD, List.getD_eq_getElem?_getD]
  by_cases e : j = i
  · subst e
    rw [List.getElem?_set_self h, if_pos rfl]
    rfl
  · rw [List.getElem?_set_ne (fun k => e k.symm), if_neg e]
theorem w1 (q : Nat) (h : q < 9000000000000000000) : wrap64 ((q : Int) + 1) = ((q + 1 : Nat) : Int) := by unfold wrap64; omega
end Go.Proofs.Ytpfbfnbffglbkaa.P
