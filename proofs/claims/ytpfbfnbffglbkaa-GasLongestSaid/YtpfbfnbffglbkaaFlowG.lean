import Derived.Test.YtpfbfnbffglbkaaPF31
import Derived.Test.YtpfbfnbffglbkaaFlowV
/- The dearest way, as gas.Longest reckons it: plain; no statement of the seat. -/
set_option linter.unusedVariables false
set_option linter.unusedSimpArgs false
namespace Go.Proofs.Ytpfbfnbffglbkaa.P
open Go.RowKit Go.Proofs.YtpfbfnbffglbkaaW.PrintWords Go.Proofs.YtpfbfnbffglbkaaW.PrintLast Go.Proofs.YtpfbfnbffglbkaaW.PrintMore
/-! ### Places in the order -/
theorem placeG_len : ∀ (l : List Int) (i : Nat) (pl : List Int), (placeG l i pl).length = pl.length
  | [], i, pl => rfl
  | x :: l, i, pl => by rw [placeG, placeG_len l (i + 1), List.length_set]
theorem placeG_out (n : Nat) : ∀ (l : List Int) (i : Nat) (pl : List Int) (j : Nat), (∀ x ∈ l, ∃ j : Nat, x = (j : Int) ∧ j < n) → ¬ (j : Int) ∈ l → (placeG l i pl)[j]? = pl[j]?
  | [], i, pl, j, hl, hj => rfl
  | x :: l, i, pl, j, hl, hj => by
    obtain ⟨a, rfl, ha⟩ := hl x List.mem_cons_self
    rw [placeG, placeG_out n l (i + 1) _ j (fun y hy => hl y (List.mem_cons_of_mem _ hy)) (fun h => hj (List.mem_cons_of_mem _ h)), Int.toNat_natCast, List.getElem?_set_ne]
    rintro rfl
    exact hj List.mem_cons_self
theorem placeG_get (n : Nat) : ∀ (l : List Int) (i : Nat) (pl : List Int) (k j : Nat), pl.length = n → (∀ x ∈ l, ∃ j : Nat, x = (j : Int) ∧ j < n) → l.Nodup → l[k]? = some (j : Int) → (placeG l i pl)[j]? = some ((i + k : Nat) : Int)
  | [], i, pl, k, j, hp, hl, hd, hk => by simp at hk
  | x :: l, i, pl, k, j, hp, hl, hd, hk => by
    obtain ⟨a, rfl, ha⟩ := hl x List.mem_cons_self
    rw [List.nodup_cons] at hd
    rw [placeG, Int.toNat_natCast]
    cases k with
    | zero =>
      simp only [List.getElem?_cons_zero, Option.some.injEq] at hk
      have : a = j := by omega
      subst this
      rw [placeG_out n l (i + 1) _ a (fun y hy => hl y (List.mem_cons_of_mem _ hy)) hd.1, List.getElem?_set_self (by omega)]
      rfl
    | succ k =>
      rw [List.getElem?_cons_succ] at hk
      rw [placeG_get n l (i + 1) _ k j (by rw [List.length_set]; exact hp) (fun y hy => hl y (List.mem_cons_of_mem _ hy)) hd.2 hk]
      congr 2
      omega
/-- The places of an order. -/
structure PlB (n : Nat) (ord pl : List Int) (pos : Nat → Nat) : Prop where
  len : pl.length = n
  at_ : ∀ x : Nat, (x : Int) ∈ ord → rd pl (x : Int) = (pos x : Int) ∧ pos x < ord.length ∧ ord[pos x]? = some (x : Int)
theorem plB (nx : Nat → List Int) (n : Nat) (seen : List Bool) (ord : List Int) (h : OrdOK nx n seen ord) : PlB n ord (placeG ord 0 (List.replicate n 0)) (fun x => (rd (placeG ord 0 (List.replicate n 0)) (x : Int)).toNat) := by
  refine ⟨by rw [placeG_len, List.length_replicate], fun x hx => ?_⟩
  obtain ⟨k, hk, e⟩ := List.getElem_of_mem hx
  have h1 := placeG_get n ord 0 (List.replicate n 0) k x List.length_replicate h.isNat h.nd (by rw [List.getElem?_eq_getElem hk, e])
  have h2 : rd (placeG ord 0 (List.replicate n 0)) (x : Int) = (k : Int) := by
    unfold rd
    rw [Int.toNat_natCast, List.getD_eq_getElem?_getD, h1, Nat.zero_add]
    rfl
  rw [h2, Int.toNat_natCast]
  exact ⟨rfl, hk, by rw [List.getElem?_eq_getElem hk, e]⟩
theorem nodup_split {α : Type} {A B A' B' : List α} {x : α} (hd : (A ++ x :: B).Nodup) (e : A ++ x :: B = A' ++ x :: B') : A = A' := by
  induction A generalizing A' with
  | nil =>
    cases A' with
    | nil => rfl
    | cons a A' =>
      rw [List.nil_append, List.cons_append, List.cons.injEq] at e
      rw [List.nil_append, List.nodup_cons] at hd
      exact absurd (by rw [e.2]; simp) hd.1
  | cons a A ih =>
    cases A' with
    | nil =>
      rw [List.nil_append, List.cons_append, List.cons.injEq] at e
      rw [List.cons_append, List.nodup_cons] at hd
      exact absurd (by rw [e.1]; simp) hd.1
    | cons b A' =>
      rw [List.cons_append, List.cons_append, List.cons.injEq] at e
      rw [List.cons_append, List.nodup_cons] at hd
      rw [e.1, ih hd.2 e.2]
section
variable {n : Nat} {ord pl : List Int} {pos : Nat → Nat}
theorem PlB.inj (h : PlB n ord pl pos) (x y : Nat) (hx : (x : Int) ∈ ord) (hy : (y : Int) ∈ ord) (e : pos x = pos y) : x = y := by
  have a := (h.at_ x hx).2.2
  have b := (h.at_ y hy).2.2
  rw [e, b] at a
  injection a with a
  omega
/-- Where one stands is how many stand ahead. -/
theorem PlB.split (h : PlB n ord pl pos) (hd : ord.Nodup) (A B : List Int) (x : Nat) (e : ord = A ++ (x : Int) :: B) : pos x = A.length := by
  have a := (h.at_ x (by rw [e]; simp)).2
  have b : ord[A.length]? = some (x : Int) := by rw [e, List.getElem?_append_right (Nat.le_refl _), Nat.sub_self]; rfl
  have hA : A.length < ord.length := by rw [e]; simp
  rw [List.getElem?_eq_getElem a.1] at a
  rw [List.getElem?_eq_getElem hA] at b
  exact (List.getElem_inj hd).1 ((Option.some.inj a.2).trans (Option.some.inj b).symm)
theorem PlB.sorted (h : PlB n ord pl pos) (hd : ord.Nodup) (A B : List Int) (x y : Nat) (e : ord = A ++ (x : Int) :: B) (hy : (y : Int) ∈ A) : pos y < pos x := by
  obtain ⟨C, D, rfl⟩ := List.append_of_mem hy
  rw [h.split hd _ B x e, h.split hd C (D ++ (x : Int) :: B) y (by rw [e]; simp)]
  simp
end
/-! ### gas.Longest -/
def mostG : Int := 4611686018427387904
def innG (pl costs : List Int) (n : Nat) (x : Int) : List Int → List Int → Option (List Int)
  | [], best => some best
  | t :: l, best =>
    if isN n t = true then (if rd pl t ≤ rd pl x ∨ rd costs t > mostG - rd best x then none else innG pl costs n x l (best.set t.toNat (mx (rd best t) (rd best x + rd costs t)))) else innG pl costs n x l best
def outG (nx : Nat → List Int) (pl costs : List Int) (n : Nat) : List Int → Int → List Int → Option Int
  | [], lg, best => some lg
  | x :: l, lg, best => if rd best x > mostG then none else (innG pl costs n x (nx x.toNat) best).bind (outG nx pl costs n l (mx lg (rd best x)))
def BI (n : Nat) (best : List Int) : Prop := best.length = n ∧ ∀ j : Nat, j < n → -1 ≤ rd best (j : Int) ∧ rd best (j : Int) ≤ 9223372036854775807
theorem rd_set {l : List Int} {i : Nat} (h : i < l.length) (v : Int) (j : Nat) : rd (l.set i v) (j : Int) = if j = i then v else rd l (j : Int) := by
  unfold rd
  rw [Int.toNat_natCast, List.getD_eq_getElem?_getD, List.getD_eq_getElem?_getD]
  by_cases e : j = i
  · subst e
    rw [List.getElem?_set_self h, if_pos rfl]
    rfl
  · rw [List.getElem?_set_ne (fun k => e k.symm), if_neg e]
theorem mx_def (a b : Int) : mx a b = if a < b then b else a := rfl
theorem w1 (q : Nat) (h : q < 9000000000000000000) : wrap64 ((q : Int) + 1) = ((q + 1 : Nat) : Int) := by unfold wrap64; omega
theorem wrap_sub (v : Int) (h : -1 ≤ v) (h2 : v ≤ mostG) : wrap64 (4611686018427387904 - v) = mostG - v := by
  unfold mostG at *
  unfold wrap64
  omega
theorem wrap_add (v c : Int) (h : -1 ≤ v) (h0 : 0 ≤ c) (h2 : ¬ c > mostG - v) : wrap64 (v + c) = v + c := by
  unfold mostG at *
  unfold wrap64
  omega
theorem mx_bd (a v c : Int) (h : -1 ≤ v) (h0 : 0 ≤ c) (h2 : ¬ c > mostG - v) (ha : -1 ≤ a ∧ a ≤ 9223372036854775807) : -1 ≤ mx a (v + c) ∧ mx a (v + c) ≤ 9223372036854775807 := by
  unfold mostG at *
  rw [mx_def]
  split <;> omega
theorem BI.set {n : Nat} {best : List Int} (h : BI n best) (i : Nat) (hi : i < n) (v : Int) (h0 : -1 ≤ v) (h1 : v ≤ 9223372036854775807) : BI n (best.set i v) := by
  refine ⟨by rw [List.length_set]; exact h.1, fun j hj => ?_⟩
  rw [rd_set (by rw [h.1]; exact hi)]
  split
  · exact ⟨h0, h1⟩
  · exact h.2 j hj
section
variable (b : List S30) (pl costs ord : List Int) (r : Int × Bool)
/-- One block's others. -/
theorem l2_ev (hcl : costs.length = b.length) (hc : ∀ c ∈ costs, 0 ≤ c ∧ c ≤ 9223372036854775807) (hpl : pl.length = b.length) (hb : b.length ≤ 3600000000000) (lg : Int) (x : Nat) (hx : x < b.length) (i : Nat)
    (nl : List Int) (hnl : nl.length ≤ 17592186044415) : ∀ (d q : Nat) (best : List Int), q + d = nl.length → BI b.length best → rd best (x : Int) ≤ mostG →
      (∀ best', innG pl costs b.length (x : Int) (nl.drop q) best = some best' → Ev (fun k => gas_Longest.l1 k b costs pl best' lg ord (ord.length : Int) (wrap64 ((i : Int) + 1))) r) →
      (innG pl costs b.length (x : Int) (nl.drop q) best = none → r = (0, false)) →
      Ev (fun k => gas_Longest.l2 k b costs pl best lg (x : Int) ord (ord.length : Int) (i : Int) nl (nl.length : Int) (q : Int)) r
  | 0, q, best, hq, hB, hm, hs, hn => by
    rw [List.drop_eq_nil_of_le (by omega)] at hs hn
    refine Ev.step (f := fun k => gas_Longest.l1 k b costs pl best lg ord (ord.length : Int) (wrap64 ((i : Int) + 1))) (fun k => ?_) (hs best rfl)
    simp only [gas_Longest.l2]
    rw [if_neg (by omega)]
  | d + 1, q, best, hq, hB, hm, hs, hn => by
    have hlt : q < nl.length := by omega
    have hr := rd_of hlt
    obtain ⟨t, ht⟩ : ∃ t, nl[q] = t := ⟨_, rfl⟩
    rw [ht] at hr
    rw [List.drop_eq_getElem_cons hlt, ht, innG] at hs hn
    have skip : isN b.length t = false → (∀ k, gas_Longest.l2 (k + 2) b costs pl best lg (x : Int) ord (ord.length : Int) (i : Int) nl (nl.length : Int) (q : Int) = gas_Longest.l2 k b costs pl best lg (x : Int) ord (ord.length : Int) (i : Int) nl (nl.length : Int) ((q + 1 : Nat) : Int)) := by
      intro hno k
      unfold isN at hno
      simp only [gas_Longest.l2]
      rw [if_pos (by omega), if_pos (by omega), if_pos (by omega), hr]
      by_cases h0 : t < 0
      · rw [if_pos h0]
        simp only [gas_Longest.j4]
        rw [if_pos trivial, w1 q (by omega)]
      · rw [if_neg h0]
        rw [decide_eq_true (by omega), Bool.true_and, decide_eq_false_iff_not] at hno
        simp only [gas_Longest.j4]
        rw [if_pos (decide_eq_true (by omega)), w1 q (by omega)]
    by_cases hn2 : isN b.length t = true
    · rw [if_pos hn2] at hs hn
      obtain ⟨j, rfl, hj⟩ := isN_nat hn2
      have hbx := hB.2 x hx
      have hbj := hB.2 j hj
      have hcj : 0 ≤ rd costs (j : Int) ∧ rd costs (j : Int) ≤ 9223372036854775807 := hc _ (rd_at (by omega))
      have head : ∀ k, gas_Longest.l2 (k + 2) b costs pl best lg (x : Int) ord (ord.length : Int) (i : Int) nl (nl.length : Int) (q : Int) =
          if rd pl (j : Int) ≤ rd pl (x : Int) then some (0, false) else if rd costs (j : Int) > mostG - rd best (x : Int) then some (0, false) else
            gas_Longest.l2 k b costs pl (best.set j (mx (rd best (j : Int)) (wrap64 (rd best (x : Int) + rd costs (j : Int))))) lg (x : Int) ord (ord.length : Int) (i : Int) nl (nl.length : Int) ((q + 1 : Nat) : Int) := by
        intro k
        simp only [gas_Longest.l2]
        rw [if_pos (by omega), if_pos (by omega), if_pos (by omega), hr, if_neg (by omega)]
        simp only [gas_Longest.j4]
        rw [if_neg (by rw [decide_eq_true_eq]; omega), if_pos (by omega), if_pos (by omega), if_pos (by omega), if_pos (by omega)]
        split
        · rfl
        · rw [if_pos (by omega), if_pos (by rw [hB.1]; omega), wrap_sub _ hbx.1 hm]
          split
          · rfl
          · rw [if_pos (by rw [hB.1]; omega), w1 q (by omega), Int.toNat_natCast]
      by_cases hbad : rd pl (j : Int) ≤ rd pl (x : Int) ∨ rd costs (j : Int) > mostG - rd best (x : Int)
      · rw [if_pos hbad] at hn
        rw [hn rfl]
        refine ⟨2, fun k hk => ?_⟩
        obtain ⟨k, rfl⟩ : ∃ m, k = m + 2 := ⟨k - 2, by omega⟩
        show gas_Longest.l2 (k + 2) b costs pl best lg (x : Int) ord (ord.length : Int) (i : Int) nl (nl.length : Int) (q : Int) = _
        rw [head k]
        rcases hbad with h | h
        · rw [if_pos h]
        · by_cases h1 : rd pl (j : Int) ≤ rd pl (x : Int)
          · rw [if_pos h1]
          · rw [if_neg h1, if_pos h]
      · rw [if_neg hbad] at hs hn
        rw [Int.toNat_natCast] at hs hn
        have hne : x ≠ j := by rintro rfl; omega
        have hmx := mx_bd (rd best (j : Int)) (rd best (x : Int)) (rd costs (j : Int)) hbx.1 hcj.1 (fun h => hbad (Or.inr h)) hbj
        have ih := l2_ev hcl hc hpl hb lg x hx i nl hnl d (q + 1) (best.set j (mx (rd best (j : Int)) (rd best (x : Int) + rd costs (j : Int)))) (by omega) (hB.set j hj _ hmx.1 hmx.2)
          (by rw [rd_set (by rw [hB.1]; exact hj), if_neg hne]; exact hm) hs hn
        obtain ⟨K, ih⟩ := ih
        refine ⟨K + 2, fun k hk => ?_⟩
        obtain ⟨k, rfl⟩ : ∃ m, k = m + 2 := ⟨k - 2, by omega⟩
        show gas_Longest.l2 (k + 2) b costs pl best lg (x : Int) ord (ord.length : Int) (i : Int) nl (nl.length : Int) (q : Int) = _
        rw [head k, if_neg (fun h => hbad (Or.inl h)), if_neg (fun h => hbad (Or.inr h)), wrap_add _ _ hbx.1 hcj.1 (fun h => hbad (Or.inr h))]
        exact ih k (by omega)
    · have hno : isN b.length t = false := by simpa using hn2
      rw [if_neg hn2] at hs hn
      obtain ⟨K, ih⟩ := l2_ev hcl hc hpl hb lg x hx i nl hnl d (q + 1) best (by omega) hB hm hs hn
      refine ⟨K + 2, fun k hk => ?_⟩
      obtain ⟨k, rfl⟩ : ∃ m, k = m + 2 := ⟨k - 2, by omega⟩
      exact (skip hno k).trans (ih k (by omega))
theorem innG_BI {pl costs : List Int} {n : Nat} (hcl : costs.length = n) (hc : ∀ c ∈ costs, 0 ≤ c ∧ c ≤ 9223372036854775807) {x : Nat} (hx : x < n) : ∀ (l best best' : List Int), BI n best → rd best (x : Int) ≤ mostG → innG pl costs n (x : Int) l best = some best' → BI n best'
  | [], best, best', hB, hm, h => by
    rw [innG, Option.some.injEq] at h
    subst h
    exact hB
  | t :: l, best, best', hB, hm, h => by
    rw [innG] at h
    split at h
    · rename_i hn
      obtain ⟨j, rfl, hj⟩ := isN_nat hn
      split at h
      · cases h
      · rename_i hbad
        rw [Int.toNat_natCast] at h
        have hbx := hB.2 x hx
        have hbj := hB.2 j hj
        have hcj : 0 ≤ rd costs (j : Int) ∧ rd costs (j : Int) ≤ 9223372036854775807 := hc _ (rd_at (by omega))
        have hne : x ≠ j := by rintro rfl; omega
        have hmx := mx_bd (rd best (j : Int)) (rd best (x : Int)) (rd costs (j : Int)) hbx.1 hcj.1 (fun h => hbad (Or.inr h)) hbj
        exact innG_BI hcl hc hx l _ best' (hB.set j hj _ hmx.1 hmx.2) (by rw [rd_set (by rw [hB.1]; exact hj), if_neg hne]; exact hm) h
    · exact innG_BI hcl hc hx l best best' hB hm h
/-- All blocks in their order. -/
theorem l1_ev (hcl : costs.length = b.length) (hc : ∀ c ∈ costs, 0 ≤ c ∧ c ≤ 9223372036854775807) (hpl : pl.length = b.length) (hb : b.length ≤ 3600000000000) (hord : ord.length ≤ b.length) (ho : ∀ x ∈ ord, ∃ j : Nat, x = (j : Int) ∧ j < b.length)
    (hnl : ∀ x : Nat, x < b.length → (nxB b x).length ≤ 17592186044415) : ∀ (d i : Nat) (lg : Int) (best : List Int), i + d = ord.length → BI b.length best →
      (match outG (nxB b) pl costs b.length (ord.drop i) lg best with | some L => r = (L, true) | none => r = (0, false)) →
      Ev (fun k => gas_Longest.l1 k b costs pl best lg ord (ord.length : Int) (i : Int)) r
  | 0, i, lg, best, hi, hB, h => by
    rw [List.drop_eq_nil_of_le (by omega), outG] at h
    dsimp only at h
    subst h
    refine ⟨1, fun k hk => ?_⟩
    obtain ⟨k, rfl⟩ : ∃ m, k = m + 1 := ⟨k - 1, by omega⟩
    simp only [gas_Longest.l1]
    rw [if_neg (by omega)]
  | d + 1, i, lg, best, hi, hB, h => by
    have hlt : i < ord.length := by omega
    have hr := rd_of hlt
    obtain ⟨x, hxo, hx⟩ := ho _ (List.getElem_mem hlt)
    rw [hxo] at hr
    rw [List.drop_eq_getElem_cons hlt, hxo, outG, Int.toNat_natCast] at h
    have head : ∀ k, gas_Longest.l1 (k + 1) b costs pl best lg ord (ord.length : Int) (i : Int) = if rd best (x : Int) > mostG then some (0, false) else
        gas_Longest.l2 k b costs pl best (mx lg (rd best (x : Int))) (x : Int) ord (ord.length : Int) (i : Int) (nxB b x) ((nxB b x).length : Int) ((0 : Nat) : Int) := by
      intro k
      simp only [gas_Longest.l1]
      rw [if_pos (by omega), if_pos (by omega), if_pos (by omega), hr, if_pos (by omega), if_pos (by rw [hB.1]; omega)]
      show (if rd best (x : Int) > mostG then _ else _) = _
      split
      · rfl
      · rw [if_pos (by omega)]
        rfl
    by_cases hm : rd best (x : Int) > mostG
    · rw [if_pos hm] at h
      dsimp only at h
      subst h
      refine ⟨1, fun k hk => ?_⟩
      obtain ⟨k, rfl⟩ : ∃ m, k = m + 1 := ⟨k - 1, by omega⟩
      show gas_Longest.l1 (k + 1) b costs pl best lg ord (ord.length : Int) (i : Int) = _
      rw [head k, if_pos hm]
    · rw [if_neg hm] at h
      have h2 := l2_ev b pl costs ord r hcl hc hpl hb (mx lg (rd best (x : Int))) x hx i (nxB b x) (hnl x hx) (nxB b x).length 0 best (by omega) hB (by omega)
        (fun best' hs => by
          rw [List.drop_zero] at hs
          rw [hs, Option.bind_some] at h
          rw [w1 i (by omega)]
          exact l1_ev hcl hc hpl hb hord ho hnl d (i + 1) _ best' (by omega) (innG_BI hcl hc hx _ _ _ hB (by omega) hs) h)
        (fun hs => by
          rw [List.drop_zero] at hs
          rw [hs] at h
          exact h)
      refine Ev.step (fun k => ?_) h2
      rw [head k, if_neg hm]
/-- The places are laid. -/
theorem l0_ev (hb : b.length ≤ 3600000000000) (hord : ord.length ≤ b.length) (ho : ∀ x ∈ ord, ∃ j : Nat, x = (j : Int) ∧ j < b.length) (hcl : costs.length = b.length) (hn : 0 < b.length) : ∀ (d i : Nat) (pl : List Int), i + d = ord.length → pl.length = b.length →
      Ev (fun k => gas_Longest.l1 k b costs (placeG (ord.drop i) i pl) ((List.replicate b.length (-1)).set 0 (rd costs 0)) 0 ord (ord.length : Int) 0) r →
      Ev (fun k => gas_Longest.l0 k b costs ord pl ord (ord.length : Int) (i : Int)) r
  | 0, i, pl, hi, hpl, h => by
    rw [List.drop_eq_nil_of_le (by omega), placeG] at h
    refine Ev.step (fun k => ?_) h
    simp only [gas_Longest.l0]
    rw [if_neg (by omega)]
    unfold slices_Repeat_int_int.f
    rw [if_pos ⟨rfl, by omega, by omega⟩, Option.bind_some, if_pos (by omega), Int.toNat_natCast, if_pos (by rw [List.length_replicate]; omega)]
    rfl
  | d + 1, i, pl, hi, hpl, h => by
    have hlt : i < ord.length := by omega
    have hr := rd_of hlt
    obtain ⟨x, hxo, hx⟩ := ho _ (List.getElem_mem hlt)
    rw [hxo] at hr
    rw [List.drop_eq_getElem_cons hlt, hxo, placeG, Int.toNat_natCast] at h
    refine Ev.step (fun k => ?_) (l0_ev hb hord ho hcl hn d (i + 1) (pl.set x (i : Int)) (by omega) (by rw [List.length_set]; exact hpl) h)
    simp only [gas_Longest.l0]
    rw [if_pos (by omega), if_pos (by omega), if_pos (by omega), hr, if_pos (by omega), if_pos (by omega), w1 i (by omega), Int.toNat_natCast]
end
end Go.Proofs.Ytpfbfnbffglbkaa.P
