/- Which block stands over which: the plain part. -/
import Derived.Test.YtpfbfnbffglbkaaQFlowOver
import Derived.Test.YtpfbfnbffglbkaaFlowO
set_option linter.unusedVariables false
set_option linter.unusedSimpArgs false
namespace Go.Proofs.Ytpfbfnbffglbkaa.Pure
open Go.RowKit Go.Proofs.Ytpfbfnbffglbkaa.P Go.Proofs.YtpfbfnbffglbkaaW.PrintWords Go.Proofs.YtpfbfnbffglbkaaW.PrintLast Go.Proofs.YtpfbfnbffglbkaaW.PrintMore
def rb (l : List Bool) (i : Nat) : Bool := l.getD i false
theorem rdOf_nat (l : List Bool) (i : Nat) : rdOf false l (i : Int) = rb l i := by unfold rdOf rb; rw [Int.toNat_natCast]
theorem rb_seen {l : List Bool} {i : Nat} : rb l i = true ↔ l[i]? = some true := by
  unfold rb
  rw [List.getD_eq_getElem?_getD]
  cases h : l[i]? with
  | none => simp
  | some v => simp
/-- A row told by a function. -/
def mk {α : Type} (n : Nat) (f : Nat → α) : List α := (List.range n).map f
theorem mk_len {α : Type} (n : Nat) (f : Nat → α) : (mk n f).length = n := by unfold mk; simp
theorem mk_get {α : Type} (n : Nat) (f : Nat → α) (i : Nat) (hi : i < n) : (mk n f)[i]? = some (f i) := by
  unfold mk
  rw [List.getElem?_map, List.getElem?_range hi]
  rfl
theorem mk_ext {α : Type} (n : Nat) (l : List α) (f : Nat → α) (hl : l.length = n) (h : ∀ i, i < n → l[i]? = some (f i)) : l = mk n f := by
  apply List.ext_getElem?
  intro i
  by_cases hi : i < n
  · rw [h i hi, mk_get n f i hi]
  · rw [List.getElem?_eq_none (by omega), List.getElem?_eq_none (by rw [mk_len]; omega)]
theorem mk_set {α : Type} (n : Nat) (f : Nat → α) (i : Nat) (v : α) (hi : i < n) : (mk n f).set i v = mk n (fun j => if j = i then v else f j) := by
  apply mk_ext n
  · rw [List.length_set, mk_len]
  · intro j hj
    by_cases e : j = i
    · subst e
      rw [List.getElem?_set_self (by rw [mk_len]; exact hj), if_pos rfl]
    · rw [List.getElem?_set_ne (fun h => e h.symm), mk_get n f j hj, if_neg e]
theorem mk_congr {α : Type} {n : Nat} {f g : Nat → α} (h : ∀ i, i < n → f i = g i) : mk n f = mk n g := mk_ext n _ g (mk_len n f) (fun i hi => by rw [mk_get n f i hi, h i hi])
theorem mk_rep {α : Type} (n : Nat) (v : α) : List.replicate n v = mk n (fun _ => v) := mk_ext n _ _ List.length_replicate (fun i hi => by rw [List.getElem?_replicate, if_pos hi])
theorem mk_rd (n : Nat) (f : Nat → Int) (i : Nat) (hi : i < n) : rd (mk n f) (i : Int) = f i := by
  unfold rd
  rw [Int.toNat_natCast, List.getD_eq_getElem?_getD, mk_get n f i hi]
  rfl
theorem mk_rb (n : Nat) (f : Nat → Bool) (i : Nat) (hi : i < n) : rdOf false (mk n f) (i : Int) = f i := by
  rw [rdOf_nat]
  unfold rb
  rw [List.getD_eq_getElem?_getD, mk_get n f i hi]
  rfl
theorem mk_L (n : Nat) (f : Nat → List Bool) (i : Nat) (hi : i < n) : rd_L7 (mk n f) (i : Int) = f i := by
  unfold rd_L7
  rw [Int.toNat_natCast, List.getD_eq_getElem?_getD, mk_get n f i hi]
  rfl
/-- Does d stand over i? -/
def tB (b : List S30) (d i : Nat) : Bool := rb (walkB b (-1)).1 i && rb (walkB b (-1)).1 d && !(rb (walkB b (d : Int)).1 i)
def rowT (b : List S30) (d : Nat) : List Bool := mk b.length (tB b d)
def tabT (b : List S30) : List (List Bool) := mk b.length (rowT b)
def nrT (b : List S30) (d i : Nat) : Nat → Nat → Bool → Bool
  | 0, _, acc => acc
  | c + 1, e, acc => nrT b d i c (e + 1) (if e ≠ i ∧ tB b e i = true ∧ tB b e d = false then false else acc)
def candT (b : List S30) (d i : Nat) : Bool := decide (d ≠ i) && tB b d i && nrT b d i b.length 0 true
def lastT (b : List S30) (i : Nat) : Nat → Int
  | 0 => -1
  | d + 1 => if candT b d i = true then (d : Int) else lastT b i d
theorem nrT_iff (b : List S30) (d i : Nat) : ∀ (c e : Nat) (acc : Bool), nrT b d i c e acc = true ↔ (acc = true ∧ ∀ e', e ≤ e' → e' < e + c → e' ≠ i → tB b e' i = true → tB b e' d = true)
  | 0, e, acc => by
    rw [nrT]
    constructor
    · exact fun h => ⟨h, fun e' h1 h2 => by omega⟩
    · exact fun h => h.1
  | c + 1, e, acc => by
    rw [nrT, nrT_iff b d i c (e + 1)]
    by_cases hb : e ≠ i ∧ tB b e i = true ∧ tB b e d = false
    · rw [if_pos hb]
      constructor
      · rintro ⟨h, _⟩; cases h
      · rintro ⟨_, h⟩
        have := h e (Nat.le_refl _) (by omega) hb.1 hb.2.1
        rw [hb.2.2] at this
        cases this
    · rw [if_neg hb]
      constructor
      · rintro ⟨h1, h2⟩
        refine ⟨h1, fun e' h3 h4 h5 h6 => ?_⟩
        by_cases ee : e' = e
        · subst ee
          cases hd : tB b e' d with
          | true => rfl
          | false => exact absurd ⟨h5, h6, hd⟩ hb
        · exact h2 e' (by omega) (by omega) h5 h6
      · rintro ⟨h1, h2⟩
        exact ⟨h1, fun e' h3 h4 => h2 e' (by omega) (by omega)⟩
section
variable (b : List S30) (hb : b.length ≤ 60) (r : List Int)
/-- The row so far. -/
def outT (b : List S30) (i d : Nat) : List Int := mk b.length (fun j => if j = i then lastT b i d else if j < i then lastT b j b.length else 0)
include hb
theorem l4_ev (i d : Nat) (hi : i < b.length) (hd : d < b.length) (hne : d ≠ i) (htd : tB b d i = true) (ih : Ev (fun k => pianolaref08_Over.l3 k b (outT b i (d + 1)) (tabT b) (i : Int) ((d + 1 : Nat) : Int)) r) : ∀ (c e : Nat) (acc : Bool), e + c = b.length →
    nrT b d i c e acc = nrT b d i b.length 0 true → Ev (fun k => pianolaref08_Over.l4 k b (outT b i d) (tabT b) (i : Int) (d : Int) acc (e : Int)) r
  | 0, e, acc, he, hacc => by
    rw [nrT] at hacc
    have hl : (outT b i d).length = b.length := mk_len _ _
    have hc : candT b d i = acc := by unfold candT; rw [htd, decide_eq_true hne, ← hacc]; rfl
    refine Ev.step (fun k => ?_) ih
    simp only [pianolaref08_Over.l4]
    rw [if_neg (by omega)]
    have hs : outT b i (d + 1) = if acc = true then (outT b i d).set i (d : Int) else outT b i d := by
      unfold outT
      cases acc with
      | true =>
        rw [if_pos rfl, mk_set _ _ _ _ hi]
        refine mk_congr fun j hj => ?_
        rw [lastT, hc, if_pos rfl]
        by_cases e : j = i
        · rw [if_pos e, if_pos e]
        · rw [if_neg e, if_neg e, if_neg e]
      | false =>
        rw [if_neg (by simp)]
        refine mk_congr fun j hj => ?_
        rw [lastT, hc]
        rfl
    rw [hs]
    cases acc with
    | true => rw [if_pos rfl, if_pos (by omega), if_pos (by omega), if_pos rfl, Int.toNat_natCast, w1 d (by omega)]
    | false => rw [if_neg (by simp), if_neg (by simp), w1 d (by omega)]
  | c + 1, e, acc, he, hacc => by
    have he1 : e < b.length := by omega
    have ht : (tabT b).length = b.length := mk_len _ _
    have hrow : rd_L7 (tabT b) (e : Int) = rowT b e := mk_L _ _ _ he1
    have hrl : (rowT b e).length = b.length := mk_len _ _
    have hti : rdOf false (rowT b e) (i : Int) = tB b e i := mk_rb _ _ _ hi
    have htd2 : rdOf false (rowT b e) (d : Int) = tB b e d := mk_rb _ _ _ hd
    rw [nrT] at hacc
    refine Ev.step (fun k => ?_) (l4_ev i d hi hd hne htd ih c (e + 1) _ (by omega) hacc)
    simp only [pianolaref08_Over.l4]
    rw [if_pos (by omega)]
    by_cases e1 : e = i
    · rw [if_pos (by omega), if_neg (fun h => h.1 e1), w1 e (by omega)]
    · rw [if_neg (by omega), if_pos (by omega), if_pos (by omega), if_pos (by omega), hrow, if_pos (by omega), hti]
      cases h1 : tB b e i with
      | false => rw [if_neg (by simp), if_neg (fun h => by cases h.2.1), w1 e (by omega)]
      | true =>
        rw [if_pos rfl, if_pos (by omega), if_pos (by omega), htd2]
        cases h2 : tB b e d with
        | true => rw [if_pos rfl, if_neg (fun h => by cases h.2.2), w1 e (by omega)]
        | false => rw [if_neg (by simp), if_pos ⟨e1, rfl, rfl⟩, w1 e (by omega)]
theorem l3_ev (i : Nat) (hi : i < b.length) (ih : Ev (fun k => pianolaref08_Over.l2 k b (outT b i b.length) (tabT b) ((i + 1 : Nat) : Int)) r) : ∀ (c d : Nat), d + c = b.length → Ev (fun k => pianolaref08_Over.l3 k b (outT b i d) (tabT b) (i : Int) (d : Int)) r
  | 0, d, hd => by
    have : d = b.length := by omega
    subst this
    refine Ev.step (fun k => ?_) ih
    simp only [pianolaref08_Over.l3]
    rw [if_neg (by omega), w1 i (by omega)]
  | c + 1, d, hd => by
    have hd1 : d < b.length := by omega
    have hnext := l3_ev i hi ih c (d + 1) (by omega)
    have ht : (tabT b).length = b.length := mk_len _ _
    have hrow : rd_L7 (tabT b) (d : Int) = rowT b d := mk_L _ _ _ hd1
    have hrl : (rowT b d).length = b.length := mk_len _ _
    have hti : rdOf false (rowT b d) (i : Int) = tB b d i := mk_rb _ _ _ hi
    have skip : candT b d i = false → outT b i (d + 1) = outT b i d := by
      intro h
      unfold outT
      refine mk_congr fun j hj => ?_
      rw [lastT, h]
      rfl
    by_cases e : d = i
    · have hc : candT b d i = false := by unfold candT; rw [decide_eq_false (fun h => h e)]; rfl
      rw [skip hc] at hnext
      obtain ⟨K, hnext⟩ := hnext
      refine ⟨K + 2, fun k hk => ?_⟩
      obtain ⟨k, rfl⟩ : ∃ m, k = m + 2 := ⟨k - 2, by omega⟩
      refine Eq.trans ?_ (hnext k (by omega))
      show pianolaref08_Over.l3 (k + 2) b (outT b i d) (tabT b) (i : Int) (d : Int) = _
      simp only [pianolaref08_Over.l3]
      rw [if_pos (by omega), if_pos (by omega)]
      simp only [pianolaref08_Over.j4]
      rw [if_pos trivial, w1 d (by omega)]
    · have head : ∀ k, pianolaref08_Over.l3 (k + 2) b (outT b i d) (tabT b) (i : Int) (d : Int) = if (!(tB b d i)) = true then pianolaref08_Over.l3 k b (outT b i d) (tabT b) (i : Int) ((d + 1 : Nat) : Int) else pianolaref08_Over.l4 k b (outT b i d) (tabT b) (i : Int) (d : Int) true ((0 : Nat) : Int) := by
        intro k
        simp only [pianolaref08_Over.l3]
        rw [if_pos (by omega), if_neg (by omega), if_pos (by omega), if_pos (by omega), if_pos (by omega), hrow, if_pos (by omega), hti]
        simp only [pianolaref08_Over.j4]
        rw [w1 d (by omega)]
        rfl
      cases h1 : tB b d i with
      | false =>
        have hc : candT b d i = false := by unfold candT; rw [h1]; simp
        rw [skip hc] at hnext
        obtain ⟨K, hnext⟩ := hnext
        refine ⟨K + 2, fun k hk => ?_⟩
        obtain ⟨k, rfl⟩ : ∃ m, k = m + 2 := ⟨k - 2, by omega⟩
        refine Eq.trans ?_ (hnext k (by omega))
        show pianolaref08_Over.l3 (k + 2) b (outT b i d) (tabT b) (i : Int) (d : Int) = _
        rw [head k, h1, if_pos (by simp)]
      | true =>
        obtain ⟨K, h4⟩ := l4_ev b hb r i d hi hd1 e h1 hnext b.length 0 true (by omega) rfl
        refine ⟨K + 2, fun k hk => ?_⟩
        obtain ⟨k, rfl⟩ : ∃ m, k = m + 2 := ⟨k - 2, by omega⟩
        refine Eq.trans ?_ (h4 k (by omega))
        show pianolaref08_Over.l3 (k + 2) b (outT b i d) (tabT b) (i : Int) (d : Int) = _
        rw [head k, h1, if_neg (by simp)]
/-- The reference's answer. -/
def refT (b : List S30) : List Int := mk b.length (fun i => lastT b i b.length)
theorem l2_ev : ∀ (c i : Nat), i + c = b.length → Ev (fun k => pianolaref08_Over.l2 k b (mk b.length (fun j => if j < i then lastT b j b.length else 0)) (tabT b) (i : Int)) (refT b)
  | 0, i, hi => by
    have e : mk b.length (fun j => if j < i then lastT b j b.length else 0) = refT b := mk_congr fun j hj => by rw [if_pos (by omega)]
    refine ⟨1, fun k hk => ?_⟩
    obtain ⟨k, rfl⟩ : ∃ m, k = m + 1 := ⟨k - 1, by omega⟩
    simp only [pianolaref08_Over.l2]
    rw [if_neg (by omega), e]
  | c + 1, i, hi => by
    have hi1 : i < b.length := by omega
    have ih := l2_ev c (i + 1) (by omega)
    have e1 : mk b.length (fun j => if j < i + 1 then lastT b j b.length else 0) = outT b i b.length := by
      unfold outT
      refine mk_congr fun j hj => ?_
      by_cases e : j = i
      · subst e
        rw [if_pos (by omega), if_pos rfl]
      · rw [if_neg e]
        by_cases e2 : j < i
        · rw [if_pos (by omega), if_pos e2]
        · rw [if_neg (by omega), if_neg e2]
    rw [e1] at ih
    have h3 := l3_ev b hb (refT b) i hi1 ih b.length 0 (by omega)
    refine Ev.step (fun k => ?_) h3
    simp only [pianolaref08_Over.l2]
    rw [if_pos (by omega), if_pos (by omega), if_pos (by rw [mk_len]; omega), Int.toNat_natCast, mk_set _ _ _ _ hi1]
    rfl
/-- The table so far. -/
def rowsT (b : List S30) (d : Nat) (R : List Bool) : List (List Bool) := mk b.length (fun j => if j = d then R else if j < d then rowT b j else [])
theorem l1_ev (hb0 : 0 < b.length) (d : Nat) (hd : d < b.length) (out : List Int) (ih : Ev (fun k => pianolaref08_Over.l0 k b out (walkB b (-1)).1 (rowsT b d (rowT b d)) ((d + 1 : Nat) : Int)) r) : ∀ (c i : Nat), i + c = b.length →
    Ev (fun k => pianolaref08_Over.l1 k b out (walkB b (-1)).1 (rowsT b d (mk b.length (fun j => if j < i then tB b d j else false))) (d : Int) (walkB b (d : Int)).1 (i : Int)) r
  | 0, i, hi => by
    have e : mk b.length (fun j => if j < i then tB b d j else false) = rowT b d := mk_congr fun j hj => by rw [if_pos (by omega)]
    rw [e]
    refine Ev.step (fun k => ?_) ih
    simp only [pianolaref08_Over.l1]
    rw [if_neg (by omega), w1 d (by omega)]
  | c + 1, i, hi => by
    have hi1 : i < b.length := by omega
    have ih2 := l1_ev hb0 d hd out ih c (i + 1) (by omega)
    obtain ⟨R, hR⟩ : ∃ R, mk b.length (fun j => if j < i then tB b d j else false) = R := ⟨_, rfl⟩
    have hRl : R.length = b.length := by rw [← hR, mk_len]
    have hset : ∀ v, v = tB b d i → (rowsT b d R).set d (R.set i v) = rowsT b d (mk b.length (fun j => if j < i + 1 then tB b d j else false)) := by
      rintro v rfl
      unfold rowsT
      rw [mk_set _ _ _ _ hd]
      refine mk_congr fun j hj => ?_
      by_cases e : j = d
      · rw [if_pos e, if_pos e, ← hR, mk_set _ _ _ _ hi1]
        refine mk_congr fun q hq => ?_
        by_cases e2 : q = i
        · subst e2
          rw [if_pos rfl, if_pos (by omega)]
        · rw [if_neg e2]
          by_cases e3 : q < i
          · rw [if_pos e3, if_pos (by omega)]
          · rw [if_neg e3, if_neg (by omega)]
      · rw [if_neg e, if_neg e, if_neg e]
    have hrw : rd_L7 (rowsT b d R) (d : Int) = R := by
      have := mk_L b.length (fun j => if j = d then R else if j < d then rowT b j else []) d hd
      rw [if_pos rfl] at this
      exact this
    have hrl : (rowsT b d R).length = b.length := mk_len _ _
    have hwl := walkB_len b
    have hwl2 := walkB_len' b hb0 (d : Int)
    rw [hR]
    refine Ev.step (fun k => ?_) ih2
    simp only [pianolaref08_Over.l1]
    rw [if_pos (by omega), if_pos (by omega), if_pos (by omega), if_pos (by omega), if_pos (by omega), rdOf_nat, hrw, Int.toNat_natCast, Int.toNat_natCast, w1 i (by omega)]
    cases h1 : rb (walkB b (-1)).1 i with
    | false =>
      rw [if_neg (by simp), if_pos (by omega), hset false (by unfold tB; rw [h1]; rfl)]
    | true =>
      rw [if_pos rfl, if_pos (by omega), rdOf_nat]
      cases h2 : rb (walkB b (-1)).1 d with
      | false => rw [if_neg (by simp), if_pos (by omega), hset false (by unfold tB; rw [h1, h2]; rfl)]
      | true => rw [if_pos rfl, if_pos (by omega), if_pos (by omega), rdOf_nat, hset _ (by unfold tB; rw [h1, h2]; rfl)]
theorem l0_ev2 (hb0 : 0 < b.length) : ∀ (c d : Nat), d + c = b.length → Ev (fun k => pianolaref08_Over.l0 k b (List.replicate b.length 0) (walkB b (-1)).1 (mk b.length (fun j => if j < d then rowT b j else [])) (d : Int)) (refT b)
  | 0, d, hd => by
    have e : mk b.length (fun j => if j < d then rowT b j else []) = tabT b := mk_congr fun j hj => by rw [if_pos (by omega)]
    have e2 : List.replicate b.length (0 : Int) = mk b.length (fun j => if j < 0 then lastT b j b.length else 0) := by rw [mk_rep]; exact mk_congr fun j hj => by rw [if_neg (by omega)]
    rw [e]
    refine Ev.step (fun k => ?_) (l2_ev b hb b.length 0 (by omega))
    simp only [pianolaref08_Over.l0]
    rw [if_neg (by omega), ← e2]
    rfl
  | c + 1, d, hd => by
    have hd1 : d < b.length := by omega
    have ih := l0_ev2 hb0 c (d + 1) (by omega)
    have e1 : mk b.length (fun j => if j < d + 1 then rowT b j else []) = rowsT b d (rowT b d) := by
      unfold rowsT
      refine mk_congr fun j hj => ?_
      by_cases e : j = d
      · subst e
        rw [if_pos (by omega), if_pos rfl]
      · rw [if_neg e]
        by_cases e2 : j < d
        · rw [if_pos (by omega), if_pos e2]
        · rw [if_neg (by omega), if_neg e2]
    rw [e1] at ih
    have h1 := l1_ev b hb (refT b) hb0 d hd1 (List.replicate b.length 0) ih b.length 0 (by omega)
    have e2 : mk b.length (fun j => if j < 0 then tB b d j else false) = List.replicate b.length false := by rw [mk_rep]; exact mk_congr fun j hj => by rw [if_neg (by omega)]
    rw [e2] at h1
    refine Ev.step (fun k => ?_) h1
    simp only [pianolaref08_Over.l0]
    rw [if_pos (by omega), walk_run b (d : Int) (by omega), Option.bind_some, if_pos (by omega), if_pos (by omega), if_pos (by omega), if_pos (by rw [mk_len]; omega), Int.toNat_natCast, Int.toNat_natCast, mk_set _ _ _ _ hd1]
    rfl
end
theorem ref_over (b : List S30) (hb : b.length ≤ 60) (hb0 : 0 < b.length) : Ev (fun k => pianolaref08_Over.f k b) (refT b) := by
  have h := l0_ev2 b hb hb0 b.length 0 (by omega)
  have e : mk b.length (fun j => if j < 0 then rowT b j else []) = List.replicate b.length ([] : List Bool) := by rw [mk_rep]; exact mk_congr fun j hj => by rw [if_neg (by omega)]
  rw [e] at h
  refine Ev.congr (fun k => ?_) h
  unfold pianolaref08_Over.f
  rw [if_pos (by omega), if_pos (by omega), walk_run b (-1) (by omega), Option.bind_some, if_pos (by omega), Int.toNat_natCast]
  rfl
/-! ### Both say the same -/
theorem lastT_one (b : List S30) (i y : Nat) (hy : y < b.length) (h : ∀ d, d < b.length → (candT b d i = true ↔ d = y)) : ∀ c, c ≤ b.length → lastT b i c = if y < c then (y : Int) else -1
  | 0, _ => by rw [lastT, if_neg (by omega)]
  | c + 1, hc => by
    rw [lastT, lastT_one b i y hy h c (by omega)]
    by_cases e : c = y
    · subst e
      rw [if_pos ((h c (by omega)).2 rfl), if_pos (by omega)]
    · rw [if_neg (fun h1 => e ((h c (by omega)).1 h1))]
      by_cases e2 : y < c
      · rw [if_pos e2, if_pos (by omega)]
      · rw [if_neg e2, if_neg (by omega)]
theorem lastT_none (b : List S30) (i : Nat) (h : ∀ d, d < b.length → candT b d i = false) : ∀ c, c ≤ b.length → lastT b i c = -1
  | 0, _ => rfl
  | c + 1, hc => by rw [lastT, h c (by omega), if_neg (by simp)]; exact lastT_none b i h c (by omega)
theorem tB_iff (b : List S30) (hb : 0 < b.length) (d i : Nat) (hd : d < b.length) (hi : i < b.length) : tB b d i = true ↔ ((i : Int) ∈ ordB b ∧ (d : Int) ∈ ordB b ∧ Dom (nxB b) b.length d i) := by
  have hO := ordOK_B b hb
  have h1 := hO.seen i hi
  have h2 := hO.seen d hd
  have h3 := walk_av b hb d i hi
  unfold tB
  rw [Bool.and_eq_true, Bool.and_eq_true, rb_seen, rb_seen, h1, h2, Bool.not_eq_true']
  constructor
  · rintro ⟨⟨a, c⟩, e⟩
    refine ⟨a, c, fun m hm => ?_⟩
    have := rb_seen.2 (h3.2 ⟨m, hm⟩)
    rw [this] at e
    cases e
  · rintro ⟨a, c, e⟩
    refine ⟨⟨a, c⟩, ?_⟩
    rw [← Bool.not_eq_true]
    intro h
    obtain ⟨m, hm⟩ := h3.1 (rb_seen.1 h)
    exact e m hm
theorem candT_iff (b : List S30) (d i : Nat) : candT b d i = true ↔ (d ≠ i ∧ tB b d i = true ∧ ∀ e, e < b.length → e ≠ i → tB b e i = true → tB b e d = true) := by
  unfold candT
  rw [Bool.and_eq_true, Bool.and_eq_true, decide_eq_true_eq, nrT_iff]
  constructor
  · rintro ⟨⟨a, c⟩, _, e⟩
    exact ⟨a, c, fun q hq => e q (Nat.zero_le _) (by omega)⟩
  · rintro ⟨a, c, e⟩
    exact ⟨⟨a, c⟩, rfl, fun q _ hq => e q (by omega)⟩
theorem over_same (b : List S30) (hb : 0 < b.length) (pos : Nat → Nat) (M : Nat) (hM1 : 1 ≤ M) (hM : ∀ e x, e < b.length → x < b.length → (∃ m, AvN (nxB b) b.length e m x) → AvN (nxB b) b.length e M x) (ov : List Int)
    (h : DI (nxB b) b.length pos (ordB b) M ov) : ov.set 0 (-1) = refT b := by
  have hO := ordOK_B b hb
  have dom : ∀ x e : Nat, (x : Int) ∈ ordB b → e < b.length → (Dom (nxB b) b.length e x ↔ Anc ov x e) := by
    intro x e hx he
    have hp := h.all hM1 x hx
    constructor
    · exact h.safe x e hp
    · intro ha m hm
      exact h.upto x e hp ha (hM e x he (h.lt x hx) ⟨m, hm⟩)
  apply mk_ext
  · rw [List.length_set]; exact h.len
  · intro i hi
    by_cases h0 : i = 0
    · subst h0
      rw [List.getElem?_set_self (by rw [h.len]; exact hi)]
      congr 1
      refine (lastT_none b 0 (fun d hd => ?_) b.length (Nat.le_refl _)).symm
      rw [← Bool.not_eq_true, candT_iff]
      rintro ⟨a, c, _⟩
      have := ((tB_iff b hb d 0 hd hi).1 c).2.2 0
      exact this (AvN.zero 0 a)
    · rw [List.getElem?_set_ne (fun e => h0 e.symm)]
      obtain ⟨v, hv⟩ : ∃ v, ov[i]? = some v := ⟨_, List.getElem?_eq_getElem (by rw [h.len]; exact hi)⟩
      rw [hv]
      congr 1
      rcases h.up i h0 v hv with e | ⟨y, rfl, hlt, hpy, hio, _⟩
      · subst e
        refine (lastT_none b i (fun d hd => ?_) b.length (Nat.le_refl _)).symm
        rw [← Bool.not_eq_true, candT_iff]
        rintro ⟨a, c, _⟩
        obtain ⟨y, hy⟩ := h.all hM1 i ((tB_iff b hb d i hd hi).1 c).1
        rw [hv] at hy
        injection hy with hy
        omega
      · have hyo := h.mem hpy
        have hyn := h.lt y hyo
        have hyi : y ≠ i := by rintro rfl; omega
        have hay : Anc ov i y := Anc.step hv (Anc.refl y)
        have below : ∀ e, Anc ov i e → e ≠ i → Anc ov y e := by
          intro e ha hne
          cases ha with
          | refl => exact absurd rfl hne
          | @step _ y2 _ hy2 k =>
            rw [hv] at hy2
            have : y = y2 := by injection hy2 with h; omega
            subst this
            exact k
        refine ((lastT_one b i y hyn (fun d hd => ?_) b.length (Nat.le_refl _)).trans (by rw [if_pos hyn])).symm
        rw [candT_iff]
        constructor
        · rintro ⟨a, c, e⟩
          have c2 := (tB_iff b hb d i hd hi).1 c
          have hd1 := below d ((dom i d hio hd).1 c2.2.2) a
          have e1 := e y hyn hyi ((tB_iff b hb y i hyn hi).2 ⟨hio, hyo, (dom i y hio hyn).2 hay⟩)
          have e2 := ((tB_iff b hb y d hyn hd).1 e1).2.2
          have hd2 := (dom d y c2.2.1 hyn).1 e2
          exact h.anti (h.all hM1 d c2.2.1) hd2 hd1
        · rintro rfl
          refine ⟨hyi, (tB_iff b hb d i hd hi).2 ⟨hio, hyo, (dom i d hio hd).2 hay⟩, fun e he hne hte => ?_⟩
          have t2 := (tB_iff b hb e i he hi).1 hte
          have ha := below e ((dom i e hio he).1 t2.2.2) hne
          exact (tB_iff b hb e d he hd).2 ⟨hyo, t2.2.1, (dom d e hyo he).2 ha⟩
/-! ### The law -/
theorem same_ev (l : List Int) (hl : l.length ≤ 100) : ∀ (d i : Nat), i + d = l.length → Ev (fun k => pianolalaw08_sameInts.l0 k l l (i : Int)) true
  | 0, i, hi => by
    refine ⟨1, fun k hk => ?_⟩
    obtain ⟨k, rfl⟩ : ∃ m, k = m + 1 := ⟨k - 1, by omega⟩
    simp only [pianolalaw08_sameInts.l0]
    rw [if_neg (by omega)]
  | d + 1, i, hi => by
    refine Ev.step (fun k => ?_) (same_ev l hl d (i + 1) (by omega))
    simp only [pianolalaw08_sameInts.l0]
    rw [if_pos (by omega), if_pos (by omega), if_pos (by omega), if_pos trivial, w1 i (by omega)]
section
variable (b : List S30) (hb : b.length ≤ 60) (ord : List Int) (ho : ∀ x ∈ ord, ∃ j : Nat, x = (j : Int) ∧ j < b.length) (hol : ord.length ≤ b.length) (ov : List Int) (hov : ov.length = b.length)
include hb ho hol hov
theorem law_l1 (pl : List Int) (hpl : pl.length = b.length) (hgood : ∀ (i : Nat) (hi : i < ord.length) (x y : Nat), ord[i] = (x : Int) → rd ov (x : Int) = (y : Int) → y < b.length ∧ rd pl (y : Int) < (i : Int)) : ∀ (d i : Nat), i + d = ord.length →
    Ev (fun k => pianolalaw08_FlowOver.l1 k ov pl ord (i : Int)) true
  | 0, i, hi => by
    refine ⟨1, fun k hk => ?_⟩
    obtain ⟨k, rfl⟩ : ∃ m, k = m + 1 := ⟨k - 1, by omega⟩
    simp only [pianolalaw08_FlowOver.l1]
    rw [if_neg (by omega)]
  | d + 1, i, hi => by
    have hlt : i < ord.length := by omega
    have hr := rd_of hlt
    obtain ⟨x, hxo, hx⟩ := ho _ (List.getElem_mem hlt)
    rw [hxo] at hr
    refine Ev.step (fun k => ?_) (law_l1 pl hpl hgood d (i + 1) (by omega))
    simp only [pianolalaw08_FlowOver.l1]
    rw [if_pos (by omega), if_pos (by omega), hr, if_pos (by omega), if_pos (by omega), w1 i (by omega)]
    by_cases h0 : rd ov (x : Int) ≥ 0
    · obtain ⟨y, hy⟩ : ∃ y : Nat, rd ov (x : Int) = (y : Int) := ⟨(rd ov (x : Int)).toNat, by omega⟩
      have := hgood i hlt x y hxo hy
      rw [hy, if_pos (by omega), if_pos (by omega), if_pos (by omega), if_neg (by omega)]
    · rw [if_neg h0]
theorem law_l0 : ∀ (d i : Nat) (pl : List Int), i + d = ord.length → pl.length = b.length → Ev (fun k => pianolalaw08_FlowOver.l1 k ov (placeG (ord.drop i) i pl) ord 0) true → Ev (fun k => pianolalaw08_FlowOver.l0 k ov pl ord (i : Int)) true
  | 0, i, pl, hi, hpl, h => by
    have _u := hov
    rw [List.drop_eq_nil_of_le (by omega), placeG] at h
    refine Ev.step (fun k => ?_) h
    simp only [pianolalaw08_FlowOver.l0]
    rw [if_neg (by omega)]
  | d + 1, i, pl, hi, hpl, h => by
    have hlt : i < ord.length := by omega
    have hr := rd_of hlt
    obtain ⟨x, hxo, hx⟩ := ho _ (List.getElem_mem hlt)
    rw [hxo] at hr
    rw [List.drop_eq_getElem_cons hlt, hxo, placeG, Int.toNat_natCast] at h
    refine Ev.step (fun k => ?_) (law_l0 d (i + 1) (pl.set x (i : Int)) (by omega) (by rw [List.length_set]; exact hpl) h)
    simp only [pianolalaw08_FlowOver.l0]
    rw [if_pos (by omega), if_pos (by omega), hr, if_pos (by omega), if_pos (by omega), w1 i (by omega), Int.toNat_natCast]
end
theorem FlowOver (x0 : List S30) (h0 : (behR x0 x0.length x0.length 0).length ≤ 1000000000000) : ∃ k, pianolalaw08_FlowOver.f k x0 = some true := by
  have hlives : pianolalaw08_lives.f = some true := rfl
  by_cases hl : (x0.length : Int) > 60
  · refine ⟨0, ?_⟩
    unfold pianolalaw08_FlowOver.f
    rw [if_pos hl, hlives]
    rfl
  · by_cases hn : x0.length = 0
    · have e : x0 = [] := List.length_eq_zero_iff.1 hn
      subst e
      refine ⟨60, ?_⟩
      unfold pianolalaw08_FlowOver.f
      rw [if_neg (by simp), hlives]
      kernel_rfl
    · apply Ev.rounds
      unfold pianolalaw08_FlowOver.f
      simp only [if_neg hl, hlives]
      obtain ⟨pos, M, ov, K, hP, hM1, hM, hDI, hf⟩ := over_run x0 (by omega) (by omega) h0
      have hO := ordOK_B x0 (by omega)
      have hsame := over_same x0 (by omega) pos M hM1 hM ov hDI
      refine Ev.bind (a := ov.set 0 (-1)) ⟨K, hf⟩ ?_
      simp only [Option.bind_some, if_true]
      refine Ev.bind (ref_over x0 (by omega) (by omega)) ?_
      rw [← hsame]
      have hlen : (ov.set 0 (-1)).length = x0.length := by rw [List.length_set]; exact hDI.len
      refine Ev.bind (a := true) ?_ ?_
      · have := same_ev (ov.set 0 (-1)) (by omega) (ov.set 0 (-1)).length 0 (by omega)
        refine Ev.congr (fun k => ?_) this
        unfold pianolalaw08_sameInts.f
        rw [if_pos rfl]
        rfl
      · have e1 := law_l1 x0 (by omega) (ordB x0) hO.isNat hO.le (ov.set 0 (-1)) hlen (placeG (ordB x0) 0 (List.replicate x0.length 0)) hP.len (fun i hi x y hx hy => by
          have hxo : (x : Int) ∈ ordB x0 := by rw [← hx]; exact List.getElem_mem hi
          have hxn := hDI.lt x hxo
          have hpx := hP.at_ x hxo
          have hpi : pos x = i := by
            have a := hpx.2.2
            rw [List.getElem?_eq_getElem hpx.2.1] at a
            exact (List.getElem_inj hO.nd).1 ((Option.some.inj a).trans hx.symm)
          have hx0 : x ≠ 0 := by
            rintro rfl
            rw [rd_set (by rw [hDI.len]; exact hxn), if_pos rfl] at hy
            omega
          rw [rd_set (by rw [hDI.len]; omega), if_neg hx0] at hy
          have hv := rd_get_eq hDI.len hxn hy
          rcases hDI.up x hx0 _ hv with e | ⟨y', e, hlt, hpy, _, _⟩
          · omega
          · have : y = y' := by omega
            subst this
            have hyo := hDI.mem hpy
            have := hP.at_ y hyo
            exact ⟨hDI.lt y hyo, by omega⟩) (ordB x0).length 0 (by omega)
        have e0 := law_l0 x0 (by omega) (ordB x0) hO.isNat hO.le (ov.set 0 (-1)) hlen (ordB x0).length 0 (List.replicate x0.length 0) (by omega) List.length_replicate (by rw [List.drop_zero]; exact e1)
        refine Ev.step (fun k => ?_) e0
        simp only [pianolalaw08_FlowOver.j0]
        rw [if_neg (by simp), if_pos (by omega), if_pos (by omega), order_run x0 (by omega), Option.bind_some, Int.toNat_natCast]
        rfl
end Go.Proofs.Ytpfbfnbffglbkaa.Pure
