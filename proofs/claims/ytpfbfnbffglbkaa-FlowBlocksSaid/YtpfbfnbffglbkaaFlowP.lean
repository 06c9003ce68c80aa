import Derived.Test.YtpfbfnbffglbkaaPF14
import Derived.Test.YtpfbfnbffglbkaaPF17
import Derived.Test.YtpfbfnbffglbkaaPF15
/- What flow.Blocks reckons: plain; no statement of the seat. -/
set_option linter.unusedVariables false
set_option linter.unusedSimpArgs false
namespace Go.Proofs.Ytpfbfnbffglbkaa.P
open Go.RowKit Go.Proofs.YtpfbfnbffglbkaaW.PrintWords Go.Proofs.YtpfbfnbffglbkaaW.PrintLast Go.Proofs.YtpfbfnbffglbkaaW.PrintMore
theorem midw (i j : Nat) (h : i + j ≤ 100000) : wrap64 ((IntKind.u64.wrap (wrap64 ((i : Int) + (j : Int)))) / 2) = (((i + j) / 2 : Nat) : Int) := by
  have h1 : wrap64 ((i : Int) + (j : Int)) = ((i + j : Nat) : Int) := by unfold wrap64; omega
  have h2 : IntKind.u64.wrap ((i + j : Nat) : Int) = ((i + j : Nat) : Int) := by
    simp [IntKind.wrap, IntKind.bits, IntKind.signed]
    omega
  rw [h1, h2]
  unfold wrap64
  omega
theorem less_run (a b : Int) : cmp_Less_int.f a b = some (decide (a < b)) := by
  unfold cmp_Less_int.f cmp_isNaN_int.f
  simp
theorem w1 (i : Nat) (h : i ≤ 100000) : wrap64 ((i : Int) + 1) = ((i + 1 : Nat) : Int) := by unfold wrap64; omega
def RiseL (l : List Int) : Prop := ∀ m : Nat, 1 ≤ m → m < l.length → rd l ((m - 1 : Nat) : Int) < rd l (m : Int)
theorem RiseL.lt {l : List Int} (h : RiseL l) : ∀ (d i : Nat), i + d + 1 < l.length → rd l (i : Int) < rd l ((i + d + 1 : Nat) : Int)
  | 0, i, hl => by have := h (i + 1) (by omega) (by omega); rw [Nat.add_sub_cancel] at this; exact this
  | d + 1, i, hl => by
    have h1 := RiseL.lt h d i (by omega)
    have h2 := h (i + d + 1 + 1) (by omega) (by omega)
    rw [Nat.add_sub_cancel] at h2
    exact Int.lt_trans h1 h2
theorem RiseL.le {l : List Int} (h : RiseL l) (i j : Nat) (hij : i ≤ j) (hj : j < l.length) : rd l (i : Int) ≤ rd l (j : Int) := by
  by_cases e : i = j
  · subst e; omega
  · have h1 := h.lt (j - i - 1) i (by omega)
    rw [show i + (j - i - 1) + 1 = j by omega] at h1
    omega
theorem bs_loop (l : List Int) (x : Int) (hl : l.length ≤ 10000) (hs : RiseL l) :
    ∀ (d k i j : Nat), i ≤ j → j ≤ l.length → j - i ≤ d → d < k → (∀ m : Nat, m < i → rd l (m : Int) < x) → (∀ m : Nat, j ≤ m → m < l.length → ¬ rd l (m : Int) < x) →
      ∃ p : Nat, p ≤ l.length ∧ slices_BinarySearch_int_int.l0 k l x (l.length : Int) (i : Int) (j : Int) = some ((p : Int), decide (p < l.length ∧ rd l (p : Int) = x)) ∧ (∀ m : Nat, m < p → rd l (m : Int) < x) ∧ (∀ m : Nat, p ≤ m → m < l.length → ¬ rd l (m : Int) < x) := by
  have hend : ∀ (k i : Nat), 0 < k → i ≤ l.length → (∀ m : Nat, m < i → rd l (m : Int) < x) → (∀ m : Nat, i ≤ m → m < l.length → ¬ rd l (m : Int) < x) →
      ∃ p : Nat, p ≤ l.length ∧ slices_BinarySearch_int_int.l0 k l x (l.length : Int) (i : Int) (i : Int) = some ((p : Int), decide (p < l.length ∧ rd l (p : Int) = x)) ∧ (∀ m : Nat, m < p → rd l (m : Int) < x) ∧ (∀ m : Nat, p ≤ m → m < l.length → ¬ rd l (m : Int) < x) := by
    intro k i hk hi h1 h2
    obtain ⟨k, rfl⟩ : ∃ k', k = k' + 1 := ⟨k - 1, by omega⟩
    refine ⟨i, hi, ?_, h1, h2⟩
    rw [slices_BinarySearch_int_int.l0, if_neg (by omega)]
    by_cases hlt : i < l.length
    · rw [if_pos (by omega), if_pos (by omega), if_pos (by omega)]
      by_cases he : rd l (i : Int) = x
      · rw [if_pos he]
        simp [hlt, he]
      · rw [if_neg he]
        unfold slices_isNaN_int.f
        simp [he]
    · rw [if_neg (by omega)]
      simp [hlt]
  intro d
  induction d with
  | zero =>
    intro k i j hij hj hd hk h1 h2
    obtain rfl : i = j := by omega
    exact hend k i hk hj h1 h2
  | succ d ih =>
    intro k i j hij hj hd hk h1 h2
    by_cases hlt : i < j
    · obtain ⟨k, rfl⟩ : ∃ k', k = k' + 1 := ⟨k - 1, by omega⟩
      rw [slices_BinarySearch_int_int.l0, if_pos (by omega), midw i j (by omega), if_pos (by omega), if_pos (by omega), less_run, Option.bind_some]
      have hm : (i + j) / 2 < l.length := by omega
      by_cases hx : rd l (((i + j) / 2 : Nat) : Int) < x
      · rw [if_pos (by simpa using hx), w1 _ (by omega)]
        refine ih k ((i + j) / 2 + 1) j (by omega) hj (by omega) (by omega) (fun m hm' => ?_) h2
        exact Int.lt_of_le_of_lt (hs.le m ((i + j) / 2) (by omega) hm) hx
      · rw [if_neg (by simpa using hx)]
        refine ih k i ((i + j) / 2) (by omega) (by omega) (by omega) (by omega) h1 (fun m hm' hml => ?_)
        have := hs.le ((i + j) / 2) m hm' hml
        omega
    · obtain rfl : i = j := by omega
      exact hend k i (by omega) hj h1 h2
/-- slices.BinarySearch over what rises. -/
theorem bs_run (l : List Int) (x : Int) (hl : l.length ≤ 10000) (hs : RiseL l) (k : Nat) (hk : l.length < k) :
    ∃ p : Nat, p ≤ l.length ∧ slices_BinarySearch_int_int.f k l x = some ((p : Int), decide (p < l.length ∧ rd l (p : Int) = x)) ∧ (∀ m : Nat, m < p → rd l (m : Int) < x) ∧ (∀ m : Nat, p ≤ m → m < l.length → ¬ rd l (m : Int) < x) := by
  unfold slices_BinarySearch_int_int.f
  exact bs_loop l x hl hs l.length k 0 l.length (by omega) (by omega) (by omega) hk (fun m h => by omega) (fun m h h' => by omega)
theorem rise_loop (l : List Int) (hl : l.length ≤ 10000) : ∀ (d k i : Nat), 1 ≤ i → l.length ≤ i + d → d < k →
    ∃ b, flow_rise.l0 k l (i : Int) = some b ∧ (b = true ↔ ∀ m : Nat, i ≤ m → m < l.length → rd l ((m - 1 : Nat) : Int) < rd l (m : Int)) := by
  intro d
  induction d with
  | zero =>
    intro k i hi hd hk
    obtain ⟨k, rfl⟩ : ∃ k', k = k' + 1 := ⟨k - 1, by omega⟩
    rw [flow_rise.l0, if_neg (by omega)]
    exact ⟨true, rfl, ⟨fun _ m h1 h2 => by omega, fun _ => rfl⟩⟩
  | succ d ih =>
    intro k i hi hd hk
    obtain ⟨k, rfl⟩ : ∃ k', k = k' + 1 := ⟨k - 1, by omega⟩
    by_cases hlt : i < l.length
    · have hw : wrap64 ((i : Int) - 1) = ((i - 1 : Nat) : Int) := by unfold wrap64; omega
      rw [flow_rise.l0, if_pos (by omega), if_pos (by omega), hw, if_pos (by omega), if_pos (by omega)]
      by_cases hx : rd l (i : Int) ≤ rd l ((i - 1 : Nat) : Int)
      · rw [if_pos hx]
        refine ⟨false, rfl, ⟨fun h => absurd h (by decide), fun h => ?_⟩⟩
        have := h i (by omega) hlt
        omega
      · rw [if_neg hx, w1 i (by omega)]
        obtain ⟨b, h1, h2⟩ := ih k (i + 1) (by omega) (by omega) (by omega)
        refine ⟨b, h1, h2.trans ⟨fun h m hm hml => ?_, fun h m hm hml => h m (by omega) hml⟩⟩
        by_cases e : m = i
        · subst e; omega
        · exact h m (by omega) hml
    · rw [flow_rise.l0, if_neg (by omega)]
      exact ⟨true, rfl, ⟨fun _ m h1 h2 => by omega, fun _ => rfl⟩⟩
theorem rise_run (l : List Int) (hl : l.length ≤ 10000) (k : Nat) (hk : l.length < k) : ∃ b, flow_rise.f k l = some b ∧ (b = true ↔ RiseL l) := by
  unfold flow_rise.f
  exact rise_loop l hl l.length k 1 (by omega) (by omega) hk
def stopsB (a : Int) : Bool := decide (a = 29) || decide (a = 32) || decide (a = 38)
def jumpsB (a : Int) : Bool := decide (a = 29) || decide (a = 30)
def endsB (a : Int) : Bool := jumpsB a || stopsB a || decide (a = 31)
theorem stops_run (a : Int) : flow_stops.f a = some (stopsB a) := by
  unfold flow_stops.f stopsB
  split
  · simp [*]
  · split <;> simp [*]
    rfl
theorem jumps_run (a : Int) : flow_jumps.f a = some (jumpsB a) := by
  unfold flow_jumps.f jumpsB
  split <;> simp [*]
  rfl
theorem ends_run (a : Int) : flow_Ends.f a = some (endsB a) := by
  unfold flow_Ends.f endsB
  rw [jumps_run, Option.bind_some, stops_run, Option.bind_some]
  cases jumpsB a <;> cases stopsB a <;> simp
  rfl
end Go.Proofs.Ytpfbfnbffglbkaa.P
/- What flow.starts reckons: plain; no statement of the seat. -/
set_option linter.unusedVariables false
set_option linter.unusedSimpArgs false
namespace Go.Proofs.Ytpfbfnbffglbkaa.P
open Go.RowKit Go.Proofs.YtpfbfnbffglbkaaW.PrintWords Go.Proofs.YtpfbfnbffglbkaaW.PrintLast Go.Proofs.YtpfbfnbffglbkaaW.PrintMore
/-- Where one stands, or -1. -/
def fnd (l : List Int) (x : Int) : Int := if x ∈ l then (l.idxOf x : Int) else -1
theorem rd_get (l : List Int) (m : Nat) (h : m < l.length) : rd l (m : Int) = l[m] := by
  unfold rd
  rw [Int.toNat_natCast, List.getD_eq_getElem?_getD, List.getElem?_eq_getElem h]
  rfl
theorem idx_first (x : Int) : ∀ (l : List Int) (p : Nat), (∀ m : Nat, m < p → rd l (m : Int) ≠ x) → p < l.length → rd l (p : Int) = x → x ∈ l ∧ l.idxOf x = p
  | [], p, _, h, _ => by simp at h
  | y :: l, 0, _, _, h => by
    rw [rd_get _ 0 (by simp)] at h
    simp at h
    subst h
    simp
  | y :: l, p + 1, h1, h2, h3 => by
    have h0 := h1 0 (by omega)
    rw [rd_get _ 0 (by simp)] at h0
    simp at h0
    rw [rd_get _ (p + 1) h2] at h3
    have ih := idx_first x l p (fun m hm => by
      have := h1 (m + 1) (by omega)
      rw [rd_get _ (m + 1) (by simp at h2 ⊢; omega)] at this
      rw [rd_get _ m (by simp at h2; omega)]
      simpa using this) (by simpa using h2) (by rw [rd_get _ p (by simpa using h2)]; simpa using h3)
    refine ⟨List.mem_cons_of_mem _ ih.1, ?_⟩
    rw [List.idxOf_cons]
    have : (y == x) = false := by simpa using h0
    rw [this]
    simp [ih.2]
theorem mem_rd {x : Int} {l : List Int} (h : x ∈ l) : ∃ j : Nat, j < l.length ∧ rd l (j : Int) = x := by
  obtain ⟨j, hj, e⟩ := List.mem_iff_getElem.1 h
  exact ⟨j, hj, by rw [rd_get l j hj]; exact e⟩
theorem fnd_lt (l : List Int) (x : Int) : fnd l x < (l.length : Int) := by
  unfold fnd
  split
  · rename_i h
    have := List.idxOf_lt_length_of_mem h
    omega
  · omega
theorem fnd_neg (l : List Int) (x : Int) : fnd l x < 0 ↔ x ∉ l := by
  unfold fnd
  split
  · rename_i h
    exact ⟨fun h' => by omega, fun h' => absurd h h'⟩
  · rename_i h
    exact ⟨fun _ => h, fun _ => by omega⟩
/-- slices.BinarySearch over what rises finds what is there. -/
theorem bs_fnd (l : List Int) (x : Int) (hl : l.length ≤ 10000) (hs : RiseL l) (k : Nat) (hk : l.length < k) :
    ∃ p : Nat, slices_BinarySearch_int_int.f k l x = some ((p : Int), decide (x ∈ l)) ∧ (x ∈ l → (p : Int) = fnd l x ∧ p < l.length) := by
  obtain ⟨p, hp, h1, h2, h3⟩ := bs_run l x hl hs k hk
  refine ⟨p, ?_, fun hx => ?_⟩
  · rw [h1]
    congr 2
    by_cases hx : x ∈ l
    · obtain ⟨j, hj, e⟩ := mem_rd hx
      have hjp : p ≤ j := by
        rcases Nat.lt_or_ge j p with h | h
        · have := h2 j h; omega
        · exact h
      have h4 := hs.le p j hjp hj
      have h5 := h3 p (Nat.le_refl _) (by omega)
      simp only [hx, decide_true, decide_eq_true_eq]
      exact ⟨by omega, by omega⟩
    · simp only [hx, decide_false, decide_eq_false_iff_not]
      rintro ⟨h4, h5⟩
      apply hx
      rw [← h5, rd_get l p h4]
      exact List.getElem_mem h4
  · obtain ⟨j, hj, e⟩ := mem_rd hx
    have hjp : p ≤ j := by
      rcases Nat.lt_or_ge j p with h | h
      · have := h2 j h; omega
      · exact h
    have h4 := hs.le p j hjp hj
    have h5 := h3 p (Nat.le_refl _) (by omega)
    have h6 := idx_first x l p (fun m hm e' => by have := h2 m hm; omega) (by omega) (by omega)
    refine ⟨?_, by omega⟩
    unfold fnd
    rw [if_pos hx, h6.2]
def opB (l : List S34) (i : Nat) : Int := (rd_T34 l (i : Int)).f0
def argB (l : List S34) (i : Nat) : Int := (rd_T34 l (i : Int)).f1
/-- Behind an instruction that ends a block another one begins. -/
def nextB (i : Nat) (e : Bool) (bs : List Bool) : List Bool := bs.set (i + 1) (bs.getD (i + 1) false || e)
/-- Where blocks begin; or which one goes nowhere. -/
def stGo (l : List S34) (pl : List Int) : Nat → Nat → List Bool → List Bool × Int
  | 0, _, bs => (bs, -1)
  | d + 1, i, bs =>
    if jumpsB (opB l i) = true then (if fnd pl (argB l i) < 0 then (bs, (i : Int)) else stGo l pl d (i + 1) (nextB i (endsB (opB l i)) (bs.set (fnd pl (argB l i)).toNat true)))
    else stGo l pl d (i + 1) (nextB i (endsB (opB l i)) bs)
def begL (bs : List Bool) (n : Nat) : List Int := ((List.range n).filter (fun i => bs.getD i false)).map (fun i : Nat => (i : Int))
theorem begL_len (bs : List Bool) (n : Nat) : (begL bs n).length ≤ n := by
  unfold begL
  rw [List.length_map]
  refine Nat.le_trans (List.length_filter_le _ _) ?_
  rw [List.length_range]
  exact Nat.le_refl _
theorem begL_succ (bs : List Bool) (n : Nat) : begL bs (n + 1) = begL bs n ++ (if bs.getD n false = true then [(n : Int)] else []) := by
  unfold begL
  rw [List.range_succ, List.filter_append, List.map_append]
  congr 1
  by_cases h : bs.getD n false = true
  · rw [if_pos h, List.filter_cons, if_pos h]; rfl
  · rw [if_neg h, List.filter_cons, if_neg h]; rfl
theorem starts_l1 (bs : List Bool) (n : Nat) (hb : bs.length = n + 1) (hn : n ≤ 10000) : ∀ (d k i : Nat), i + d = n → d < k → flow_starts.l1 k bs (begL bs i) (n : Int) (i : Int) = some (begL bs n, -1) := by
  intro d
  induction d with
  | zero =>
    intro k i hi hk
    obtain ⟨k, rfl⟩ : ∃ k', k = k' + 1 := ⟨k - 1, by omega⟩
    obtain rfl : i = n := by omega
    rw [flow_starts.l1, if_neg (by omega)]
  | succ d ih =>
    intro k i hi hk
    obtain ⟨k, rfl⟩ : ∃ k', k = k' + 1 := ⟨k - 1, by omega⟩
    have hr : rdOf false bs (i : Int) = bs.getD i false := by unfold rdOf; rw [Int.toNat_natCast]
    rw [flow_starts.l1, if_pos (by omega), if_pos (by omega), if_pos (by omega), hr, w1 i (by omega)]
    have h1 := ih k (i + 1) (by omega) (by omega)
    rw [begL_succ] at h1
    by_cases h : bs.getD i false = true
    · rw [if_pos h] at h1 ⊢
      rw [if_pos (by have := begL_len bs i; omega)]
      exact h1
    · rw [if_neg h] at h1 ⊢
      rw [List.append_nil] at h1
      exact h1
theorem nextB_len (i : Nat) (e : Bool) (bs : List Bool) : (nextB i e bs).length = bs.length := by unfold nextB; rw [List.length_set]
theorem starts_l0 (l : List S34) (pl : List Int) (n : Nat) (hn : l.length = n) (hp : pl.length = n) (hmx : n ≤ 10000) (hs : RiseL pl) :
    ∀ (d k i : Nat) (bs : List Bool), i + d = n → bs.length = n + 1 → n + d + 2 ≤ k →
      flow_starts.l0 k l pl bs l (n : Int) (i : Int) = some (if (stGo l pl d i bs).2 = -1 then (begL (stGo l pl d i bs).1 n, -1) else ([], (stGo l pl d i bs).2)) := by
  intro d
  induction d with
  | zero =>
    intro k i bs hi hb hk
    obtain ⟨k, rfl⟩ : ∃ k', k = k' + 1 := ⟨k - 1, by omega⟩
    rw [flow_starts.l0, if_neg (by omega), hn]
    have := starts_l1 bs n hb hmx n k 0 (by omega) (by omega)
    show _ = some (if (-1 : Int) = -1 then _ else _)
    rw [if_pos rfl]
    exact this
  | succ d ih =>
    intro k i bs hi hb hk
    obtain ⟨k, rfl⟩ : ∃ k', k = k' + 1 := ⟨k - 1, by omega⟩
    rw [flow_starts.l0, if_pos (by omega), if_pos (by omega), if_pos (by omega), jumps_run, Option.bind_some]
    have hw := w1 i (by omega)
    have hcont : ∀ bs' : List Bool, bs'.length = n + 1 →
        (if rdOf false bs' (((i + 1 : Nat) : Int)) = true then (flow_starts.l0 k l pl (bs'.set (((i + 1 : Nat) : Int)).toNat true) l (n : Int) (((i + 1 : Nat) : Int))) else ((flow_Ends.f ((rd_T34 l (i : Int)).f0)).bind fun t125 => (flow_starts.l0 k l pl (bs'.set (((i + 1 : Nat) : Int)).toNat t125) l (n : Int) (((i + 1 : Nat) : Int))))) =
        some (if (stGo l pl d (i + 1) (nextB i (endsB (opB l i)) bs')).2 = -1 then (begL (stGo l pl d (i + 1) (nextB i (endsB (opB l i)) bs')).1 n, -1) else ([], (stGo l pl d (i + 1) (nextB i (endsB (opB l i)) bs')).2)) := by
      intro bs' hb'
      rw [← ih k (i + 1) (nextB i (endsB (opB l i)) bs') (by omega) (by rw [nextB_len]; exact hb') (by omega)]
      have hr : rdOf false bs' (((i + 1 : Nat) : Int)) = bs'.getD (i + 1) false := by unfold rdOf; rw [Int.toNat_natCast]
      rw [hr, Int.toNat_natCast, ends_run, Option.bind_some]
      unfold nextB
      by_cases hg : bs'.getD (i + 1) false = true
      · rw [if_pos hg, hg, Bool.true_or]
      · rw [if_neg hg, Bool.eq_false_iff.2 hg, Bool.false_or]
        rfl
    obtain ⟨p, hbs, hpos⟩ := bs_fnd pl (argB l i) (by omega) hs k (by omega)
    unfold stGo
    by_cases hj : jumpsB (opB l i) = true
    · rw [if_pos hj, if_pos (show jumpsB ((rd_T34 l (i : Int)).f0) = true from hj)]
      rw [show (rd_T34 l (i : Int)).f1 = argB l i from rfl, hbs, Option.bind_some]
      by_cases hm : argB l i ∈ pl
      · obtain ⟨hpf, hpl⟩ := hpos hm
        have hnn : ¬ fnd pl (argB l i) < 0 := by rw [fnd_neg]; exact fun h => h hm
        rw [if_pos (by simpa using hm), if_neg hnn]
        dsimp only
        rw [if_pos (by omega), if_pos (by omega), Option.bind_some, hw, if_pos (by omega), if_pos (by first | omega | (rw [List.length_set]; omega))]
        have := hcont (bs.set (p : Int).toNat true) (by rw [List.length_set]; exact hb)
        rw [← hpf]
        exact this
      · have hnn : fnd pl (argB l i) < 0 := by rw [fnd_neg]; exact hm
        rw [if_neg (by simpa using hm), if_pos hnn]
        dsimp only
        rw [if_neg (by omega)]
    · rw [if_neg hj, if_neg (show ¬ jumpsB ((rd_T34 l (i : Int)).f0) = true from hj), hw, if_pos (by omega), if_pos (by omega)]
      exact hcont bs hb
/-- flow.starts. -/
theorem starts_run (l : List S34) (pl : List Int) (n : Nat) (hn : l.length = n) (hp : pl.length = n) (hmx : n ≤ 10000) (hs : RiseL pl) (k : Nat) (hk : 2 * n + 2 ≤ k) :
    flow_starts.f k l pl = some (if (stGo l pl n 0 (true :: List.replicate n false)).2 = -1 then (begL (stGo l pl n 0 (true :: List.replicate n false)).1 n, -1) else ([], (stGo l pl n 0 (true :: List.replicate n false)).2)) := by
  unfold flow_starts.f
  have hw : wrap64 ((l.length : Int) + 1) = ((n + 1 : Nat) : Int) := by rw [hn]; exact w1 n (by omega)
  rw [hw, if_pos (by omega), Int.toNat_natCast, if_pos (by omega), Option.bind_some, if_pos (by simp)]
  have := starts_l0 l pl n hn hp hmx hs n k 0 (true :: List.replicate n false) (by omega) (by simp) (by omega)
  rw [hn]
  exact this
end Go.Proofs.Ytpfbfnbffglbkaa.P
/- What flow.Blocks reckons: plain; no statement of the seat. -/
set_option linter.unusedVariables false
set_option linter.unusedSimpArgs false
namespace Go.Proofs.Ytpfbfnbffglbkaa.P
open Go.RowKit Go.Proofs.YtpfbfnbffglbkaaW.PrintWords Go.Proofs.YtpfbfnbffglbkaaW.PrintLast Go.Proofs.YtpfbfnbffglbkaaW.PrintMore
theorem getD_set_true (l : List Bool) (i m : Nat) (h : l.getD m false = true) : (l.set i true).getD m false = true := by
  by_cases e : i = m
  · subst e
    rcases Nat.lt_or_ge i l.length with hl | hl
    · rw [List.getD_eq_getElem?_getD, List.getElem?_set_self hl]; rfl
    · rw [List.set_eq_of_length_le hl]; exact h
  · rw [getD_setB_ne e]; exact h
where
  getD_setB_ne {l : List Bool} {i m : Nat} {b d : Bool} (e : i ≠ m) : (l.set i b).getD m d = l.getD m d := by
    rw [List.getD_eq_getElem?_getD, List.getElem?_set_ne e, ← List.getD_eq_getElem?_getD]
theorem getD_nextB (i : Nat) (e : Bool) (bs : List Bool) (m : Nat) (h : bs.getD m false = true) : (nextB i e bs).getD m false = true := by
  unfold nextB
  by_cases c : i + 1 = m
  · subst c
    rw [h, Bool.true_or]
    exact getD_set_true bs (i + 1) (i + 1) h
  · rw [getD_set_true.getD_setB_ne c]; exact h
theorem getD_nextB_end (i : Nat) (bs : List Bool) (h : i + 1 < bs.length) : (nextB i true bs).getD (i + 1) false = true := by
  unfold nextB
  rw [Bool.or_true, List.getD_eq_getElem?_getD, List.getElem?_set_self h]
  rfl
theorem stGo_prop (l : List S34) (pl : List Int) (n : Nat) : ∀ (d i : Nat) (bs : List Bool), i + d = n → bs.length = n + 1 → pl.length = n → (stGo l pl d i bs).2 = -1 →
    (stGo l pl d i bs).1.length = n + 1 ∧ (∀ m, bs.getD m false = true → (stGo l pl d i bs).1.getD m false = true) ∧
    (∀ m, i ≤ m → m < n → jumpsB (opB l m) = true → 0 ≤ fnd pl (argB l m) ∧ (stGo l pl d i bs).1.getD (fnd pl (argB l m)).toNat false = true) ∧
    (∀ m, i ≤ m → m < n → endsB (opB l m) = true → (stGo l pl d i bs).1.getD (m + 1) false = true)
  | 0, i, bs, hi, hb, hp, h => ⟨hb, fun m h => h, fun m h1 h2 => by omega, fun m h1 h2 => by omega⟩
  | d + 1, i, bs, hi, hb, hp, h => by
    unfold stGo at h ⊢
    by_cases hj : jumpsB (opB l i) = true
    · rw [if_pos hj] at h ⊢
      by_cases hf : fnd pl (argB l i) < 0
      · rw [if_pos hf] at h
        simp at h
      · rw [if_neg hf] at h ⊢
        have hlt := fnd_lt pl (argB l i)
        obtain ⟨h1, h2, h3, h4⟩ := stGo_prop l pl n d (i + 1) (nextB i (endsB (opB l i)) (bs.set (fnd pl (argB l i)).toNat true)) (by omega) (by rw [nextB_len, List.length_set]; exact hb) hp h
        refine ⟨h1, fun m hm => h2 m (getD_nextB _ _ _ m (getD_set_true _ _ m hm)), fun m hm hmn hjm => ?_, fun m hm hmn he => ?_⟩
        · by_cases c : m = i
          · subst c
            refine ⟨by omega, h2 _ (getD_nextB _ _ _ _ ?_)⟩
            rw [List.getD_eq_getElem?_getD, List.getElem?_set_self (by omega)]
            rfl
          · exact h3 m (by omega) hmn hjm
        · by_cases c : m = i
          · subst c
            refine h2 _ ?_
            rw [he]
            exact getD_nextB_end m _ (by rw [List.length_set]; omega)
          · exact h4 m (by omega) hmn he
    · rw [if_neg hj] at h ⊢
      obtain ⟨h1, h2, h3, h4⟩ := stGo_prop l pl n d (i + 1) (nextB i (endsB (opB l i)) bs) (by omega) (by rw [nextB_len]; exact hb) hp h
      refine ⟨h1, fun m hm => h2 m (getD_nextB _ _ _ m hm), fun m hm hmn hjm => ?_, fun m hm hmn he => ?_⟩
      · by_cases c : m = i
        · subst c; exact absurd hjm hj
        · exact h3 m (by omega) hmn hjm
      · by_cases c : m = i
        · subst c
          refine h2 _ ?_
          rw [he]
          exact getD_nextB_end m _ (by omega)
        · exact h4 m (by omega) hmn he
theorem stGo_ge (l : List S34) (pl : List Int) : ∀ (d i : Nat) (bs : List Bool), (stGo l pl d i bs).2 = -1 ∨ ∃ m : Nat, (stGo l pl d i bs).2 = (m : Int)
  | 0, i, bs => .inl rfl
  | d + 1, i, bs => by
    unfold stGo
    split
    · split
      · exact .inr ⟨i, rfl⟩
      · exact stGo_ge l pl d _ _
    · exact stGo_ge l pl d _ _
theorem mem_begL (bs : List Bool) (n : Nat) (x : Int) : x ∈ begL bs n ↔ ∃ m : Nat, m < n ∧ bs.getD m false = true ∧ x = (m : Int) := by
  unfold begL
  rw [List.mem_map]
  constructor
  · rintro ⟨m, hm, rfl⟩
    rw [List.mem_filter, List.mem_range] at hm
    exact ⟨m, hm.1, hm.2, rfl⟩
  · rintro ⟨m, h1, h2, rfl⟩
    exact ⟨m, by rw [List.mem_filter, List.mem_range]; exact ⟨h1, h2⟩, rfl⟩
theorem rise_begL (bs : List Bool) (n : Nat) : RiseL (begL bs n) := by
  have hp : (begL bs n).Pairwise (· < ·) := by
    unfold begL
    rw [List.pairwise_map]
    refine List.Pairwise.imp ?_ (List.Pairwise.filter _ (List.pairwise_lt_range (n := n)))
    intro a b h
    omega
  intro m h1 h2
  rw [rd_get _ _ (by omega), rd_get _ _ h2]
  exact List.pairwise_iff_getElem.1 hp (m - 1) m (by omega) h2 (by omega)
/-- Where the k-th block ends. -/
def endB (n : Nat) (g : List Int) (k : Nat) : Int := if k + 1 < g.length then rd g ((k + 1 : Nat) : Int) else (n : Int)
def lastB (n : Nat) (g : List Int) (k : Nat) : Nat := (endB n g k - 1).toNat
def nxtB (l : List S34) (pl g : List Int) (k : Nat) : List Int :=
  (if stopsB (opB l (lastB l.length g k)) = true then [] else [((k + 1 : Nat) : Int)]) ++ (if jumpsB (opB l (lastB l.length g k)) = true then [fnd g (fnd pl (argB l (lastB l.length g k)))] else [])
def blkB (l : List S34) (pl g : List Int) (k : Nat) : S30 := ⟨rd g (k : Int), endB l.length g k, nxtB l pl g k⟩
/-- What begins where. -/
structure BegOK (l : List S34) (pl g : List Int) (n : Nat) : Prop where
  ln : l.length = n
  lp : pl.length = n
  mx : n ≤ 10000
  gl : g.length ≤ n
  rp : RiseL pl
  rg : RiseL g
  gin : ∀ x ∈ g, 0 ≤ x ∧ x < (n : Int)
  jm : ∀ m : Nat, m < n → jumpsB (opB l m) = true → argB l m ∈ pl ∧ fnd pl (argB l m) ∈ g
  en : ∀ m : Nat, m + 1 < n → endsB (opB l m) = true → ((m + 1 : Nat) : Int) ∈ g
  z : 0 < n → (0 : Int) ∈ g
theorem BegOK.endB {l : List S34} {pl g : List Int} {n : Nat} (h : BegOK l pl g n) (k : Nat) (hk : k < g.length) : 1 ≤ endB n g k ∧ endB n g k ≤ (n : Int) ∧ rd g (k : Int) < endB n g k := by
  have h0 := h.gin (rd g (k : Int)) (by rw [rd_get g k hk]; exact List.getElem_mem hk)
  unfold P.endB
  split
  · rename_i hl
    have h1 := h.gin (rd g ((k + 1 : Nat) : Int)) (by rw [rd_get g _ hl]; exact List.getElem_mem hl)
    have h2 := h.rg (k + 1) (by omega) hl
    rw [Nat.add_sub_cancel] at h2
    exact ⟨by omega, by omega, h2⟩
  · exact ⟨by omega, by omega, by omega⟩
theorem blocks_l0 {l : List S34} {pl g : List Int} {n : Nat} (h : BegOK l pl g n) :
    ∀ (d K i : Nat), i + d = g.length → 3 * d + n + 10 ≤ K →
      flow_Blocks.l0 K l pl g ((List.range i).map (blkB l pl g)) g (g.length : Int) (i : Int) = some ((List.range g.length).map (blkB l pl g), 0, (g.length : Int)) := by
  intro d
  induction d with
  | zero =>
    intro K i hi hK
    obtain ⟨K, rfl⟩ : ∃ k', K = k' + 1 := ⟨K - 1, by omega⟩
    obtain rfl : i = g.length := by omega
    rw [flow_Blocks.l0, if_neg (by omega), List.length_map, List.length_range]
  | succ d ih =>
    intro K i hi hK
    obtain ⟨K, rfl⟩ : ∃ k', K = k' + 1 + 1 + 1 := ⟨K - 3, by omega⟩
    have hgl := h.gl
    have hmx := h.mx
    have hin := ih K (i + 1) (by omega) (by omega)
    rw [List.range_succ, List.map_append, List.map_cons, List.map_nil] at hin
    have hacc : ((List.range i).map (blkB l pl g)).length < 3518437208883 := by rw [List.length_map, List.length_range]; omega
    have hj2 : ∀ e : Int, e = endB n g i → flow_Blocks.j2 (K + 1 + 1) l pl g ((List.range i).map (blkB l pl g)) (i : Int) g (g.length : Int) (i : Int) (rd g (i : Int)) e = some ((List.range g.length).map (blkB l pl g), 0, (g.length : Int)) := by
      intro e he
      have hE := h.endB i (by omega)
      rw [← he] at hE
      have hw : wrap64 (e - 1) = ((lastB n g i : Nat) : Int) := by
        unfold lastB
        rw [← he]
        unfold wrap64
        omega
      have hlast : lastB n g i < n := by unfold lastB; rw [← he]; omega
      have hln := h.ln
      have hb : blkB l pl g i = ⟨rd g (i : Int), e, nxtB l pl g i⟩ := by unfold blkB; rw [h.ln, ← he]
      have hop : (rd_T34 l ((lastB n g i : Nat) : Int)).f0 = opB l (lastB n g i) := rfl
      have har : (rd_T34 l ((lastB n g i : Nat) : Int)).f1 = argB l (lastB n g i) := rfl
      have hj3 : ∀ nx : List Int, nx.length < 17592186044416 → nx = (if stopsB (opB l (lastB n g i)) = true then [] else [((i + 1 : Nat) : Int)]) →
          flow_Blocks.j3 (K + 1) l pl g ((List.range i).map (blkB l pl g)) g (g.length : Int) (i : Int) (rd g (i : Int)) e nx (opB l (lastB n g i)) (argB l (lastB n g i)) = some ((List.range g.length).map (blkB l pl g), 0, (g.length : Int)) := by
        intro nx hnx hnxe
        have hnb : nxtB l pl g i = nx ++ (if jumpsB (opB l (lastB n g i)) = true then [fnd g (fnd pl (argB l (lastB n g i)))] else []) := by
          unfold nxtB
          rw [h.ln, hnxe]
        rw [hb, hnb] at hin
        rw [flow_Blocks.j3, jumps_run, Option.bind_some]
        by_cases hj : jumpsB (opB l (lastB n g i)) = true
        · rw [if_pos hj] at hin ⊢
          obtain ⟨hm1, hm2⟩ := h.jm (lastB n g i) hlast hj
          obtain ⟨p1, e1, f1⟩ := bs_fnd pl (argB l (lastB n g i)) (by have := h.lp; omega) h.rp K (by have := h.lp; omega)
          obtain ⟨f1, _⟩ := f1 hm1
          obtain ⟨p2, e2, f2⟩ := bs_fnd g (fnd pl (argB l (lastB n g i))) (by omega) h.rg K (by omega)
          obtain ⟨f2, _⟩ := f2 hm2
          rw [e1, Option.bind_some]
          dsimp only
          rw [f1, e2, Option.bind_some]
          dsimp only
          rw [f2, if_pos hnx, if_pos hacc, w1 i (by omega)]
          exact hin
        · rw [if_neg hj] at hin ⊢
          rw [if_pos hacc, w1 i (by omega)]
          rw [List.append_nil] at hin
          exact hin
      rw [flow_Blocks.j2, hw, if_pos (by omega), if_pos (by omega), hop, har, stops_run, Option.bind_some]
      by_cases hs : stopsB (opB l (lastB n g i)) = true
      · rw [if_pos hs]
        exact hj3 [] (by simp) (by rw [if_pos hs])
      · rw [if_neg hs, if_pos (by simp), w1 i (by omega)]
        exact hj3 _ (by simp) (by rw [if_neg hs]; rfl)
    rw [flow_Blocks.l0, if_pos (by omega), if_pos (by omega), if_pos (by omega), w1 i (by omega)]
    by_cases hc : i + 1 < g.length
    · rw [if_pos (by omega), if_pos (by omega)]
      exact hj2 _ (by unfold P.endB; rw [if_pos hc])
    · rw [if_neg (by omega)]
      exact hj2 _ (by unfold P.endB; rw [if_neg hc, h.ln])
theorem begOK (l : List S34) (pl : List Int) (n : Nat) (hn : l.length = n) (hp : pl.length = n) (hmx : n ≤ 10000) (hs : RiseL pl) (h : (stGo l pl n 0 (true :: List.replicate n false)).2 = -1) :
    BegOK l pl (begL (stGo l pl n 0 (true :: List.replicate n false)).1 n) n := by
  obtain ⟨h1, h2, h3, h4⟩ := stGo_prop l pl n n 0 (true :: List.replicate n false) (by omega) (by simp) hp h
  refine ⟨hn, hp, hmx, begL_len _ _, hs, rise_begL _ _, fun x hx => ?_, fun m hm hj => ?_, fun m hm he => ?_, fun h0 => ?_⟩
  · obtain ⟨m, hm, _, rfl⟩ := (mem_begL _ _ _).1 hx
    omega
  · obtain ⟨h5, h6⟩ := h3 m (by omega) hm hj
    have hlt := fnd_lt pl (argB l m)
    refine ⟨Classical.byContradiction fun hc => ?_, (mem_begL _ _ _).2 ⟨(fnd pl (argB l m)).toNat, by omega, h6, by omega⟩⟩
    have := (fnd_neg pl (argB l m)).2 hc
    omega
  · exact (mem_begL _ _ _).2 ⟨m + 1, hm, h4 m (by omega) (by omega) he, rfl⟩
  · exact (mem_begL _ _ _).2 ⟨0, h0, h2 0 rfl, rfl⟩
/-- flow.Blocks. -/
def blocksM (l : List S34) (pl : List Int) (rise : Bool) : List S30 × Int × Int :=
  if l.length = pl.length ∧ l.length ≠ 0 ∧ rise = true then
    (if (stGo l pl l.length 0 (true :: List.replicate l.length false)).2 = -1 then
      (if stopsB (opB l (l.length - 1)) = true then
        ((List.range (begL (stGo l pl l.length 0 (true :: List.replicate l.length false)).1 l.length).length).map (blkB l pl (begL (stGo l pl l.length 0 (true :: List.replicate l.length false)).1 l.length)), 0, ((begL (stGo l pl l.length 0 (true :: List.replicate l.length false)).1 l.length).length : Int))
      else ([], 80, ((l.length - 1 : Nat) : Int)))
    else ([], 80, (stGo l pl l.length 0 (true :: List.replicate l.length false)).2))
  else ([], 1, 0)
theorem blocks_run (l : List S34) (pl : List Int) (hmx : l.length ≤ 10000) (K : Nat) (hK : 4 * l.length + 20 ≤ K) :
    ∃ rise : Bool, (rise = true ↔ RiseL pl) ∧ flow_Blocks.f K l pl = some (blocksM l pl rise) := by
  obtain ⟨K, rfl⟩ : ∃ k', K = k' + 1 := ⟨K - 1, by omega⟩
  have hj0 : flow_Blocks.j0 (K + 1) l pl true = some ([], 1, 0) := by rw [flow_Blocks.j0, if_pos rfl]
  unfold flow_Blocks.f blocksM
  by_cases he : l.length = pl.length
  · rw [if_pos (by omega)]
    obtain ⟨b, hb, hbr⟩ := rise_run pl (by omega) (K + 1) (by omega)
    refine ⟨b, hbr, ?_⟩
    by_cases hz : l.length = 0
    · rw [if_pos (by omega), hj0, if_neg (by omega)]
    · rw [if_neg (by omega), hb, Option.bind_some]
      cases b with
      | false =>
        rw [if_neg (by simp)]
        exact hj0
      | true =>
        rw [if_pos ⟨he, hz, rfl⟩]
        have hs := hbr.1 rfl
        rw [Bool.not_true, flow_Blocks.j0, if_neg (by decide), starts_run l pl l.length rfl he.symm hmx hs K (by omega), Option.bind_some]
        by_cases hw : (stGo l pl l.length 0 (true :: List.replicate l.length false)).2 = -1
        · rw [if_pos hw, if_pos hw]
          dsimp only
          have hw1 : wrap64 ((l.length : Int) - 1) = ((l.length - 1 : Nat) : Int) := by unfold wrap64; omega
          rw [if_pos rfl, hw1, if_pos (by omega), if_pos (by omega), stops_run, Option.bind_some]
          rw [show (rd_T34 l ((l.length - 1 : Nat) : Int)).f0 = opB l (l.length - 1) from rfl]
          by_cases hst : stopsB (opB l (l.length - 1)) = true
          · rw [if_pos hst, if_pos hst]
            have hB := begOK l pl l.length rfl he.symm hmx hs hw
            exact blocks_l0 hB (begL (stGo l pl l.length 0 (true :: List.replicate l.length false)).1 l.length).length K 0 (by omega) (by have := hB.gl; omega)
          · rw [if_neg hst, if_neg hst]
        · rw [if_neg hw, if_neg hw]
          dsimp only
          rw [if_neg hw]
  · rw [if_neg (by omega), hj0]
    obtain ⟨b, hbr⟩ : ∃ b : Bool, (b = true ↔ RiseL pl) := ⟨decide (RiseL pl) (h := Classical.propDecidable _), by simp⟩
    exact ⟨b, hbr, by rw [if_neg (by omega)]⟩
end Go.Proofs.Ytpfbfnbffglbkaa.P
/- The reference's blocks are flow's: plain; no statement of the seat. -/
set_option linter.unusedVariables false
set_option linter.unusedSimpArgs false
namespace Go.Proofs.Ytpfbfnbffglbkaa.P
open Go.RowKit Go.Proofs.YtpfbfnbffglbkaaW.PrintWords Go.Proofs.YtpfbfnbffglbkaaW.PrintLast Go.Proofs.YtpfbfnbffglbkaaW.PrintMore
theorem refE_run (a : Int) : pianolaref08_Ends.f a = some (endsB a) := by
  unfold pianolaref08_Ends.f endsB jumpsB stopsB
  split
  · simp [*]
  · split
    · simp [*]
    · split
      · simp [*]
      · split
        · simp [*]
        · simp [*]
          rfl
theorem find_loop (l : List Int) (x : Int) (hl : l.length ≤ 10000) : ∀ (d k i : Nat), i + d = l.length → d < k → (∀ m : Nat, m < i → rd l (m : Int) ≠ x) → pianolaref08_find.l0 k l x (i : Int) = some (fnd l x) := by
  intro d
  induction d with
  | zero =>
    intro k i hi hk hm
    obtain ⟨k, rfl⟩ : ∃ k', k = k' + 1 := ⟨k - 1, by omega⟩
    rw [pianolaref08_find.l0, if_neg (by omega)]
    unfold fnd
    rw [if_neg]
    intro hx
    obtain ⟨j, hj, e⟩ := mem_rd hx
    exact hm j (by omega) e
  | succ d ih =>
    intro k i hi hk hm
    obtain ⟨k, rfl⟩ : ∃ k', k = k' + 1 := ⟨k - 1, by omega⟩
    rw [pianolaref08_find.l0, if_pos (by omega), if_pos (by omega)]
    by_cases he : rd l (i : Int) = x
    · rw [if_pos he]
      obtain ⟨h1, h2⟩ := idx_first x l i hm (by omega) he
      unfold fnd
      rw [if_pos h1, h2]
    · rw [if_neg he, w1 i (by omega)]
      refine ih k (i + 1) (by omega) (by omega) (fun m hm' => ?_)
      by_cases c : m = i
      · subst c; exact he
      · exact hm m (by omega)
theorem find_run (l : List Int) (x : Int) (hl : l.length ≤ 10000) (k : Nat) (hk : l.length < k) : pianolaref08_find.f k l x = some (fnd l x) := by
  unfold pianolaref08_find.f
  exact find_loop l x hl l.length k 0 (by omega) hk (fun m h => by omega)
theorem stopsB_not (a : Int) : (if a = 29 then false else if a = 32 then false else (a != 38)) = !stopsB a := by
  unfold stopsB
  split
  · simp [*]
  · split <;> simp [*]
    rfl
theorem jumpsB_or (a : Int) : (if a = 29 then true else (a == 30)) = jumpsB a := by
  unfold jumpsB
  split <;> simp [*]
  rfl
theorem ref_l3 {l : List S34} {pl g : List Int} {n : Nat} (h : BegOK l pl g n) :
    ∀ (d K i : Nat), i + d = g.length → 5 * d + n + 12 ≤ K →
      pianolaref08_Blocks.l3 K l pl g ((List.range i).map (blkB l pl g)) (i : Int) = some ((List.range g.length).map (blkB l pl g), 0, (g.length : Int)) := by
  intro d
  induction d with
  | zero =>
    intro K i hi hK
    obtain ⟨K, rfl⟩ : ∃ k', K = k' + 1 := ⟨K - 1, by omega⟩
    obtain rfl : i = g.length := by omega
    rw [pianolaref08_Blocks.l3, if_neg (by omega), List.length_map, List.length_range]
  | succ d ih =>
    intro K i hi hK
    obtain ⟨K, rfl⟩ : ∃ k', K = k' + 1 + 1 + 1 + 1 + 1 := ⟨K - 5, by omega⟩
    have hgl := h.gl
    have hmx := h.mx
    have hin := ih K (i + 1) (by omega) (by omega)
    rw [List.range_succ, List.map_append, List.map_cons, List.map_nil] at hin
    have hacc : ((List.range i).map (blkB l pl g)).length < 3518437208883 := by rw [List.length_map, List.length_range]; omega
    have hj8 : ∀ e : Int, e = endB n g i → pianolaref08_Blocks.j8 (K + 1 + 1 + 1 + 1) l pl g ((List.range i).map (blkB l pl g)) (i : Int) (rd g (i : Int)) e = some ((List.range g.length).map (blkB l pl g), 0, (g.length : Int)) := by
      intro e he
      have hE := h.endB i (by omega)
      rw [← he] at hE
      have hw : wrap64 (e - 1) = ((lastB n g i : Nat) : Int) := by
        unfold lastB
        rw [← he]
        unfold wrap64
        omega
      have hlast : lastB n g i < n := by unfold lastB; rw [← he]; omega
      have hln := h.ln
      have hb : blkB l pl g i = ⟨rd g (i : Int), e, nxtB l pl g i⟩ := by unfold blkB; rw [h.ln, ← he]
      have hop : (rd_T34 l ((lastB n g i : Nat) : Int)).f0 = opB l (lastB n g i) := rfl
      have har : (rd_T34 l ((lastB n g i : Nat) : Int)).f1 = argB l (lastB n g i) := rfl
      have hj11 : ∀ nx : List Int, nx.length < 17592186044416 → nx = (if stopsB (opB l (lastB n g i)) = true then [] else [((i + 1 : Nat) : Int)]) →
          pianolaref08_Blocks.j11 (K + 1) l pl g ((List.range i).map (blkB l pl g)) (i : Int) (jumpsB (opB l (lastB n g i))) (rd g (i : Int)) e nx (opB l (lastB n g i)) (argB l (lastB n g i)) = some ((List.range g.length).map (blkB l pl g), 0, (g.length : Int)) := by
        intro nx hnx hnxe
        have hnb : nxtB l pl g i = nx ++ (if jumpsB (opB l (lastB n g i)) = true then [fnd g (fnd pl (argB l (lastB n g i)))] else []) := by
          unfold nxtB
          rw [h.ln, hnxe]
        rw [hb, hnb] at hin
        rw [pianolaref08_Blocks.j11]
        by_cases hj : jumpsB (opB l (lastB n g i)) = true
        · rw [if_pos hj] at hin ⊢
          rw [find_run pl _ (by have := h.lp; omega) K (by have := h.lp; omega), Option.bind_some, find_run g _ (by omega) K (by omega), Option.bind_some, if_pos hnx, if_pos hacc, w1 i (by omega)]
          exact hin
        · rw [if_neg hj] at hin ⊢
          rw [if_pos hacc, w1 i (by omega)]
          rw [List.append_nil] at hin
          exact hin
      have hj10 : ∀ nx : List Int, nx.length < 17592186044416 → nx = (if stopsB (opB l (lastB n g i)) = true then [] else [((i + 1 : Nat) : Int)]) →
          pianolaref08_Blocks.j10 (K + 1 + 1) l pl g ((List.range i).map (blkB l pl g)) (i : Int) (rd g (i : Int)) e nx (opB l (lastB n g i)) (argB l (lastB n g i)) = some ((List.range g.length).map (blkB l pl g), 0, (g.length : Int)) := by
        intro nx h1 h2
        have h3 := hj11 nx h1 h2
        rw [← jumpsB_or] at h3
        rw [pianolaref08_Blocks.j10]
        split
        · rename_i c
          rw [if_pos c] at h3
          exact h3
        · rename_i c
          rw [if_neg c] at h3
          exact h3
      have hj9 : pianolaref08_Blocks.j9 (K + 1 + 1 + 1) l pl g ((List.range i).map (blkB l pl g)) (i : Int) (!stopsB (opB l (lastB n g i))) (rd g (i : Int)) e (opB l (lastB n g i)) (argB l (lastB n g i)) = some ((List.range g.length).map (blkB l pl g), 0, (g.length : Int)) := by
        rw [pianolaref08_Blocks.j9]
        by_cases hs : stopsB (opB l (lastB n g i)) = true
        · rw [hs, if_neg (by decide)]
          exact hj10 [] (by simp) (by rw [if_pos hs])
        · rw [Bool.eq_false_iff.2 hs, if_pos (by decide), if_pos (by simp), w1 i (by omega)]
          exact hj10 _ (by simp) (by rw [if_neg hs]; rfl)
      rw [← stopsB_not] at hj9
      rw [pianolaref08_Blocks.j8, hw, if_pos (by omega), if_pos (by omega), hop, har]
      split
      · rename_i c
        rw [if_pos c] at hj9
        exact hj9
      · rename_i c
        rw [if_neg c] at hj9
        split
        · rename_i c2
          rw [if_pos c2] at hj9
          exact hj9
        · rename_i c2
          rw [if_neg c2] at hj9
          exact hj9
    rw [pianolaref08_Blocks.l3, if_pos (by omega), if_pos (by omega), w1 i (by omega)]
    by_cases hc : i + 1 < g.length
    · rw [if_pos (by omega), if_pos (by omega)]
      exact hj8 _ (by unfold P.endB; rw [if_pos hc])
    · rw [if_neg (by omega)]
      exact hj8 _ (by unfold P.endB; rw [if_neg hc, h.ln])
theorem ref_l2 (l : List S34) (pl : List Int) (bs : List Bool) (n F : Nat) (R : List S30 × Int × Int) (hn : l.length = n) (hb : bs.length = n + 1) (hmx : n ≤ 10000) (hf : ∀ K, F ≤ K → pianolaref08_Blocks.l3 K l pl (begL bs n) [] 0 = some R) :
    ∀ (d K i : Nat), i + d = n → d + 1 + F ≤ K → pianolaref08_Blocks.l2 K l pl bs (begL bs i) (i : Int) = some R := by
  intro d
  induction d with
  | zero =>
    intro K i hi hK
    obtain ⟨K, rfl⟩ : ∃ k', K = k' + 1 := ⟨K - 1, by omega⟩
    obtain rfl : i = n := by omega
    rw [pianolaref08_Blocks.l2, if_neg (by omega)]
    exact hf K (by omega)
  | succ d ih =>
    intro K i hi hK
    obtain ⟨K, rfl⟩ : ∃ k', K = k' + 1 := ⟨K - 1, by omega⟩
    have hr : rdOf false bs (i : Int) = bs.getD i false := by unfold rdOf; rw [Int.toNat_natCast]
    rw [pianolaref08_Blocks.l2, if_pos (by omega), if_pos (by omega), if_pos (by omega), hr, w1 i (by omega)]
    have h1 := ih K (i + 1) (by omega) (by omega)
    rw [begL_succ] at h1
    by_cases h : bs.getD i false = true
    · rw [if_pos h] at h1 ⊢
      rw [if_pos (by have := begL_len bs i; omega)]
      exact h1
    · rw [if_neg h] at h1 ⊢
      rw [List.append_nil] at h1
      exact h1
theorem nextB_true (i : Nat) (bs : List Bool) : nextB i true bs = bs.set (i + 1) true := by unfold nextB; rw [Bool.or_true]
theorem nextB_false (i : Nat) (bs : List Bool) (h : i + 1 < bs.length) : nextB i false bs = bs := by
  unfold nextB
  rw [Bool.or_false, List.getD_eq_getElem?_getD, List.getElem?_eq_getElem h]
  exact List.set_getElem_self h
theorem ref_l1 (l : List S34) (pl : List Int) (n F : Nat) (R : List S30 × Int × Int) (hn : l.length = n) (hp : pl.length = n) (hmx : n ≤ 10000) (hF : n + 1 ≤ F) :
    ∀ (d K i : Nat) (bs : List Bool), i + d = n → bs.length = n + 1 → 3 * d + F ≤ K → ((stGo l pl d i bs).2 = -1 → ∀ K, F ≤ K → pianolaref08_Blocks.l1 K l pl (stGo l pl d i bs).1 (n : Int) = some R) →
      pianolaref08_Blocks.l1 K l pl bs (i : Int) = some (if (stGo l pl d i bs).2 = -1 then R else ([], 80, (stGo l pl d i bs).2)) := by
  intro d
  induction d with
  | zero =>
    intro K i bs hi hb hK hf
    obtain rfl : i = n := by omega
    show _ = some (if (-1 : Int) = -1 then _ else _)
    rw [if_pos rfl]
    exact hf rfl K (by omega)
  | succ d ih =>
    intro K i bs hi hb hK hf
    obtain ⟨K, rfl⟩ : ∃ k', K = k' + 1 + 1 + 1 := ⟨K - 3, by omega⟩
    have hj4 : ∀ bs' : List Bool, bs'.length = n + 1 → (stGo l pl (d + 1) i bs = stGo l pl d (i + 1) (nextB i (endsB (opB l i)) bs')) →
        pianolaref08_Blocks.j4 (K + 1) l pl bs' (i : Int) = some (if (stGo l pl (d + 1) i bs).2 = -1 then R else ([], 80, (stGo l pl (d + 1) i bs).2)) := by
      intro bs' hb' he
      rw [he] at hf ⊢
      have h1 := ih K (i + 1) (nextB i (endsB (opB l i)) bs') (by omega) (by rw [nextB_len]; exact hb') (by omega) hf
      rw [pianolaref08_Blocks.j4, if_pos (by omega), if_pos (by omega), refE_run, Option.bind_some, w1 i (by omega)]
      rw [show (rd_T34 l (i : Int)).f0 = opB l i from rfl]
      rw [← h1]
      cases hc : endsB (opB l i) with
      | true =>
        rw [if_pos rfl, if_pos (by omega), if_pos (by omega), Int.toNat_natCast, nextB_true]
      | false =>
        rw [if_neg (by decide), nextB_false i bs' (by omega)]
    have hj3 : pianolaref08_Blocks.j3 (K + 1 + 1) l pl bs (i : Int) (jumpsB (opB l i)) = some (if (stGo l pl (d + 1) i bs).2 = -1 then R else ([], 80, (stGo l pl (d + 1) i bs).2)) := by
      rw [pianolaref08_Blocks.j3]
      by_cases hj : jumpsB (opB l i) = true
      · rw [if_pos hj, if_pos (by omega), if_pos (by omega), find_run pl _ (by omega) (K + 1) (by omega), Option.bind_some]
        rw [show (rd_T34 l (i : Int)).f1 = argB l i from rfl]
        have hlt := fnd_lt pl (argB l i)
        by_cases hneg : fnd pl (argB l i) < 0
        · rw [if_pos hneg]
          have e : stGo l pl (d + 1) i bs = (bs, (i : Int)) := by
            rw [stGo, if_pos hj, if_pos hneg]
          rw [e]
          dsimp only
          rw [if_neg (by omega)]
        · rw [if_neg hneg, if_pos (by omega), if_pos (by omega)]
          exact hj4 _ (by rw [List.length_set]; exact hb) (by rw [stGo, if_pos hj, if_neg hneg])
      · rw [if_neg hj]
        exact hj4 bs hb (by rw [stGo, if_neg hj])
    rw [← jumpsB_or] at hj3
    rw [pianolaref08_Blocks.l1, if_pos (by omega), if_pos (by omega)]
    rw [show (rd_T34 l (i : Int)).f0 = opB l i from rfl]
    split
    · rename_i c
      rw [if_pos c] at hj3
      exact hj3
    · rename_i c
      rw [if_neg c] at hj3
      exact hj3
theorem ref_end (l : List S34) (pl : List Int) (n : Nat) (bs : List Bool) (hb : bs.length = n + 1) (h0 : 0 < n) (h : BegOK l pl (begL bs n) n) (K : Nat) (hK : 7 * n + 20 ≤ K) :
    pianolaref08_Blocks.l1 K l pl bs (n : Int) = some (if stopsB (opB l (n - 1)) = true then ((List.range (begL bs n).length).map (blkB l pl (begL bs n)), 0, ((begL bs n).length : Int)) else ([], 80, ((n - 1 : Nat) : Int))) := by
  obtain ⟨K, rfl⟩ : ∃ k', K = k' + 1 + 1 := ⟨K - 2, by omega⟩
  have hn := h.ln
  have hgl := h.gl
  have hmx := h.mx
  have hw1 : wrap64 ((l.length : Int) - 1) = ((n - 1 : Nat) : Int) := by unfold wrap64; omega
  have hj5 : pianolaref08_Blocks.j5 (K + 1) l pl bs (!stopsB (opB l (n - 1))) = some (if stopsB (opB l (n - 1)) = true then ((List.range (begL bs n).length).map (blkB l pl (begL bs n)), 0, ((begL bs n).length : Int)) else ([], 80, ((n - 1 : Nat) : Int))) := by
    rw [pianolaref08_Blocks.j5]
    by_cases hs : stopsB (opB l (n - 1)) = true
    · rw [hs, if_neg (by decide), if_pos rfl]
      exact ref_l2 l pl bs n (5 * (begL bs n).length + n + 12) _ hn hb hmx (fun K hK => ref_l3 h (begL bs n).length K 0 (by omega) hK) n K 0 (by omega) (by omega)
    · rw [Bool.eq_false_iff.2 hs, if_pos (by decide), if_neg (by decide), hw1]
  rw [← stopsB_not] at hj5
  rw [pianolaref08_Blocks.l1, if_neg (by omega), hw1, if_pos (by omega), if_pos (by omega)]
  rw [show (rd_T34 l ((n - 1 : Nat) : Int)).f0 = opB l (n - 1) from rfl]
  split
  · rename_i c
    rw [if_pos c] at hj5
    exact hj5
  · rename_i c
    rw [if_neg c] at hj5
    split
    · rename_i c2
      rw [if_pos c2] at hj5
      exact hj5
    · rename_i c2
      rw [if_neg c2] at hj5
      exact hj5
theorem ref_l0 (l : List S34) (pl : List Int) (n F : Nat) (R : List S30 × Int × Int) (hn : l.length = n) (hp : pl.length = n) (hmx : n ≤ 10000) (b : Bool) (hbr : b = true ↔ RiseL pl) (hf : RiseL pl → ∀ K, F ≤ K → pianolaref08_Blocks.l1 K l pl (true :: List.replicate n false) 0 = some R) :
    ∀ (d K i : Nat), 1 ≤ i → n ≤ i + d → d + 1 + F ≤ K → (∀ m : Nat, 1 ≤ m → m < i → m < n → rd pl ((m - 1 : Nat) : Int) < rd pl (m : Int)) →
      pianolaref08_Blocks.l0 K l pl (i : Int) = some (if b = true then R else ([], 1, 0)) := by
  intro d
  have hend : ∀ (K i : Nat), n ≤ i → 1 + F ≤ K → (∀ m : Nat, 1 ≤ m → m < i → m < n → rd pl ((m - 1 : Nat) : Int) < rd pl (m : Int)) → pianolaref08_Blocks.l0 K l pl (i : Int) = some (if b = true then R else ([], 1, 0)) := by
    intro K i hi hK hm
    obtain ⟨K, rfl⟩ : ∃ k', K = k' + 1 := ⟨K - 1, by omega⟩
    have hr : RiseL pl := fun m h1 h2 => hm m h1 (by omega) (by omega)
    have hw : wrap64 ((l.length : Int) + 1) = ((n + 1 : Nat) : Int) := by rw [hn]; exact w1 n (by omega)
    rw [pianolaref08_Blocks.l0, if_neg (by omega), hw, if_pos (by omega), Int.toNat_natCast, if_pos (by omega), Option.bind_some, if_pos (by simp), if_pos (hbr.2 hr)]
    exact hf hr K (by omega)
  induction d with
  | zero =>
    intro K i h1 hi hK hm
    exact hend K i (by omega) (by omega) hm
  | succ d ih =>
    intro K i h1 hi hK hm
    by_cases hlt : i < n
    · obtain ⟨K, rfl⟩ : ∃ k', K = k' + 1 := ⟨K - 1, by omega⟩
      have hw : wrap64 ((i : Int) - 1) = ((i - 1 : Nat) : Int) := by unfold wrap64; omega
      rw [pianolaref08_Blocks.l0, if_pos (by omega), if_pos (by omega), hw, if_pos (by omega), if_pos (by omega)]
      by_cases hx : rd pl (i : Int) ≤ rd pl ((i - 1 : Nat) : Int)
      · rw [if_pos hx]
        have hb : ¬ b = true := fun h => by
          have := hbr.1 h i h1 (by omega)
          omega
        rw [if_neg hb]
      · rw [if_neg hx, w1 i (by omega)]
        refine ih K (i + 1) (by omega) (by omega) (by omega) (fun m hm1 hm2 hm3 => ?_)
        by_cases c : m = i
        · subst c; omega
        · exact hm m hm1 (by omega) hm3
    · exact hend K i (by omega) (by omega) hm
/-- The reference's Blocks. -/
theorem ref_run (l : List S34) (pl : List Int) (hmx : l.length ≤ 1000) (K : Nat) (hK : 12 * l.length + 60 ≤ K) (b : Bool) (hbr : b = true ↔ RiseL pl) :
    pianolaref08_Blocks.f K l pl = some (blocksM l pl b) := by
  obtain ⟨K, rfl⟩ : ∃ k', K = k' + 1 := ⟨K - 1, by omega⟩
  unfold pianolaref08_Blocks.f blocksM
  by_cases he : l.length = pl.length
  · rw [if_pos (by omega)]
    by_cases hz : l.length = 0
    · rw [if_neg (by omega), show ((l.length : Int) == 0) = true by simp [hz], pianolaref08_Blocks.j0, if_pos rfl]
    · rw [show ((l.length : Int) == 0) = false by rw [beq_eq_false_iff_ne]; omega, pianolaref08_Blocks.j0, if_neg (by decide)]
      obtain ⟨R, hR⟩ : ∃ R, R = (if (stGo l pl l.length 0 (true :: List.replicate l.length false)).2 = -1 then
        (if stopsB (opB l (l.length - 1)) = true then
          ((List.range (begL (stGo l pl l.length 0 (true :: List.replicate l.length false)).1 l.length).length).map (blkB l pl (begL (stGo l pl l.length 0 (true :: List.replicate l.length false)).1 l.length)), 0, ((begL (stGo l pl l.length 0 (true :: List.replicate l.length false)).1 l.length).length : Int))
        else ([], 80, ((l.length - 1 : Nat) : Int)))
        else (([] : List S30), (80 : Int), (stGo l pl l.length 0 (true :: List.replicate l.length false)).2)) := ⟨_, rfl⟩
      have h1 := ref_l0 l pl l.length (10 * l.length + 30) R rfl he.symm (by omega) b hbr (fun hr K hK => by
        rw [hR]
        have h2 := ref_l1 l pl l.length (7 * l.length + 20) (if stopsB (opB l (l.length - 1)) = true then
          ((List.range (begL (stGo l pl l.length 0 (true :: List.replicate l.length false)).1 l.length).length).map (blkB l pl (begL (stGo l pl l.length 0 (true :: List.replicate l.length false)).1 l.length)), 0, ((begL (stGo l pl l.length 0 (true :: List.replicate l.length false)).1 l.length).length : Int))
          else ([], 80, ((l.length - 1 : Nat) : Int))) rfl he.symm (by omega) (by omega) l.length K 0 (true :: List.replicate l.length false) (by omega) (by simp) (by omega) (fun hst K hK => by
            obtain ⟨hl, _⟩ := stGo_prop l pl l.length l.length 0 (true :: List.replicate l.length false) (by omega) (by simp) he.symm hst
            exact ref_end l pl l.length _ hl (by omega) (begOK l pl l.length rfl he.symm (by omega) hr hst) K hK)
        exact h2) l.length K 1 (by omega) (by omega) (by omega) (fun m h1 h2 => by omega)
      rw [show ((1 : Nat) : Int) = 1 from rfl] at h1
      rw [h1]
      cases b with
      | true => rw [if_pos rfl, if_pos ⟨he, hz, rfl⟩, hR]
      | false => rw [if_neg (by decide), if_neg (by simp)]
  · rw [if_neg (by omega), if_neg (by omega), pianolaref08_Blocks.j0, if_pos rfl]
end Go.Proofs.Ytpfbfnbffglbkaa.P
