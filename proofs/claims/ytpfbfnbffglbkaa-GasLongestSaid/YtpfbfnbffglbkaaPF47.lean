/- Ytpfbfnbffglbkaa: what Go functions come to, and that they do: walks, printed by a program of this session or typed by hand; no statement of the seat stands here. -/
import Derived.Test.YtpfbfnbffglbkaaP0
import Derived.LoopTactic
namespace Go.Proofs.Ytpfbfnbffglbkaa.P
open Go.RowKit Go.Proofs.YtpfbfnbffglbkaaW.PrintWords Go.Proofs.YtpfbfnbffglbkaaW.PrintLast Go.Proofs.YtpfbfnbffglbkaaW.PrintMore
attribute [local go_sem] max2_int min2_int max_two min_two max_three min_three max_four min_four   -- for this text's walks alone
set_option linter.unusedVariables false
set_option linter.unusedSimpArgs false


/-! ### slices_Min_int_int: function 47 -/
-- IMPORT Derived.LoopTactic
/-- The least of a row. -/
def minL : List Int → Int
  | [] => 0
  | x :: l => l.foldl (fun m y => if y < m then y else m) x
def slices_Min_int_int.f (l0 : List Int) : Option Int := if l0.length = 0 then none else some (minL l0)
theorem minL_snoc (l : List Int) (y : Int) (h : l ≠ []) : minL (l ++ [y]) = if y < minL l then y else minL l := by
  match l, h with
  | x :: l, _ => rw [List.cons_append, minL, minL, List.foldl_append]; rfl
def MinP (w : World) (r : Int) (e : Ending) (w' : World) : Prop := e = .returned (.int .i64 r) ∧ w' = w
set_option maxRecDepth 100000 in
set_option maxHeartbeats 1000000 in
theorem min_walk (A0 : Option Addr) (c0 : Nat) (l0 : List Int) (w : World) (hr0 : Kd.C (Kd.int .i64) w A0 l0.length l0) (h0 : 0 < l0.length) :
    Calls Try.prog 47 #[.slice A0 l0.length c0] w (MinP w (minL l0)) := by
  have hmx := Kd.C_max hr0
  obtain ⟨ad, rfl, hc0⟩ := Kd.at_int hr0 0 (by omega) (by omega)
  have hc1 : w.cell? ad = some (.int .i64 (rd l0 0)) := by
    have e : ad.add (Int.toNat 0) = ad := by
      cases ad
      simp [Addr.add]
    rw [e] at hc0
    exact hc0
  clear hc0
  have HR := Aside0.mk hr0
  have hi0 : ¬ (l0.length : Int) < 1 := by omega
  have hi1 : (0 : Int) < (l0.length : Int) := by omega
  clear hr0
  go_enter Try.func47, Try.ntmps47
  go_wp2
  go_loop [3, 4] (fun v3 v4 => ∃ k : Nat, v4 = .int .i64 k ∧ 1 ≤ k ∧ k ≤ l0.length ∧ v3 = .int .i64 (minL (l0.take k))) (fun _ v4 => l0.length - (intOf v4).toNat)
  case atStart =>
    refine ⟨1, rfl, Nat.le_refl _, by omega, ?_⟩
    match l0, h0 with
    | x :: l, _ => rfl
  case round =>
    obtain ⟨k, rfl, hk1, hk2, rfl⟩ := hrel
    obtain ⟨m, hm⟩ : ∃ m, m = minL (l0.take k) := ⟨_, rfl⟩
    rw [← hm]
    have HM := Aside0.mk hm
    clear hm
    by_cases hlt : k < l0.length
    · have hi2 : (k : Int) < (l0.length : Int) := by omega
      obtain ⟨ad2, hA2, hc⟩ := Kd.at_int HR.out (k : Int) (by omega) (by omega)
      obtain rfl := Option.some.inj hA2
      rw [Int.toNat_natCast] at hc
      obtain ⟨y, hy⟩ : ∃ y, y = rd l0 (k : Int) := ⟨_, rfl⟩
      rw [← hy] at hc
      have HY := Aside0.mk hy
      clear hy
      have hst : minL (l0.take (k + 1)) = if y < m then y else m := by
        rw [List.take_succ_eq_append_getElem hlt, minL_snoc _ _ (List.ne_nil_of_length_pos (by rw [List.length_take]; omega)), ← HM.out]
        have : y = l0[k] := by
          rw [HY.out]
          unfold rd
          rw [Int.toNat_natCast, List.getD_eq_getElem?_getD, List.getElem?_eq_getElem hlt]
          rfl
        rw [this]
      have HST := Aside0.mk hst
      clear hst
      go_wp2
      all_goals
        go_round
        case rel => exact ⟨k + 1, by go_num, by omega, by omega, by rw [HST.out]⟩
        case measure => simp only [intOf]; omega
    · have hi2 : ¬ (k : Int) < (l0.length : Int) := by omega
      have hke : k = l0.length := by omega
      have HKE := Aside0.mk hke
      clear hke
      go_wp2
      go_ret
      exact ⟨by rw [HM.out, HKE.out, List.take_length]; rfl, rfl⟩
theorem slices_Min_int_int.calls (A0 : Option Addr) (c0 : Nat) (l0 : List Int) (r : Int) (w : World) (hr0 : Kd.C (Kd.int .i64) w A0 l0.length l0) (hc0 : l0.length ≤ c0) (h : slices_Min_int_int.f l0 = some r) :
    Calls Try.prog 47 #[.slice A0 l0.length c0] w fun e w' => e = .returned (.int .i64 r) ∧ Drawn0 w w' := by
  unfold slices_Min_int_int.f at h
  split at h
  · exact absurd h (by simp)
  · obtain rfl := Option.some.inj h
    exact (min_walk A0 c0 l0 w hr0 (by omega)).mono fun e w' h => ⟨h.1, by rw [h.2]; exact Drawn0.refl w⟩

end Go.Proofs.Ytpfbfnbffglbkaa.P
