/- The law CpuFlags holds for every input: it returns true, and each argument reads behind the call as it read before. No condition. -/
import Derived.Test.YtjhgbddcenhkfaaRows
import Derived.Test.YtjhgbddcenhkfaaPF3
import Derived.Test.YtjhgbddcenhkfaaPureCpuFlags
import Derived.Test.YtjhgbddcenhkfaaOpn
import Derived.WalkKit
import Derived.ProofKit
import Derived.OpenShut
import Derived.ShutString
import Derived.ChangeOld
import Derived.Below
import Derived.SizedLaws
import Derived.Test.YtjhgbddcenhkfaaWSized
namespace Go.Proofs.Ytjhgbddcenhkfaa.cpuFlags
open Go.ChangeShapes Go.WideShapes Go.ChangeAt Go.RowKit Go.Proofs.YtjhgbddcenhkfaaOpn Go.Proofs.Ytjhgbddcenhkfaa.P Go.Proofs.YtjhgbddcenhkfaaW.PrintWords
open Go.ChangeMaps (open_string shut_string)
set_option linter.unusedVariables false
theorem own : ownKnob Try.prog.godebug = none := by kernel_rfl
theorem laidOut : laidOutB Try.prog = true := by kernel_rfl
theorem op4 : Opens Try.prog 4 Kd.bool (fun _ => True) := opens_bool Try.underlying4
theorem op23 : Opens Try.prog 23 k23 (fun x => (True) ∧ (True) ∧ (True) ∧ (True)) := opens_iso (fun x : S23 => (x.f0, x.f1, x.f2, x.f3)) (fun y => (⟨y.1, y.2.1, y.2.2.1, y.2.2.2⟩ : S23)) (fun _ => rfl) (opens_struct Try.underlying23 (opensF_cons rfl op4 (by kernel_rfl) (opensF_cons rfl op4 (by kernel_rfl) (opensF_cons rfl op4 (by kernel_rfl) (opensF_one rfl op4 (by kernel_rfl))))) (by kernel_rfl))
set_option maxRecDepth 100000 in
theorem lifted (os : Os) (started : os.Started) (H : Type) (enc : TypeId × Value → H) :
    ReturnsInHanded {} Try.checked os 3 .any (Rows.cpuFlagsSpec.pre6 enc Try.prog Try.f3 Rows.cpuFlagsRow.domain false) (Rows.cpuFlagsSpec.post enc Try.prog Try.f3 false true false false) := by
  refine returnsInHanded_of_change_sized (C := Try.checked) own started (by kernel_rfl) Try.func3
    (ChangeSpec.witness6 (enc := enc) (C := Try.checked) false ⟨#[], #[.int .i64 0, .int .i64 0, .int .i64 0, .agg #[.bool false, .bool false, .bool false, .bool false]], []⟩ 8 (by kernel_rfl) (by kernel_rfl) (by kernel_rfl) (by kernel_rfl)) ?_
  intro W base args ds gs before hval0 hW hcnd hsz0 _
  have hsz : (DataW.weightsEach Try.prog (Try.f3.params.toList ++ Rows.cpuFlagsSpec.plain.varTypes Try.prog) (ds ++ gs)).all (· ≤ reachBytes) = true := hsz0
  have hval : ∀ (j : Nat) t v, Try.f3.params[j]? = some t → args[j]? = some v → Value.okWide Try.prog W .any base t v := hval0
  have hW' := hW
  obtain ⟨p, q, hA0, hV, rfl, hfz, hnd⟩ := hW
  have hA : DataW.TrodAll enc Try.prog W 0 (fun _ => true) true Try.f3.params.toList args.toList ds p := hA0
  rw [Try.params3] at hA hval hsz
  obtain ⟨v0, vs0, d0, ds0, p0, q0, hargs, rfl, rfl, h0, r0⟩ := trodAll_cons hA
  obtain ⟨v1, vs1, d1, ds1, p1, q1, rfl, rfl, rfl, h1, r1⟩ := trodAll_cons r0
  obtain ⟨v2, vs2, d2, ds2, p2, q2, rfl, rfl, rfl, h2, r2⟩ := trodAll_cons r1
  obtain ⟨v3, vs3, d3, ds3, p3, q3, rfl, rfl, rfl, h3, r3⟩ := trodAll_cons r2
  obtain ⟨rfl, rfl, rfl⟩ := trodAll_nil r3
  obtain rfl : args = #[v0, v1, v2, v3] := by cases args; simp_all
  obtain ⟨rfl, rfl⟩ := trodVars_none hV
  obtain ⟨x0, rfl, rfl, rfl, w0⟩ := open_int Try.underlying3 (hval 0 3 v0 rfl rfl) h0
  obtain ⟨x1, rfl, rfl, rfl, w1⟩ := open_int Try.underlying3 (hval 1 3 v1 rfl rfl) h1
  obtain ⟨x2, rfl, rfl, rfl, w2⟩ := open_int Try.underlying3 (hval 2 3 v2 rfl rfl) h2
  have k3 := h3
  have lt3 : ∀ x ∈ p3, x.block < W.heap.size := by obtain ⟨m, hm⟩ := k3; exact DataW.trod_lt m _ _ _ hm
  have w3 := weightsEach_get hsz (j := 3) (t := 23) rfl rfl
  obtain ⟨cs3, rfl, hz3⟩ := okWide_struct Try.underlying23 (hval 3 23 v3 rfl rfl)
  obtain ⟨x3, hk3, g3⟩ : ∃ y, (k23).K W y cs3.toList ∧ ((True) ∧ (True) ∧ (True) ∧ (True)) := by
    obtain ⟨fuel, hf⟩ := h3
    exact op23.op (by simpa [Value.cells] using hf) w3
  obtain rfl : cs3 = _ := Array.ext' (k23_open hk3)
  clear hA0 hval0 hsz0 hsz
  obtain ⟨k, h⟩ := Pure.CpuFlags x0 x1 x2 x3 w0 w1 w2 g3
  refine (P.pianolalaw14_CpuFlags.calls k x0 x1 x2 x3.f0 x3.f1 x3.f2 x3.f3 true W  h).mono fun e W' hp => ?_
  obtain ⟨he, bel0⟩ := hp
  have bel : Below W.heap.size W W' := bel0
  subst he
  exact ⟨_, rfl, _, _, _, [], _, [], hW', trodAll_mk1 (shut_bool Try.underlying4 _), (trodAll_cons_mk (shut_int Try.underlying3 w0) (trodAll_cons_mk (shut_int Try.underlying3 w1) (trodAll_cons_mk (shut_int Try.underlying3 w2) (trodAll_cons_mk (Below.trod laidOut (by kernel_rfl) (of_decide_eq_true (by kernel_rfl)) k3 bel lt3) trodAll_mk0)))), rfl, bel.frame _, fun h => by cases h⟩
theorem over : Rows.cpuFlagsRow.holds Try.pinned (OpenSpec.ofChange Rows.cpuFlagsSpec) :=
  OpenClaim.holds_of_wide 3 Try.f3 rfl rfl rfl rfl rfl rfl rfl ⟨rfl, rfl, rfl, rfl, rfl⟩ rfl rfl rfl rfl rfl (by kernel_rfl) Try.func3 (by kernel_rfl)
    (of_decide_eq_true (by kernel_rfl)) (by unfold Func.isWrapper; first | (rw [if_pos (by decide +kernel)]; kernel_rfl) | (rw [if_neg (by decide +kernel)]; exact ⟨rfl, rfl⟩))
    (fun os started H enc _ => lifted os started H enc)
end Go.Proofs.Ytjhgbddcenhkfaa.cpuFlags
namespace Go.Proofs.Ytjhgbddcenhkfaa
/-- The law CpuFlags holds. -/
theorem cpuFlags_holds : Rows.CpuFlagsSaid := cpuFlags.over
#print axioms cpuFlags_holds
end Go.Proofs.Ytjhgbddcenhkfaa
