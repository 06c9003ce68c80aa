/- The law FlowReaches holds for every input: it returns true, and each argument reads behind the call as it read before. No condition. -/
import Derived.Test.YtpfbfnbffglbkaaRows
import Derived.Test.YtpfbfnbffglbkaaPF8
import Derived.Test.YtpfbfnbffglbkaaPureFlowReaches
import Derived.Test.YtpfbfnbffglbkaaOpn
import Derived.WalkKit
import Derived.ProofKit
import Derived.OpenShut
import Derived.ShutString
import Derived.ChangeOld
import Derived.Below
import Derived.SizedLaws
import Derived.Test.YtpfbfnbffglbkaaWSized
namespace Go.Proofs.Ytpfbfnbffglbkaa.flowReaches
open Go.ChangeShapes Go.WideShapes Go.ChangeAt Go.RowKit Go.Proofs.YtpfbfnbffglbkaaOpn Go.Proofs.Ytpfbfnbffglbkaa.P Go.Proofs.YtpfbfnbffglbkaaW.PrintWords
open Go.ChangeMaps (open_string shut_string)
set_option linter.unusedVariables false
theorem own : ownKnob Try.prog.godebug = none := by kernel_rfl
theorem laidOut : laidOutB Try.prog = true := by kernel_rfl
theorem op3 : Opens Try.prog 3 (Kd.int .i64) (fun n => (Lit.int .i64 n).wf = true) := opens_int Try.underlying3
theorem op23 : Opens Try.prog 23 (Kd.slice 3 (Kd.int .i64)) (fun x => (∀ y_x ∈ x, (Lit.int .i64 y_x).wf = true) ∧ x.length * 8 ≤ reachBytes) := opens_slice Try.underlying23 op3 (by kernel_rfl) (by kernel_rfl)
theorem op30 : Opens Try.prog 30 k30 (fun x => ((Lit.int .i64 x.f0).wf = true) ∧ ((Lit.int .i64 x.f1).wf = true) ∧ ((∀ y_x_f2 ∈ x.f2, (Lit.int .i64 y_x_f2).wf = true) ∧ x.f2.length * 8 ≤ reachBytes)) := opens_iso (fun x : S30 => (x.f0, x.f1, x.f2)) (fun y => (⟨y.1, y.2.1, y.2.2⟩ : S30)) (fun _ => rfl) (opens_struct Try.underlying30 (opensF_cons rfl op3 (by kernel_rfl) (opensF_cons rfl op3 (by kernel_rfl) (opensF_one rfl op23 (by kernel_rfl)))) (by kernel_rfl))
theorem op25 : Opens Try.prog 25 (Kd.slice 30 k30) (fun x => (∀ y_x ∈ x, ((Lit.int .i64 y_x.f0).wf = true) ∧ ((Lit.int .i64 y_x.f1).wf = true) ∧ ((∀ y_y_x_f2 ∈ y_x.f2, (Lit.int .i64 y_y_x_f2).wf = true) ∧ y_x.f2.length * 8 ≤ reachBytes)) ∧ x.length * 40 ≤ reachBytes) := opens_slice Try.underlying25 op30 (by kernel_rfl) (by kernel_rfl)
set_option maxRecDepth 100000 in
theorem lifted (os : Os) (started : os.Started) (H : Type) (enc : TypeId × Value → H) :
    ReturnsInHanded {} Try.checked os 8 .any (Rows.flowReachesSpec.pre6 enc Try.prog Try.f8 Rows.flowReachesRow.domain false) (Rows.flowReachesSpec.post enc Try.prog Try.f8 false true false false) := by
  refine returnsInHanded_of_change_sized (C := Try.checked) own started (by kernel_rfl) Try.func8
    (ChangeSpec.witness6 (enc := enc) (C := Try.checked) false ⟨#[], #[.slice none 0 0], []⟩ 8 (by kernel_rfl) (by kernel_rfl) (by kernel_rfl) (by kernel_rfl)) ?_
  intro W base args ds gs before hval0 hW hcnd hsz0 _
  have hsz : (DataW.weightsEach Try.prog (Try.f8.params.toList ++ Rows.flowReachesSpec.plain.varTypes Try.prog) (ds ++ gs)).all (· ≤ reachBytes) = true := hsz0
  have hval : ∀ (j : Nat) t v, Try.f8.params[j]? = some t → args[j]? = some v → Value.okWide Try.prog W .any base t v := hval0
  have hW' := hW
  obtain ⟨p, q, hA0, hV, rfl, hfz, hnd⟩ := hW
  have hA : DataW.TrodAll enc Try.prog W 0 (fun _ => true) true Try.f8.params.toList args.toList ds p := hA0
  rw [Try.params8] at hA hval hsz
  obtain ⟨v0, vs0, d0, ds0, p0, q0, hargs, rfl, rfl, h0, r0⟩ := trodAll_cons hA
  obtain ⟨rfl, rfl, rfl⟩ := trodAll_nil r0
  obtain rfl : args = #[v0] := by cases args; simp_all
  obtain ⟨rfl, rfl⟩ := trodVars_none hV
  have k0 := h0
  have lt0 : ∀ x ∈ p0, x.block < W.heap.size := by obtain ⟨m, hm⟩ := k0; exact DataW.trod_lt m _ _ _ hm
  have w0 := weightsEach_get hsz (j := 0) (t := 25) rfl rfl
  obtain ⟨a0, len0, cap0, rfl⟩ := okWide_slice Try.underlying25 (hval 0 25 v0 rfl rfl)
  obtain ⟨x0, ⟨A0, c0, e0, hc0, hr0⟩, g0⟩ : ∃ y, ((Kd.slice 30 k30)).K W y [.slice a0 len0 cap0] ∧ ((∀ y_y ∈ y, ((Lit.int .i64 y_y.f0).wf = true) ∧ ((Lit.int .i64 y_y.f1).wf = true) ∧ ((∀ y_y_y_f2 ∈ y_y.f2, (Lit.int .i64 y_y_y_f2).wf = true) ∧ y_y.f2.length * 8 ≤ reachBytes)) ∧ y.length * 40 ≤ reachBytes) := by
    obtain ⟨fuel, hf⟩ := h0
    exact op25.op (by simpa [Value.cells] using hf) w0
  simp only [List.cons.injEq, Value.slice.injEq, and_true] at e0
  obtain ⟨rfl, rfl, rfl⟩ := e0
  clear hA0 hval0 hsz0 hsz
  have h := Pure.FlowReaches x0 g0
  refine (P.pianolalaw08_FlowReaches.calls _ _ x0 true W hr0 hc0 h).mono fun e W' hp => ?_
  obtain ⟨he, bel0⟩ := hp
  have bel : Below W.heap.size W W' := bel0
  subst he
  exact ⟨_, rfl, _, _, _, [], _, [], hW', trodAll_mk1 (shut_bool Try.underlying4 _), (trodAll_cons_mk (Below.trod laidOut (by kernel_rfl) (of_decide_eq_true (by kernel_rfl)) k0 bel lt0) trodAll_mk0), rfl, bel.frame _, fun h => by cases h⟩
theorem over : Rows.flowReachesRow.holds Try.pinned (OpenSpec.ofChange Rows.flowReachesSpec) :=
  OpenClaim.holds_of_wide 8 Try.f8 rfl rfl rfl rfl rfl rfl rfl ⟨rfl, rfl, rfl, rfl, rfl⟩ rfl rfl rfl rfl rfl (by kernel_rfl) Try.func8 (by kernel_rfl)
    (of_decide_eq_true (by kernel_rfl)) (by unfold Func.isWrapper; first | (rw [if_pos (by decide +kernel)]; kernel_rfl) | (rw [if_neg (by decide +kernel)]; exact ⟨rfl, rfl⟩))
    (fun os started H enc _ => lifted os started H enc)
end Go.Proofs.Ytpfbfnbffglbkaa.flowReaches
namespace Go.Proofs.Ytpfbfnbffglbkaa
/-- The law FlowReaches holds. -/
theorem flowReaches_holds : Rows.FlowReachesSaid := flowReaches.over
#print axioms flowReaches_holds
end Go.Proofs.Ytpfbfnbffglbkaa
