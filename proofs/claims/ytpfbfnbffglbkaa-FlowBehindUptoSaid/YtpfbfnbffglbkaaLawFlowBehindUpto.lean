/- The law FlowBehind holds for every input whose arguments are together of bulk at most 1048576 (the second form): it returns true, and each argument reads behind the call as it read before. Condition: that bound. -/
import Derived.Test.YtpfbfnbffglbkaaRows
import Derived.Test.YtpfbfnbffglbkaaPF6
import Derived.Test.YtpfbfnbffglbkaaPureFlowBehind
import Derived.Test.YtpfbfnbffglbkaaOpn
import Derived.Test.YtpfbfnbffglbkaaOpnU
import Derived.Test.YtpfbfnbffglbkaaBehU
import Derived.JoinedCond
import Derived.Deep.CondSized
import Derived.WalkKit
import Derived.ProofKit
import Derived.OpenShut
import Derived.ShutString
import Derived.ChangeOld
import Derived.Below
import Derived.SizedLaws
import Derived.Test.YtpfbfnbffglbkaaWSized
namespace Go.Proofs.Ytpfbfnbffglbkaa.flowBehindUpto
open Go.ChangeShapes Go.WideShapes Go.ChangeAt Go.RowKit Go.Proofs.YtpfbfnbffglbkaaOpn Go.Proofs.YtpfbfnbffglbkaaOpnU Go.Proofs.Ytpfbfnbffglbkaa.P Go.Proofs.YtpfbfnbffglbkaaW.PrintWords
open Go.ChangeMaps (open_string shut_string)
set_option linter.unusedVariables false
theorem own : ownKnob Try.prog.godebug = none := by kernel_rfl
theorem laidOut : laidOutB Try.prog = true := by kernel_rfl
theorem op3 : Opens Try.prog 3 (Kd.int .i64) (fun n => (Lit.int .i64 n).wf = true) := opens_int Try.underlying3
theorem op3u : OpensU Try.prog 3 (Kd.int .i64) (fun n => (Lit.int .i64 n).wf = true) (fun _ => 1) := opensU_of op3
theorem op23 : Opens Try.prog 23 (Kd.slice 3 (Kd.int .i64)) (fun x => (∀ y_x ∈ x, (Lit.int .i64 y_x).wf = true) ∧ x.length * 8 ≤ reachBytes) := opens_slice Try.underlying23 op3 (by kernel_rfl) (by kernel_rfl)
theorem op23u : OpensU Try.prog 23 (Kd.slice 3 (Kd.int .i64)) (fun x => (∀ y_x ∈ x, (Lit.int .i64 y_x).wf = true) ∧ x.length * 8 ≤ reachBytes) (fun l => massL (fun _ => 1) l + 1) := opensU_slice Try.underlying23 op3u (by kernel_rfl) (by kernel_rfl)
theorem op30 : Opens Try.prog 30 k30 (fun x => ((Lit.int .i64 x.f0).wf = true) ∧ ((Lit.int .i64 x.f1).wf = true) ∧ ((∀ y_x_f2 ∈ x.f2, (Lit.int .i64 y_x_f2).wf = true) ∧ x.f2.length * 8 ≤ reachBytes)) := opens_iso (fun x : S30 => (x.f0, x.f1, x.f2)) (fun y => (⟨y.1, y.2.1, y.2.2⟩ : S30)) (fun _ => rfl) (opens_struct Try.underlying30 (opensF_cons rfl op3 (by kernel_rfl) (opensF_cons rfl op3 (by kernel_rfl) (opensF_one rfl op23 (by kernel_rfl)))) (by kernel_rfl))
theorem op30u : OpensU Try.prog 30 k30 (fun x => ((Lit.int .i64 x.f0).wf = true) ∧ ((Lit.int .i64 x.f1).wf = true) ∧ ((∀ y_x_f2 ∈ x.f2, (Lit.int .i64 y_x_f2).wf = true) ∧ x.f2.length * 8 ≤ reachBytes)) (fun x : S30 => ((fun _ => 1) x.f0 + (((fun _ => 1) x.f1 + ((fun l => massL (fun _ => 1) l + 1) x.f2))))) := opensU_iso (fun x : S30 => (x.f0, x.f1, x.f2)) (fun y => (⟨y.1, y.2.1, y.2.2⟩ : S30)) (fun _ => rfl) (opensU_struct Try.underlying30 (opensFU_cons rfl op3u (by kernel_rfl) (opensFU_cons rfl op3u (by kernel_rfl) (opensFU_one rfl op23u (by kernel_rfl)))) (by kernel_rfl))
theorem op25 : Opens Try.prog 25 (Kd.slice 30 k30) (fun x => (∀ y_x ∈ x, ((Lit.int .i64 y_x.f0).wf = true) ∧ ((Lit.int .i64 y_x.f1).wf = true) ∧ ((∀ y_y_x_f2 ∈ y_x.f2, (Lit.int .i64 y_y_x_f2).wf = true) ∧ y_x.f2.length * 8 ≤ reachBytes)) ∧ x.length * 40 ≤ reachBytes) := opens_slice Try.underlying25 op30 (by kernel_rfl) (by kernel_rfl)
theorem op25u : OpensU Try.prog 25 (Kd.slice 30 k30) (fun x => (∀ y_x ∈ x, ((Lit.int .i64 y_x.f0).wf = true) ∧ ((Lit.int .i64 y_x.f1).wf = true) ∧ ((∀ y_y_x_f2 ∈ y_x.f2, (Lit.int .i64 y_y_x_f2).wf = true) ∧ y_x.f2.length * 8 ≤ reachBytes)) ∧ x.length * 40 ≤ reachBytes) (fun l => massL (fun x : S30 => ((fun _ => 1) x.f0 + (((fun _ => 1) x.f1 + ((fun l => massL (fun _ => 1) l + 1) x.f2))))) l + 1) := opensU_slice Try.underlying25 op30u (by kernel_rfl) (by kernel_rfl)
set_option maxRecDepth 100000 in
theorem lifted (os : Os) (started : os.Started) (H : Type) (enc : TypeId × Value → H) (F : Stop.Interp) :
    ReturnsInHanded {} Try.checked os 6 .any ((Rows.OpenSpec.upto Rows.flowBehindSpec).pre6 enc Try.prog Try.f6 Rows.flowBehindUptoRow.domain false) (((Rows.OpenSpec.upto Rows.flowBehindSpec).at F).post enc Try.prog Try.f6 false true false false) := by
  refine returnsInHanded_of_cond_sized (C := Try.checked) (s := Rows.OpenSpec.upto Rows.flowBehindSpec) (k := Rows.uptoSmall) rfl own started (by kernel_rfl) Try.func6
    (OpenSpec.witness (enc := enc) (C := Try.checked) (s := Rows.OpenSpec.upto Rows.flowBehindSpec) (k := Rows.uptoSmall) rfl false ⟨#[], #[.slice none 0 0, .int .i64 0], []⟩ 8 (by kernel_rfl) (by kernel_rfl) (by kernel_rfl)
      (x := ([.nil, .lit (.int .i64 0)], [], [])) (by kernel_rfl) rfl (by kernel_rfl)) ?_
  intro W base args ds gs before hval0 hW hcnd hkb hsz0 _
  have hsz : (DataW.weightsEach Try.prog (Try.f6.params.toList ++ Rows.flowBehindSpec.plain.varTypes Try.prog) (ds ++ gs)).all (· ≤ reachBytes) = true := hsz0
  have hval : ∀ (j : Nat) t v, Try.f6.params[j]? = some t → args[j]? = some v → Value.okWide Try.prog W .any base t v := hval0
  have hW' := hW
  obtain ⟨p, q, hA0, hV, rfl, hfz, hnd⟩ := hW
  have hA : DataW.TrodAll enc Try.prog W 0 (fun _ => true) true Try.f6.params.toList args.toList ds p := hA0
  rw [Try.params6] at hA hval hsz
  obtain ⟨v0, vs0, d0, ds0, p0, q0, hargs, rfl, rfl, h0, r0⟩ := trodAll_cons hA
  obtain ⟨v1, vs1, d1, ds1, p1, q1, rfl, rfl, rfl, h1, r1⟩ := trodAll_cons r0
  obtain ⟨rfl, rfl, rfl⟩ := trodAll_nil r1
  obtain rfl : args = #[v0, v1] := by cases args; simp_all
  obtain ⟨rfl, rfl⟩ := trodVars_none hV
  have k0 := h0
  have lt0 : ∀ x ∈ p0, x.block < W.heap.size := by obtain ⟨m, hm⟩ := k0; exact DataW.trod_lt m _ _ _ hm
  have w0 := weightsEach_get hsz (j := 0) (t := 25) rfl rfl
  obtain ⟨a0, len0, cap0, rfl⟩ := okWide_slice Try.underlying25 (hval 0 25 v0 rfl rfl)
  obtain ⟨x0, ⟨A0, c0, e0, hc0, hr0⟩, g0, m0⟩ : ∃ y, ((Kd.slice 30 k30)).K W y [.slice a0 len0 cap0] ∧ ((∀ y_y ∈ y, ((Lit.int .i64 y_y.f0).wf = true) ∧ ((Lit.int .i64 y_y.f1).wf = true) ∧ ((∀ y_y_y_f2 ∈ y_y.f2, (Lit.int .i64 y_y_y_f2).wf = true) ∧ y_y.f2.length * 8 ≤ reachBytes)) ∧ y.length * 40 ≤ reachBytes) ∧ (fun l => massL (fun x : S30 => ((fun _ => 1) x.f0 + (((fun _ => 1) x.f1 + ((fun l => massL (fun _ => 1) l + 1) x.f2))))) l + 1) y ≤ Rows.uptoBulk d0 := by
    obtain ⟨fuel, hf⟩ := h0
    exact op25u.op (by simpa [Value.cells] using hf) w0
  simp only [List.cons.injEq, Value.slice.injEq, and_true] at e0
  obtain ⟨rfl, rfl, rfl⟩ := e0
  obtain ⟨x1, rfl, rfl, rfl, w1⟩ := open_int Try.underlying3 (hval 1 3 v1 rfl rfl) h1
  clear hA0 hval0 hsz0 hsz
  have hbk := Bulk.bound hkb
  simp only [List.cons_append, List.nil_append, Rows.uptoBulkAll] at hbk
  have h := Pure.FlowBehind x0 x1 (by have := g0.2; unfold reachBytes at this; omega) (beh_bulk _ _ m0 (by omega)) 
  refine (P.pianolalaw08_FlowBehind.calls _ _ x0 x1 true W hr0 hc0 h).mono fun e W' hp => ?_
  obtain ⟨he, bel0⟩ := hp
  have bel : Below W.heap.size W W' := bel0
  subst he
  exact ⟨_, rfl, _, _, _, [], _, [], hW', trodAll_mk1 (shut_bool Try.underlying4 _), (trodAll_cons_mk (Below.trod laidOut (by kernel_rfl) (of_decide_eq_true (by kernel_rfl)) k0 bel lt0) (trodAll_cons_mk (shut_int Try.underlying3 w1) trodAll_mk0)), rfl, bel.frame _, fun h => by cases h⟩
theorem over : Rows.flowBehindUptoRow.holds Try.pinned (Rows.OpenSpec.upto Rows.flowBehindSpec) :=
  OpenClaim.holds_of_cond 6 Try.f6 rfl rfl rfl rfl rfl rfl rfl ⟨rfl, rfl, rfl, rfl, rfl⟩ rfl rfl rfl rfl rfl (by kernel_rfl) Try.func6 (by kernel_rfl)
    (of_decide_eq_true (by kernel_rfl)) (by unfold Func.isWrapper; first | (rw [if_pos (by decide +kernel)]; kernel_rfl) | (rw [if_neg (by decide +kernel)]; exact ⟨rfl, rfl⟩))
    (fun os started H enc _ F => lifted os started H enc F)
end Go.Proofs.Ytpfbfnbffglbkaa.flowBehindUpto
namespace Go.Proofs.Ytpfbfnbffglbkaa
/-- The law FlowBehind holds, in the second form. -/
theorem flowBehindUpto_holds : Rows.FlowBehindUptoSaid := flowBehindUpto.over
#print axioms flowBehindUpto_holds
end Go.Proofs.Ytpfbfnbffglbkaa
