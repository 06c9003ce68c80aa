/- The law GasCosts holds for every input: it returns true, and each argument reads behind the call as it read before. No condition. -/
import Derived.Test.YtpfbfnbffglbkaaRows
import Derived.Test.YtpfbfnbffglbkaaPF9
import Derived.Test.YtpfbfnbffglbkaaPureGasCosts
import Derived.Test.YtpfbfnbffglbkaaOpn
import Derived.WalkKit
import Derived.ProofKit
import Derived.OpenShut
import Derived.ShutString
import Derived.ChangeOld
import Derived.Below
import Derived.SizedLaws
import Derived.Test.YtpfbfnbffglbkaaWSized
namespace Go.Proofs.Ytpfbfnbffglbkaa.gasCosts
open Go.ChangeShapes Go.WideShapes Go.ChangeAt Go.RowKit Go.Proofs.YtpfbfnbffglbkaaOpn Go.Proofs.Ytpfbfnbffglbkaa.P Go.Proofs.YtpfbfnbffglbkaaW.PrintWords
open Go.ChangeMaps (open_string shut_string)
set_option linter.unusedVariables false
theorem own : ownKnob Try.prog.godebug = none := by kernel_rfl
theorem laidOut : laidOutB Try.prog = true := by kernel_rfl
theorem op3 : Opens Try.prog 3 (Kd.int .i64) (fun n => (Lit.int .i64 n).wf = true) := opens_int Try.underlying3
theorem op34 : Opens Try.prog 34 k34 (fun x => ((Lit.int .i64 x.f0).wf = true) ∧ ((Lit.int .i64 x.f1).wf = true)) := opens_iso (fun x : S34 => (x.f0, x.f1)) (fun y => (⟨y.1, y.2⟩ : S34)) (fun _ => rfl) (opens_struct Try.underlying34 (opensF_cons rfl op3 (by kernel_rfl) (opensF_one rfl op3 (by kernel_rfl))) (by kernel_rfl))
theorem op22 : Opens Try.prog 22 (Kd.slice 34 k34) (fun x => (∀ y_x ∈ x, ((Lit.int .i64 y_x.f0).wf = true) ∧ ((Lit.int .i64 y_x.f1).wf = true)) ∧ x.length * 16 ≤ reachBytes) := opens_slice Try.underlying22 op34 (by kernel_rfl) (by kernel_rfl)
theorem op23 : Opens Try.prog 23 (Kd.slice 3 (Kd.int .i64)) (fun x => (∀ y_x ∈ x, (Lit.int .i64 y_x).wf = true) ∧ x.length * 8 ≤ reachBytes) := opens_slice Try.underlying23 op3 (by kernel_rfl) (by kernel_rfl)
theorem op30 : Opens Try.prog 30 k30 (fun x => ((Lit.int .i64 x.f0).wf = true) ∧ ((Lit.int .i64 x.f1).wf = true) ∧ ((∀ y_x_f2 ∈ x.f2, (Lit.int .i64 y_x_f2).wf = true) ∧ x.f2.length * 8 ≤ reachBytes)) := opens_iso (fun x : S30 => (x.f0, x.f1, x.f2)) (fun y => (⟨y.1, y.2.1, y.2.2⟩ : S30)) (fun _ => rfl) (opens_struct Try.underlying30 (opensF_cons rfl op3 (by kernel_rfl) (opensF_cons rfl op3 (by kernel_rfl) (opensF_one rfl op23 (by kernel_rfl)))) (by kernel_rfl))
set_option maxRecDepth 100000 in
theorem lifted (os : Os) (started : os.Started) (H : Type) (enc : TypeId × Value → H) :
    ReturnsInHanded {} Try.checked os 9 .any (Rows.gasCostsSpec.pre6 enc Try.prog Try.f9 Rows.gasCostsRow.domain false) (Rows.gasCostsSpec.post enc Try.prog Try.f9 false true false false) := by
  refine returnsInHanded_of_change_sized (C := Try.checked) own started (by kernel_rfl) Try.func9
    (ChangeSpec.witness6 (enc := enc) (C := Try.checked) false ⟨#[], #[.int .i64 0, .slice none 0 0, .agg #[.int .i64 0, .int .i64 0, .slice none 0 0], .int .i64 0, .int .i64 0], []⟩ 8 (by kernel_rfl) (by kernel_rfl) (by kernel_rfl) (by kernel_rfl)) ?_
  intro W base args ds gs before hval0 hW hcnd hsz0 _
  have hsz : (DataW.weightsEach Try.prog (Try.f9.params.toList ++ Rows.gasCostsSpec.plain.varTypes Try.prog) (ds ++ gs)).all (· ≤ reachBytes) = true := hsz0
  have hval : ∀ (j : Nat) t v, Try.f9.params[j]? = some t → args[j]? = some v → Value.okWide Try.prog W .any base t v := hval0
  have hW' := hW
  obtain ⟨p, q, hA0, hV, rfl, hfz, hnd⟩ := hW
  have hA : DataW.TrodAll enc Try.prog W 0 (fun _ => true) true Try.f9.params.toList args.toList ds p := hA0
  rw [Try.params9] at hA hval hsz
  obtain ⟨v0, vs0, d0, ds0, p0, q0, hargs, rfl, rfl, h0, r0⟩ := trodAll_cons hA
  obtain ⟨v1, vs1, d1, ds1, p1, q1, rfl, rfl, rfl, h1, r1⟩ := trodAll_cons r0
  obtain ⟨v2, vs2, d2, ds2, p2, q2, rfl, rfl, rfl, h2, r2⟩ := trodAll_cons r1
  obtain ⟨v3, vs3, d3, ds3, p3, q3, rfl, rfl, rfl, h3, r3⟩ := trodAll_cons r2
  obtain ⟨v4, vs4, d4, ds4, p4, q4, rfl, rfl, rfl, h4, r4⟩ := trodAll_cons r3
  obtain ⟨rfl, rfl, rfl⟩ := trodAll_nil r4
  obtain rfl : args = #[v0, v1, v2, v3, v4] := by cases args; simp_all
  obtain ⟨rfl, rfl⟩ := trodVars_none hV
  obtain ⟨x0, rfl, rfl, rfl, w0⟩ := open_int Try.underlying3 (hval 0 3 v0 rfl rfl) h0
  have k1 := h1
  have lt1 : ∀ x ∈ p1, x.block < W.heap.size := by obtain ⟨m, hm⟩ := k1; exact DataW.trod_lt m _ _ _ hm
  have w1 := weightsEach_get hsz (j := 1) (t := 22) rfl rfl
  obtain ⟨a1, len1, cap1, rfl⟩ := okWide_slice Try.underlying22 (hval 1 22 v1 rfl rfl)
  obtain ⟨x1, ⟨A1, c1, e1, hc1, hr1⟩, g1⟩ : ∃ y, ((Kd.slice 34 k34)).K W y [.slice a1 len1 cap1] ∧ ((∀ y_y ∈ y, ((Lit.int .i64 y_y.f0).wf = true) ∧ ((Lit.int .i64 y_y.f1).wf = true)) ∧ y.length * 16 ≤ reachBytes) := by
    obtain ⟨fuel, hf⟩ := h1
    exact op22.op (by simpa [Value.cells] using hf) w1
  simp only [List.cons.injEq, Value.slice.injEq, and_true] at e1
  obtain ⟨rfl, rfl, rfl⟩ := e1
  have k2 := h2
  have lt2 : ∀ x ∈ p2, x.block < W.heap.size := by obtain ⟨m, hm⟩ := k2; exact DataW.trod_lt m _ _ _ hm
  have w2 := weightsEach_get hsz (j := 2) (t := 30) rfl rfl
  obtain ⟨cs2, rfl, hz2⟩ := okWide_struct Try.underlying30 (hval 2 30 v2 rfl rfl)
  obtain ⟨x2, hk2, g2⟩ : ∃ y, (k30).K W y cs2.toList ∧ (((Lit.int .i64 y.f0).wf = true) ∧ ((Lit.int .i64 y.f1).wf = true) ∧ ((∀ y_y_f2 ∈ y.f2, (Lit.int .i64 y_y_f2).wf = true) ∧ y.f2.length * 8 ≤ reachBytes)) := by
    obtain ⟨fuel, hf⟩ := h2
    exact op30.op (by simpa [Value.cells] using hf) w2
  have ho2 := k30_open hk2
  obtain ⟨A2_2, c2_2, he2, hc2_2, hr2_2⟩ := ho2
  obtain rfl : cs2 = _ := Array.ext' he2
  obtain ⟨x3, rfl, rfl, rfl, w3⟩ := open_int Try.underlying3 (hval 3 3 v3 rfl rfl) h3
  obtain ⟨x4, rfl, rfl, rfl, w4⟩ := open_int Try.underlying3 (hval 4 3 v4 rfl rfl) h4
  clear hA0 hval0 hsz0 hsz
  obtain ⟨k, h⟩ := Pure.GasCosts x0 x1 x2 x3 x4 w0 g1 g2 w3 w4
  refine (P.pianolalaw10_GasCosts.calls k x0 _ _ x1 x2.f0 x2.f1 _ _ x2.f2 x3 x4 true W hr1 hc1 hr2_2 hc2_2 h).mono fun e W' hp => ?_
  obtain ⟨he, bel0⟩ := hp
  have bel : Below W.heap.size W W' := bel0
  subst he
  exact ⟨_, rfl, _, _, _, [], _, [], hW', trodAll_mk1 (shut_bool Try.underlying4 _), (trodAll_cons_mk (shut_int Try.underlying3 w0) (trodAll_cons_mk (Below.trod laidOut (by kernel_rfl) (of_decide_eq_true (by kernel_rfl)) k1 bel lt1) (trodAll_cons_mk (Below.trod laidOut (by kernel_rfl) (of_decide_eq_true (by kernel_rfl)) k2 bel lt2) (trodAll_cons_mk (shut_int Try.underlying3 w3) (trodAll_cons_mk (shut_int Try.underlying3 w4) trodAll_mk0))))), rfl, bel.frame _, fun h => by cases h⟩
theorem over : Rows.gasCostsRow.holds Try.pinned (OpenSpec.ofChange Rows.gasCostsSpec) :=
  OpenClaim.holds_of_wide 9 Try.f9 rfl rfl rfl rfl rfl rfl rfl ⟨rfl, rfl, rfl, rfl, rfl⟩ rfl rfl rfl rfl rfl (by kernel_rfl) Try.func9 (by kernel_rfl)
    (of_decide_eq_true (by kernel_rfl)) (by unfold Func.isWrapper; first | (rw [if_pos (by decide +kernel)]; kernel_rfl) | (rw [if_neg (by decide +kernel)]; exact ⟨rfl, rfl⟩))
    (fun os started H enc _ => lifted os started H enc)
end Go.Proofs.Ytpfbfnbffglbkaa.gasCosts
namespace Go.Proofs.Ytpfbfnbffglbkaa
/-- The law GasCosts holds. -/
theorem gasCosts_holds : Rows.GasCostsSaid := gasCosts.over
#print axioms gasCosts_holds
end Go.Proofs.Ytpfbfnbffglbkaa
