/- The law ModuleReads holds for every input: it returns true, and each argument reads behind the call as it read before. No condition. -/
import Derived.Test.YtjkjpmfenillcaaRows
import Derived.Test.YtjkjpmfenillcaaPF3
import Derived.Test.YtjkjpmfenillcaaPureModuleReads
import Derived.Test.YtjkjpmfenillcaaOpn
import Derived.WalkKit
import Derived.ProofKit
import Derived.OpenShut
import Derived.ShutString
import Derived.ChangeOld
import Derived.Below
import Derived.SizedLaws
import Derived.Test.YtjkjpmfenillcaaWSized
namespace Go.Proofs.Ytjkjpmfenillcaa.moduleReads
open Go.ChangeShapes Go.WideShapes Go.ChangeAt Go.RowKit Go.Proofs.YtjkjpmfenillcaaOpn Go.Proofs.Ytjkjpmfenillcaa.P Go.Proofs.YtjkjpmfenillcaaW.PrintWords
open Go.ChangeMaps (open_string shut_string)
set_option linter.unusedVariables false
theorem own : ownKnob Try.prog.godebug = none := by kernel_rfl
theorem laidOut : laidOutB Try.prog = true := by kernel_rfl
theorem op5 : Opens Try.prog 5 (Kd.int .u8) (fun n => (Lit.int .u8 n).wf = true) := opens_int Try.underlying5
theorem op22 : Opens Try.prog 22 (Kd.slice 5 (Kd.int .u8)) (fun x => (∀ y_x ∈ x, (Lit.int .u8 y_x).wf = true) ∧ x.length * 1 ≤ reachBytes) := opens_slice Try.underlying22 op5 (by kernel_rfl) (by kernel_rfl)
set_option maxRecDepth 100000 in
theorem lifted (os : Os) (started : os.Started) (H : Type) (enc : TypeId × Value → H) :
    ReturnsInHanded {} Try.checked os 3 .any (Rows.moduleReadsSpec.pre6 enc Try.prog Try.f3 Rows.moduleReadsRow.domain false) (Rows.moduleReadsSpec.post enc Try.prog Try.f3 false true false false) := by
  refine returnsInHanded_of_change_sized (C := Try.checked) own started (by kernel_rfl) Try.func3
    (ChangeSpec.witness6 (enc := enc) (C := Try.checked) false ⟨#[], #[.slice none 0 0], []⟩ 8 (by kernel_rfl) (by kernel_rfl) (by kernel_rfl) (by kernel_rfl)) ?_
  intro W base args ds gs before hval0 hW hcnd hsz0 _
  have hsz : (DataW.weightsEach Try.prog (Try.f3.params.toList ++ Rows.moduleReadsSpec.plain.varTypes Try.prog) (ds ++ gs)).all (· ≤ reachBytes) = true := hsz0
  have hval : ∀ (j : Nat) t v, Try.f3.params[j]? = some t → args[j]? = some v → Value.okWide Try.prog W .any base t v := hval0
  have hW' := hW
  obtain ⟨p, q, hA0, hV, rfl, hfz, hnd⟩ := hW
  have hA : DataW.TrodAll enc Try.prog W 0 (fun _ => true) true Try.f3.params.toList args.toList ds p := hA0
  rw [Try.params3] at hA hval hsz
  obtain ⟨v0, vs0, d0, ds0, p0, q0, hargs, rfl, rfl, h0, r0⟩ := trodAll_cons hA
  obtain ⟨rfl, rfl, rfl⟩ := trodAll_nil r0
  obtain rfl : args = #[v0] := by cases args; simp_all
  obtain ⟨rfl, rfl⟩ := trodVars_none hV
  have k0 := h0
  have lt0 : ∀ x ∈ p0, x.block < W.heap.size := by obtain ⟨m, hm⟩ := k0; exact DataW.trod_lt m _ _ _ hm
  have w0 := weightsEach_get hsz (j := 0) (t := 22) rfl rfl
  obtain ⟨a0, len0, cap0, rfl⟩ := okWide_slice Try.underlying22 (hval 0 22 v0 rfl rfl)
  obtain ⟨x0, ⟨A0, c0, e0, hc0, hr0⟩, g0⟩ : ∃ y, ((Kd.slice 5 (Kd.int .u8))).K W y [.slice a0 len0 cap0] ∧ ((∀ y_y ∈ y, (Lit.int .u8 y_y).wf = true) ∧ y.length * 1 ≤ reachBytes) := by
    obtain ⟨fuel, hf⟩ := h0
    exact op22.op (by simpa [Value.cells] using hf) w0
  simp only [List.cons.injEq, Value.slice.injEq, and_true] at e0
  obtain ⟨rfl, rfl, rfl⟩ := e0
  clear hA0 hval0 hsz0 hsz
  have h := Pure.ModuleReads x0 g0
  refine (P.pianolalaw06_ModuleReads.calls _ _ x0 true W hr0 hc0 h).mono fun e W' hp => ?_
  obtain ⟨he, bel0⟩ := hp
  have bel : Below W.heap.size W W' := bel0
  subst he
  exact ⟨_, rfl, _, _, _, [], _, [], hW', trodAll_mk1 (shut_bool Try.underlying4 _), (trodAll_cons_mk (Below.trod laidOut (by kernel_rfl) (of_decide_eq_true (by kernel_rfl)) k0 bel lt0) trodAll_mk0), rfl, bel.frame _, fun h => by cases h⟩
theorem over : Rows.moduleReadsRow.holds Try.pinned (OpenSpec.ofChange Rows.moduleReadsSpec) :=
  OpenClaim.holds_of_wide 3 Try.f3 rfl rfl rfl rfl rfl rfl rfl ⟨rfl, rfl, rfl, rfl, rfl⟩ rfl rfl rfl rfl rfl (by kernel_rfl) Try.func3 (by kernel_rfl)
    (of_decide_eq_true (by kernel_rfl)) (by unfold Func.isWrapper; first | (rw [if_pos (by decide +kernel)]; kernel_rfl) | (rw [if_neg (by decide +kernel)]; exact ⟨rfl, rfl⟩))
    (fun os started H enc _ => lifted os started H enc)
end Go.Proofs.Ytjkjpmfenillcaa.moduleReads
namespace Go.Proofs.Ytjkjpmfenillcaa
/-- The law ModuleReads holds. -/
theorem moduleReads_holds : Rows.ModuleReadsSaid := moduleReads.over
#print axioms moduleReads_holds
end Go.Proofs.Ytjkjpmfenillcaa
