/- The law CpuParts holds for every input: it returns true, and each argument reads behind the call as it read before. No condition. -/
import Derived.Test.YtjhgbddcenhkfaaRows
import Derived.Test.YtjhgbddcenhkfaaPF8
import Derived.Test.YtjhgbddcenhkfaaPureCpuParts
import Derived.Test.YtjhgbddcenhkfaaOpn
import Derived.WalkKit
import Derived.ProofKit
import Derived.OpenShut
import Derived.ShutString
import Derived.ChangeOld
import Derived.Below
import Derived.SizedLaws
import Derived.Test.YtjhgbddcenhkfaaWSized
namespace Go.Proofs.Ytjhgbddcenhkfaa.cpuParts
open Go.ChangeShapes Go.WideShapes Go.ChangeAt Go.RowKit Go.Proofs.YtjhgbddcenhkfaaOpn Go.Proofs.Ytjhgbddcenhkfaa.P Go.Proofs.YtjhgbddcenhkfaaW.PrintWords
open Go.ChangeMaps (open_string shut_string)
set_option linter.unusedVariables false
theorem own : ownKnob Try.prog.godebug = none := by kernel_rfl
theorem laidOut : laidOutB Try.prog = true := by kernel_rfl
theorem op46 : Opens Try.prog 46 (Kd.int .u32) (fun n => (Lit.int .u32 n).wf = true) := opens_int Try.underlying46
theorem op34 : Opens Try.prog 34 (Kd.slice 46 (Kd.int .u32)) (fun x => (∀ y_x ∈ x, (Lit.int .u32 y_x).wf = true) ∧ x.length * 4 ≤ reachBytes) := opens_slice Try.underlying34 op46 (by kernel_rfl) (by kernel_rfl)
theorem op3 : Opens Try.prog 3 (Kd.int .i64) (fun n => (Lit.int .i64 n).wf = true) := opens_int Try.underlying3
theorem op43 : Opens Try.prog 43 (Kd.slice 3 (Kd.int .i64)) (fun x => (∀ y_x ∈ x, (Lit.int .i64 y_x).wf = true) ∧ x.length * 8 ≤ reachBytes) := opens_slice Try.underlying43 op3 (by kernel_rfl) (by kernel_rfl)
set_option maxRecDepth 100000 in
theorem lifted (os : Os) (started : os.Started) (H : Type) (enc : TypeId × Value → H) :
    ReturnsInHanded {} Try.checked os 8 .any (Rows.cpuPartsSpec.pre6 enc Try.prog Try.f8 Rows.cpuPartsRow.domain false) (Rows.cpuPartsSpec.post enc Try.prog Try.f8 false true false false) := by
  refine returnsInHanded_of_change_sized (C := Try.checked) own started (by kernel_rfl) Try.func8
    (ChangeSpec.witness6 (enc := enc) (C := Try.checked) false ⟨#[], #[.slice none 0 0, .slice none 0 0, .int .i64 0, .int .i64 0], []⟩ 8 (by kernel_rfl) (by kernel_rfl) (by kernel_rfl) (by kernel_rfl)) ?_
  intro W base args ds gs before hval0 hW hcnd hsz0 _
  have hsz : (DataW.weightsEach Try.prog (Try.f8.params.toList ++ Rows.cpuPartsSpec.plain.varTypes Try.prog) (ds ++ gs)).all (· ≤ reachBytes) = true := hsz0
  have hval : ∀ (j : Nat) t v, Try.f8.params[j]? = some t → args[j]? = some v → Value.okWide Try.prog W .any base t v := hval0
  have hW' := hW
  obtain ⟨p, q, hA0, hV, rfl, hfz, hnd⟩ := hW
  have hA : DataW.TrodAll enc Try.prog W 0 (fun _ => true) true Try.f8.params.toList args.toList ds p := hA0
  rw [Try.params8] at hA hval hsz
  obtain ⟨v0, vs0, d0, ds0, p0, q0, hargs, rfl, rfl, h0, r0⟩ := trodAll_cons hA
  obtain ⟨v1, vs1, d1, ds1, p1, q1, rfl, rfl, rfl, h1, r1⟩ := trodAll_cons r0
  obtain ⟨v2, vs2, d2, ds2, p2, q2, rfl, rfl, rfl, h2, r2⟩ := trodAll_cons r1
  obtain ⟨v3, vs3, d3, ds3, p3, q3, rfl, rfl, rfl, h3, r3⟩ := trodAll_cons r2
  obtain ⟨rfl, rfl, rfl⟩ := trodAll_nil r3
  obtain rfl : args = #[v0, v1, v2, v3] := by cases args; simp_all
  obtain ⟨rfl, rfl⟩ := trodVars_none hV
  have k0 := h0
  have lt0 : ∀ x ∈ p0, x.block < W.heap.size := by obtain ⟨m, hm⟩ := k0; exact DataW.trod_lt m _ _ _ hm
  have w0 := weightsEach_get hsz (j := 0) (t := 34) rfl rfl
  obtain ⟨a0, len0, cap0, rfl⟩ := okWide_slice Try.underlying34 (hval 0 34 v0 rfl rfl)
  obtain ⟨x0, ⟨A0, c0, e0, hc0, hr0⟩, g0⟩ : ∃ y, ((Kd.slice 46 (Kd.int .u32))).K W y [.slice a0 len0 cap0] ∧ ((∀ y_y ∈ y, (Lit.int .u32 y_y).wf = true) ∧ y.length * 4 ≤ reachBytes) := by
    obtain ⟨fuel, hf⟩ := h0
    exact op34.op (by simpa [Value.cells] using hf) w0
  simp only [List.cons.injEq, Value.slice.injEq, and_true] at e0
  obtain ⟨rfl, rfl, rfl⟩ := e0
  have k1 := h1
  have lt1 : ∀ x ∈ p1, x.block < W.heap.size := by obtain ⟨m, hm⟩ := k1; exact DataW.trod_lt m _ _ _ hm
  have w1 := weightsEach_get hsz (j := 1) (t := 43) rfl rfl
  obtain ⟨a1, len1, cap1, rfl⟩ := okWide_slice Try.underlying43 (hval 1 43 v1 rfl rfl)
  obtain ⟨x1, ⟨A1, c1, e1, hc1, hr1⟩, g1⟩ : ∃ y, ((Kd.slice 3 (Kd.int .i64))).K W y [.slice a1 len1 cap1] ∧ ((∀ y_y ∈ y, (Lit.int .i64 y_y).wf = true) ∧ y.length * 8 ≤ reachBytes) := by
    obtain ⟨fuel, hf⟩ := h1
    exact op43.op (by simpa [Value.cells] using hf) w1
  simp only [List.cons.injEq, Value.slice.injEq, and_true] at e1
  obtain ⟨rfl, rfl, rfl⟩ := e1
  obtain ⟨x2, rfl, rfl, rfl, w2⟩ := open_int Try.underlying3 (hval 2 3 v2 rfl rfl) h2
  obtain ⟨x3, rfl, rfl, rfl, w3⟩ := open_int Try.underlying3 (hval 3 3 v3 rfl rfl) h3
  clear hA0 hval0 hsz0 hsz
  have h := Pure.CpuParts x0 x1 x2 x3 g0 g1 w2 w3
  refine (P.pianolalaw14_CpuParts.calls _ _ x0 _ _ x1 x2 x3 true W hr0 hc0 hr1 hc1 h).mono fun e W' hp => ?_
  obtain ⟨he, bel0⟩ := hp
  have bel : Below W.heap.size W W' := bel0
  subst he
  exact ⟨_, rfl, _, _, _, [], _, [], hW', trodAll_mk1 (shut_bool Try.underlying4 _), (trodAll_cons_mk (Below.trod laidOut (by kernel_rfl) (of_decide_eq_true (by kernel_rfl)) k0 bel lt0) (trodAll_cons_mk (Below.trod laidOut (by kernel_rfl) (of_decide_eq_true (by kernel_rfl)) k1 bel lt1) (trodAll_cons_mk (shut_int Try.underlying3 w2) (trodAll_cons_mk (shut_int Try.underlying3 w3) trodAll_mk0)))), rfl, bel.frame _, fun h => by cases h⟩
theorem over : Rows.cpuPartsRow.holds Try.pinned (OpenSpec.ofChange Rows.cpuPartsSpec) :=
  OpenClaim.holds_of_wide 8 Try.f8 rfl rfl rfl rfl rfl rfl rfl ⟨rfl, rfl, rfl, rfl, rfl⟩ rfl rfl rfl rfl rfl (by kernel_rfl) Try.func8 (by kernel_rfl)
    (of_decide_eq_true (by kernel_rfl)) (by unfold Func.isWrapper; first | (rw [if_pos (by decide +kernel)]; kernel_rfl) | (rw [if_neg (by decide +kernel)]; exact ⟨rfl, rfl⟩))
    (fun os started H enc _ => lifted os started H enc)
end Go.Proofs.Ytjhgbddcenhkfaa.cpuParts
namespace Go.Proofs.Ytjhgbddcenhkfaa
/-- The law CpuParts holds. -/
theorem cpuParts_holds : Rows.CpuPartsSaid := cpuParts.over
#print axioms cpuParts_holds
end Go.Proofs.Ytjhgbddcenhkfaa
