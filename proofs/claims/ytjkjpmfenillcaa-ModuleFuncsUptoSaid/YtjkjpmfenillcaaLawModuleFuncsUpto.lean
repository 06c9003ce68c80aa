/- The law ModuleFuncs holds for every input whose arguments are together of bulk at most 1048576 (the second form): it returns true, and each argument reads behind the call as it read before. Condition: that bound. -/
import Derived.Test.YtjkjpmfenillcaaRows
import Derived.Test.YtjkjpmfenillcaaPF5
import Derived.Test.YtjkjpmfenillcaaPureModuleFuncs
import Derived.Test.YtjkjpmfenillcaaOpn
import Derived.Test.YtjkjpmfenillcaaOpnU
import Derived.JoinedCond
import Derived.Deep.CondSized
import Derived.WalkKit
import Derived.ProofKit
import Derived.OpenShut
import Derived.ShutString
import Derived.ChangeOld
import Derived.Below
import Derived.SizedLaws
import Derived.Test.YtjkjpmfenillcaaWSized
namespace Go.Proofs.Ytjkjpmfenillcaa.moduleFuncsUpto
open Go.ChangeShapes Go.WideShapes Go.ChangeAt Go.RowKit Go.Proofs.YtjkjpmfenillcaaOpn Go.Proofs.YtjkjpmfenillcaaOpnU Go.Proofs.Ytjkjpmfenillcaa.P Go.Proofs.YtjkjpmfenillcaaW.PrintWords
open Go.ChangeMaps (open_string shut_string)
set_option linter.unusedVariables false
theorem own : ownKnob Try.prog.godebug = none := by kernel_rfl
theorem laidOut : laidOutB Try.prog = true := by kernel_rfl
theorem op3 : Opens Try.prog 3 (Kd.int .i64) (fun n => (Lit.int .i64 n).wf = true) := opens_int Try.underlying3
theorem op3u : OpensU Try.prog 3 (Kd.int .i64) (fun n => (Lit.int .i64 n).wf = true) (fun _ => 1) := opensU_of op3
theorem op24 : Opens Try.prog 24 (Kd.slice 3 (Kd.int .i64)) (fun x => (∀ y_x ∈ x, (Lit.int .i64 y_x).wf = true) ∧ x.length * 8 ≤ reachBytes) := opens_slice Try.underlying24 op3 (by kernel_rfl) (by kernel_rfl)
theorem op24u : OpensU Try.prog 24 (Kd.slice 3 (Kd.int .i64)) (fun x => (∀ y_x ∈ x, (Lit.int .i64 y_x).wf = true) ∧ x.length * 8 ≤ reachBytes) (fun l => massL (fun _ => 1) l + 1) := opensU_slice Try.underlying24 op3u (by kernel_rfl) (by kernel_rfl)
theorem op5 : Opens Try.prog 5 (Kd.int .u8) (fun n => (Lit.int .u8 n).wf = true) := opens_int Try.underlying5
theorem op5u : OpensU Try.prog 5 (Kd.int .u8) (fun n => (Lit.int .u8 n).wf = true) (fun _ => 1) := opensU_of op5
theorem op22 : Opens Try.prog 22 (Kd.slice 5 (Kd.int .u8)) (fun x => (∀ y_x ∈ x, (Lit.int .u8 y_x).wf = true) ∧ x.length * 1 ≤ reachBytes) := opens_slice Try.underlying22 op5 (by kernel_rfl) (by kernel_rfl)
theorem op22u : OpensU Try.prog 22 (Kd.slice 5 (Kd.int .u8)) (fun x => (∀ y_x ∈ x, (Lit.int .u8 y_x).wf = true) ∧ x.length * 1 ≤ reachBytes) (fun l => massL (fun _ => 1) l + 1) := opensU_slice Try.underlying22 op5u (by kernel_rfl) (by kernel_rfl)
theorem op41 : Opens Try.prog 41 k41 (fun x => ((Lit.int .i64 x.f0).wf = true) ∧ ((Lit.int .i64 x.f1).wf = true) ∧ ((∀ y_x_f2 ∈ x.f2, (Lit.int .u8 y_x_f2).wf = true) ∧ x.f2.length * 1 ≤ reachBytes)) := opens_iso (fun x : S41 => (x.f0, x.f1, x.f2)) (fun y => (⟨y.1, y.2.1, y.2.2⟩ : S41)) (fun _ => rfl) (opens_struct Try.underlying41 (opensF_cons rfl op3 (by kernel_rfl) (opensF_cons rfl op3 (by kernel_rfl) (opensF_one rfl op22 (by kernel_rfl)))) (by kernel_rfl))
theorem op41u : OpensU Try.prog 41 k41 (fun x => ((Lit.int .i64 x.f0).wf = true) ∧ ((Lit.int .i64 x.f1).wf = true) ∧ ((∀ y_x_f2 ∈ x.f2, (Lit.int .u8 y_x_f2).wf = true) ∧ x.f2.length * 1 ≤ reachBytes)) (fun x : S41 => ((fun _ => 1) x.f0 + (((fun _ => 1) x.f1 + ((fun l => massL (fun _ => 1) l + 1) x.f2))))) := opensU_iso (fun x : S41 => (x.f0, x.f1, x.f2)) (fun y => (⟨y.1, y.2.1, y.2.2⟩ : S41)) (fun _ => rfl) (opensU_struct Try.underlying41 (opensFU_cons rfl op3u (by kernel_rfl) (opensFU_cons rfl op3u (by kernel_rfl) (opensFU_one rfl op22u (by kernel_rfl)))) (by kernel_rfl))
theorem op25 : Opens Try.prog 25 (Kd.slice 41 k41) (fun x => (∀ y_x ∈ x, ((Lit.int .i64 y_x.f0).wf = true) ∧ ((Lit.int .i64 y_x.f1).wf = true) ∧ ((∀ y_y_x_f2 ∈ y_x.f2, (Lit.int .u8 y_y_x_f2).wf = true) ∧ y_x.f2.length * 1 ≤ reachBytes)) ∧ x.length * 40 ≤ reachBytes) := opens_slice Try.underlying25 op41 (by kernel_rfl) (by kernel_rfl)
theorem op25u : OpensU Try.prog 25 (Kd.slice 41 k41) (fun x => (∀ y_x ∈ x, ((Lit.int .i64 y_x.f0).wf = true) ∧ ((Lit.int .i64 y_x.f1).wf = true) ∧ ((∀ y_y_x_f2 ∈ y_x.f2, (Lit.int .u8 y_y_x_f2).wf = true) ∧ y_x.f2.length * 1 ≤ reachBytes)) ∧ x.length * 40 ≤ reachBytes) (fun l => massL (fun x : S41 => ((fun _ => 1) x.f0 + (((fun _ => 1) x.f1 + ((fun l => massL (fun _ => 1) l + 1) x.f2))))) l + 1) := opensU_slice Try.underlying25 op41u (by kernel_rfl) (by kernel_rfl)
theorem op27 : Opens Try.prog 27 k27 (fun x => ((∀ y_x_f0 ∈ x.f0, (Lit.int .i64 y_x_f0).wf = true) ∧ x.f0.length * 8 ≤ reachBytes) ∧ ((∀ y_x_f1 ∈ x.f1, ((Lit.int .i64 y_x_f1.f0).wf = true) ∧ ((Lit.int .i64 y_x_f1.f1).wf = true) ∧ ((∀ y_y_x_f1_f2 ∈ y_x_f1.f2, (Lit.int .u8 y_y_x_f1_f2).wf = true) ∧ y_x_f1.f2.length * 1 ≤ reachBytes)) ∧ x.f1.length * 40 ≤ reachBytes)) := opens_iso (fun x : S27 => (x.f0, x.f1)) (fun y => (⟨y.1, y.2⟩ : S27)) (fun _ => rfl) (opens_struct Try.underlying27 (opensF_cons rfl op24 (by kernel_rfl) (opensF_one rfl op25 (by kernel_rfl))) (by kernel_rfl))
theorem op27u : OpensU Try.prog 27 k27 (fun x => ((∀ y_x_f0 ∈ x.f0, (Lit.int .i64 y_x_f0).wf = true) ∧ x.f0.length * 8 ≤ reachBytes) ∧ ((∀ y_x_f1 ∈ x.f1, ((Lit.int .i64 y_x_f1.f0).wf = true) ∧ ((Lit.int .i64 y_x_f1.f1).wf = true) ∧ ((∀ y_y_x_f1_f2 ∈ y_x_f1.f2, (Lit.int .u8 y_y_x_f1_f2).wf = true) ∧ y_x_f1.f2.length * 1 ≤ reachBytes)) ∧ x.f1.length * 40 ≤ reachBytes)) (fun x : S27 => ((fun l => massL (fun _ => 1) l + 1) x.f0 + ((fun l => massL (fun x : S41 => ((fun _ => 1) x.f0 + (((fun _ => 1) x.f1 + ((fun l => massL (fun _ => 1) l + 1) x.f2))))) l + 1) x.f1))) := opensU_iso (fun x : S27 => (x.f0, x.f1)) (fun y => (⟨y.1, y.2⟩ : S27)) (fun _ => rfl) (opensU_struct Try.underlying27 (opensFU_cons rfl op24u (by kernel_rfl) (opensFU_one rfl op25u (by kernel_rfl))) (by kernel_rfl))
set_option maxRecDepth 100000 in
theorem lifted (os : Os) (started : os.Started) (H : Type) (enc : TypeId × Value → H) (F : Stop.Interp) :
    ReturnsInHanded {} Try.checked os 5 .any ((Rows.OpenSpec.upto Rows.moduleFuncsSpec).pre6 enc Try.prog Try.f5 Rows.moduleFuncsUptoRow.domain false) (((Rows.OpenSpec.upto Rows.moduleFuncsSpec).at F).post enc Try.prog Try.f5 false true false false) := by
  refine returnsInHanded_of_cond_sized (C := Try.checked) (s := Rows.OpenSpec.upto Rows.moduleFuncsSpec) (k := Rows.uptoSmall) rfl own started (by kernel_rfl) Try.func5
    (OpenSpec.witness (enc := enc) (C := Try.checked) (s := Rows.OpenSpec.upto Rows.moduleFuncsSpec) (k := Rows.uptoSmall) rfl false ⟨#[], #[.agg #[.slice none 0 0, .slice none 0 0], .int .i64 0], []⟩ 8 (by kernel_rfl) (by kernel_rfl) (by kernel_rfl)
      (x := ([.agg [.nil, .nil], .lit (.int .i64 0)], [], [])) (by kernel_rfl) rfl (by kernel_rfl)) ?_
  intro W base args ds gs before hval0 hW hcnd hkb hsz0 _
  have hsz : (DataW.weightsEach Try.prog (Try.f5.params.toList ++ Rows.moduleFuncsSpec.plain.varTypes Try.prog) (ds ++ gs)).all (· ≤ reachBytes) = true := hsz0
  have hval : ∀ (j : Nat) t v, Try.f5.params[j]? = some t → args[j]? = some v → Value.okWide Try.prog W .any base t v := hval0
  have hW' := hW
  obtain ⟨p, q, hA0, hV, rfl, hfz, hnd⟩ := hW
  have hA : DataW.TrodAll enc Try.prog W 0 (fun _ => true) true Try.f5.params.toList args.toList ds p := hA0
  rw [Try.params5] at hA hval hsz
  obtain ⟨v0, vs0, d0, ds0, p0, q0, hargs, rfl, rfl, h0, r0⟩ := trodAll_cons hA
  obtain ⟨v1, vs1, d1, ds1, p1, q1, rfl, rfl, rfl, h1, r1⟩ := trodAll_cons r0
  obtain ⟨rfl, rfl, rfl⟩ := trodAll_nil r1
  obtain rfl : args = #[v0, v1] := by cases args; simp_all
  obtain ⟨rfl, rfl⟩ := trodVars_none hV
  have k0 := h0
  have lt0 : ∀ x ∈ p0, x.block < W.heap.size := by obtain ⟨m, hm⟩ := k0; exact DataW.trod_lt m _ _ _ hm
  have w0 := weightsEach_get hsz (j := 0) (t := 27) rfl rfl
  obtain ⟨cs0, rfl, hz0⟩ := okWide_struct Try.underlying27 (hval 0 27 v0 rfl rfl)
  obtain ⟨x0, hk0, g0, m0⟩ : ∃ y, (k27).K W y cs0.toList ∧ (((∀ y_y_f0 ∈ y.f0, (Lit.int .i64 y_y_f0).wf = true) ∧ y.f0.length * 8 ≤ reachBytes) ∧ ((∀ y_y_f1 ∈ y.f1, ((Lit.int .i64 y_y_f1.f0).wf = true) ∧ ((Lit.int .i64 y_y_f1.f1).wf = true) ∧ ((∀ y_y_y_f1_f2 ∈ y_y_f1.f2, (Lit.int .u8 y_y_y_f1_f2).wf = true) ∧ y_y_f1.f2.length * 1 ≤ reachBytes)) ∧ y.f1.length * 40 ≤ reachBytes)) ∧ (fun x : S27 => ((fun l => massL (fun _ => 1) l + 1) x.f0 + ((fun l => massL (fun x : S41 => ((fun _ => 1) x.f0 + (((fun _ => 1) x.f1 + ((fun l => massL (fun _ => 1) l + 1) x.f2))))) l + 1) x.f1))) y ≤ Rows.uptoBulk d0 := by
    obtain ⟨fuel, hf⟩ := h0
    exact op27u.op (by simpa [Value.cells] using hf) w0
  have ho0 := k27_open hk0
  obtain ⟨A0_0, c0_0, A0_1, c0_1, he0, hc0_0, hr0_0, hc0_1, hr0_1⟩ := ho0
  obtain rfl : cs0 = _ := Array.ext' he0
  obtain ⟨x1, rfl, rfl, rfl, w1⟩ := open_int Try.underlying3 (hval 1 3 v1 rfl rfl) h1
  clear hA0 hval0 hsz0 hsz
  have hbk := Bulk.bound hkb
  simp only [List.cons_append, List.nil_append, Rows.uptoBulkAll] at hbk
  have h := Pure.ModuleFuncs x0 x1 g0 w1 (fn_bulk x0 _ m0 (by omega))
  refine (P.pianolalaw06_ModuleFuncs.calls _ _ x0.f0 _ _ x0.f1 x1 true W hr0_0 hc0_0 hr0_1 hc0_1 h).mono fun e W' hp => ?_
  obtain ⟨he, bel0⟩ := hp
  have bel : Below W.heap.size W W' := bel0
  subst he
  exact ⟨_, rfl, _, _, _, [], _, [], hW', trodAll_mk1 (shut_bool Try.underlying4 _), (trodAll_cons_mk (Below.trod laidOut (by kernel_rfl) (of_decide_eq_true (by kernel_rfl)) k0 bel lt0) (trodAll_cons_mk (shut_int Try.underlying3 w1) trodAll_mk0)), rfl, bel.frame _, fun h => by cases h⟩
theorem over : Rows.moduleFuncsUptoRow.holds Try.pinned (Rows.OpenSpec.upto Rows.moduleFuncsSpec) :=
  OpenClaim.holds_of_cond 5 Try.f5 rfl rfl rfl rfl rfl rfl rfl ⟨rfl, rfl, rfl, rfl, rfl⟩ rfl rfl rfl rfl rfl (by kernel_rfl) Try.func5 (by kernel_rfl)
    (of_decide_eq_true (by kernel_rfl)) (by unfold Func.isWrapper; first | (rw [if_pos (by decide +kernel)]; kernel_rfl) | (rw [if_neg (by decide +kernel)]; exact ⟨rfl, rfl⟩))
    (fun os started H enc _ F => lifted os started H enc F)
end Go.Proofs.Ytjkjpmfenillcaa.moduleFuncsUpto
namespace Go.Proofs.Ytjkjpmfenillcaa
/-- The law ModuleFuncs holds, in the second form. -/
theorem moduleFuncsUpto_holds : Rows.ModuleFuncsUptoSaid := moduleFuncsUpto.over
#print axioms moduleFuncsUpto_holds
end Go.Proofs.Ytjkjpmfenillcaa
