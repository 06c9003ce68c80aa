/- The law InstrReads holds for every input whose arguments are together of bulk at most 1048576 (the second form): it returns true, and each argument reads behind the call as it read before. Condition: that bound. -/
import Derived.Test.YtdcjbkhfopdgnaaRows
import Derived.Test.YtdcjbkhfopdgnaaPF10
import Derived.Test.YtdcjbkhfopdgnaaPureInstrReads
import Derived.Test.YtdcjbkhfopdgnaaOpn
import Derived.Test.YtdcjbkhfopdgnaaOpnU
import Derived.JoinedCond
import Derived.Deep.CondSized
import Derived.WalkKit
import Derived.ProofKit
import Derived.OpenShut
import Derived.ShutString
import Derived.ChangeOld
import Derived.Below
import Derived.SizedLaws
import Derived.Test.YtdcjbkhfopdgnaaWSized
namespace Go.Proofs.Ytdcjbkhfopdgnaa.instrReadsUpto
open Go.ChangeShapes Go.WideShapes Go.ChangeAt Go.RowKit Go.Proofs.YtdcjbkhfopdgnaaOpn Go.Proofs.Ytdcjbkhfopdgnaa.P Go.Proofs.YtdcjbkhfopdgnaaW.PrintWords
open Go.ChangeMaps (open_string shut_string)
set_option linter.unusedVariables false
theorem own : ownKnob Try.prog.godebug = none := by kernel_rfl
theorem laidOut : laidOutB Try.prog = true := by kernel_rfl
theorem op5 : Opens Try.prog 5 (Kd.int .u8) (fun n => (Lit.int .u8 n).wf = true) := opens_int Try.underlying5
theorem op46 : Opens Try.prog 46 (Kd.slice 5 (Kd.int .u8)) (fun x => (∀ y_x ∈ x, (Lit.int .u8 y_x).wf = true) ∧ x.length * 1 ≤ reachBytes) := opens_slice Try.underlying46 op5 (by kernel_rfl) (by kernel_rfl)
set_option maxRecDepth 100000 in
theorem lifted (os : Os) (started : os.Started) (H : Type) (enc : TypeId × Value → H) (F : Stop.Interp) :
    ReturnsInHanded {} Try.checked os 10 .any ((Rows.OpenSpec.upto Rows.instrReadsSpec).pre6 enc Try.prog Try.f10 Rows.instrReadsUptoRow.domain false) (((Rows.OpenSpec.upto Rows.instrReadsSpec).at F).post enc Try.prog Try.f10 false true false false) := by
  refine returnsInHanded_of_cond_sized (C := Try.checked) (s := Rows.OpenSpec.upto Rows.instrReadsSpec) (k := Rows.uptoSmall) rfl own started (by kernel_rfl) Try.func10
    (OpenSpec.witness (enc := enc) (C := Try.checked) (s := Rows.OpenSpec.upto Rows.instrReadsSpec) (k := Rows.uptoSmall) rfl false ⟨#[], #[.slice none 0 0, .int .i64 0], []⟩ 8 (by kernel_rfl) (by kernel_rfl) (by kernel_rfl)
      (x := ([.nil, .lit (.int .i64 0)], [], [])) (by kernel_rfl) rfl (by kernel_rfl)) ?_
  intro W base args ds gs before hval0 hW hcnd hkb hsz0 _
  have hsz : (DataW.weightsEach Try.prog (Try.f10.params.toList ++ Rows.instrReadsSpec.plain.varTypes Try.prog) (ds ++ gs)).all (· ≤ reachBytes) = true := hsz0
  have hval : ∀ (j : Nat) t v, Try.f10.params[j]? = some t → args[j]? = some v → Value.okWide Try.prog W .any base t v := hval0
  have hW' := hW
  obtain ⟨p, q, hA0, hV, rfl, hfz, hnd⟩ := hW
  have hA : DataW.TrodAll enc Try.prog W 0 (fun _ => true) true Try.f10.params.toList args.toList ds p := hA0
  rw [Try.params10] at hA hval hsz
  obtain ⟨v0, vs0, d0, ds0, p0, q0, hargs, rfl, rfl, h0, r0⟩ := trodAll_cons hA
  obtain ⟨v1, vs1, d1, ds1, p1, q1, rfl, rfl, rfl, h1, r1⟩ := trodAll_cons r0
  obtain ⟨rfl, rfl, rfl⟩ := trodAll_nil r1
  obtain rfl : args = #[v0, v1] := by cases args; simp_all
  obtain ⟨rfl, rfl⟩ := trodVars_none hV
  have k0 := h0
  have lt0 : ∀ x ∈ p0, x.block < W.heap.size := by obtain ⟨m, hm⟩ := k0; exact DataW.trod_lt m _ _ _ hm
  have w0 := weightsEach_get hsz (j := 0) (t := 46) rfl rfl
  obtain ⟨a0, len0, cap0, rfl⟩ := okWide_slice Try.underlying46 (hval 0 46 v0 rfl rfl)
  obtain ⟨x0, ⟨A0, c0, e0, hc0, hr0⟩, g0⟩ : ∃ y, ((Kd.slice 5 (Kd.int .u8))).K W y [.slice a0 len0 cap0] ∧ ((∀ y_y ∈ y, (Lit.int .u8 y_y).wf = true) ∧ y.length * 1 ≤ reachBytes) := by
    obtain ⟨fuel, hf⟩ := h0
    exact op46.op (by simpa [Value.cells] using hf) w0
  simp only [List.cons.injEq, Value.slice.injEq, and_true] at e0
  obtain ⟨rfl, rfl, rfl⟩ := e0
  obtain ⟨x1, rfl, rfl, rfl, w1⟩ := open_int Try.underlying3 (hval 1 3 v1 rfl rfl) h1
  clear hA0 hval0 hsz0 hsz
  have hb0 : x0.length ≤ Rows.uptoBulk d0 := by obtain ⟨fuel, hf⟩ := k0; exact Bulk.slice_le Try.underlying46 (by simpa [Value.cells] using hf)
  have hbk := Bulk.bound hkb
  simp only [List.cons_append, List.nil_append, Rows.uptoBulkAll] at hbk
  obtain ⟨k, h⟩ := Pure.InstrReads x0 x1 g0.1 w1 (by omega)
  refine (P.pianolalaw05_InstrReads.calls k _ _ x0 x1 true W hr0 hc0 h).mono fun e W' hp => ?_
  obtain ⟨he, bel0⟩ := hp
  have bel : Below W.heap.size W W' := bel0
  subst he
  exact ⟨_, rfl, _, _, _, [], _, [], hW', trodAll_mk1 (shut_bool Try.underlying4 _), (trodAll_cons_mk (Below.trod laidOut (by kernel_rfl) (of_decide_eq_true (by kernel_rfl)) k0 bel lt0) (trodAll_cons_mk (shut_int Try.underlying3 w1) trodAll_mk0)), rfl, bel.frame _, fun h => by cases h⟩
theorem over : Rows.instrReadsUptoRow.holds Try.pinned (Rows.OpenSpec.upto Rows.instrReadsSpec) :=
  OpenClaim.holds_of_cond 10 Try.f10 rfl rfl rfl rfl rfl rfl rfl ⟨rfl, rfl, rfl, rfl, rfl⟩ rfl rfl rfl rfl rfl (by kernel_rfl) Try.func10 (by kernel_rfl)
    (of_decide_eq_true (by kernel_rfl)) (by unfold Func.isWrapper; first | (rw [if_pos (by decide +kernel)]; kernel_rfl) | (rw [if_neg (by decide +kernel)]; exact ⟨rfl, rfl⟩))
    (fun os started H enc _ F => lifted os started H enc F)
end Go.Proofs.Ytdcjbkhfopdgnaa.instrReadsUpto
namespace Go.Proofs.Ytdcjbkhfopdgnaa
/-- The law InstrReads holds, in the second form. -/
theorem instrReadsUpto_holds : Rows.InstrReadsUptoSaid := instrReadsUpto.over
#print axioms instrReadsUpto_holds
end Go.Proofs.Ytdcjbkhfopdgnaa
