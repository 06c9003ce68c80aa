/- The instructions of any function, and all calls: the plain part, where codes are of at most 1048576 bytes. -/
import Derived.Test.YtjkjpmfenillcaaQModuleFuncs
import Derived.Test.YtjkjpmfenillcaaOpnU
set_option linter.unusedVariables false
set_option linter.unusedSimpArgs false
namespace Go.Proofs.Ytjkjpmfenillcaa.P
open Go.RowKit Go.Proofs.YtjkjpmfenillcaaW.PrintWords Go.Proofs.YtjkjpmfenillcaaW.PrintLast Go.Proofs.YtjkjpmfenillcaaW.PrintMore Go.Proofs.YtjkjpmfenillcaaOpnU
theorem massL_one {α : Type} : ∀ (l : List α), massL (fun _ => 1) l = l.length
  | [] => rfl
  | x :: l => by rw [massL, massL_one l, List.length_cons]; omega
theorem massL_mem {α : Type} (m : α → Nat) : ∀ (l : List α) (x : α), x ∈ l → m x ≤ massL m l
  | [], _, h => (List.not_mem_nil h).elim
  | y :: l, x, h => by
    rw [massL]
    rcases List.mem_cons.1 h with rfl | h
    · omega
    · have := massL_mem m l x h
      omega
theorem fn_bulk (x : S27) (B : Nat) (h : (fun x : S27 => ((fun l => massL (fun _ => 1) l + 1) x.f0 + ((fun l => massL (fun x : S41 => ((fun _ => 1) x.f0 + (((fun _ => 1) x.f1 + ((fun l => massL (fun _ => 1) l + 1) x.f2))))) l + 1) x.f1))) x ≤ B) (hB : B ≤ 1048576) : ∀ y ∈ x.f1, y.f2.length ≤ 1048576 := by
  intro y hy
  dsimp only at h
  have h1 := massL_mem (fun x : S41 => (1 + ((1 + ((massL (fun _ => 1) x.f2 + 1)))))) x.f1 y hy
  rw [massL_one] at h1
  omega
end Go.Proofs.Ytjkjpmfenillcaa.P
namespace Go.Proofs.Ytjkjpmfenillcaa.Pure
open Go.RowKit Go.Proofs.Ytjkjpmfenillcaa.P Go.Proofs.YtjkjpmfenillcaaW.PrintWords Go.Proofs.YtjkjpmfenillcaaW.PrintLast
theorem ModuleFuncs (x0 : S27) (x1 : Int) (g0 : ((∀ y_x0_f0 ∈ x0.f0, (Lit.int .i64 y_x0_f0).wf = true) ∧ x0.f0.length * 8 ≤ reachBytes) ∧ ((∀ y_x0_f1 ∈ x0.f1, ((Lit.int .i64 y_x0_f1.f0).wf = true) ∧ ((Lit.int .i64 y_x0_f1.f1).wf = true) ∧ ((∀ y_y_x0_f1_f2 ∈ y_x0_f1.f2, (Lit.int .u8 y_y_x0_f1_f2).wf = true) ∧ y_x0_f1.f2.length * 1 ≤ reachBytes)) ∧ x0.f1.length * 40 ≤ reachBytes)) (w1 : (Lit.int .i64 x1).wf = true) (hb : ∀ y ∈ x0.f1, y.f2.length ≤ 1048576) : pianolalaw06_ModuleFuncs.f x0.f0 x0.f1 x1 = some true := by
  unfold pianolalaw06_ModuleFuncs.f
  rw [if_pos]
  rw [okMod_of x0.f0 x0.f1 g0.1.1 g0.1.2 (fun y hy => (g0.2.1 y hy).2.2.1) g0.2.2, Bool.true_and]
  unfold okFs
  rw [List.all_eq_true]
  intro y hy
  exact decide_eq_true (hb y hy)
end Go.Proofs.Ytjkjpmfenillcaa.Pure
