/- Ytjhgbddcenhkfaa: what Go functions come to, and that they do: walks, printed by a program of this session or typed by hand; no statement of the seat stands here. -/
import Derived.Test.YtjhgbddcenhkfaaP0
import Derived.Test.YtjhgbddcenhkfaaPF13
import Derived.Test.YtjhgbddcenhkfaaCpuI
import Derived.Test.YtjhgbddcenhkfaaPF13
namespace Go.Proofs.Ytjhgbddcenhkfaa.P
open Go.RowKit Go.Proofs.YtjhgbddcenhkfaaW.PrintWords Go.Proofs.YtjhgbddcenhkfaaW.PrintLast Go.Proofs.YtjhgbddcenhkfaaW.PrintMore
attribute [local go_sem] max2_int min2_int max_two min_two max_three min_three max_four min_four   -- for this text's walks alone
set_option linter.unusedVariables false
set_option linter.unusedSimpArgs false


/-! ### pianolalaw14_CpuNobody: function 7 -/
-- IMPORT Derived.Test.YtjhgbddcenhkfaaCpuI
-- IMPORT Derived.Test.YtjhgbddcenhkfaaPF13
def pianolalaw14_CpuNobody.f (_a0 : Int) (_a1 : Int) : Option Bool := some true
set_option maxRecDepth 100000 in
set_option maxHeartbeats 2000000 in
theorem pianolalaw14_CpuNobody.calls (a0 : Int) (a1 : Int) (r : Bool) (w : World) (h : pianolalaw14_CpuNobody.f a0 a1 = some r) :
    Calls Try.prog 7 #[.int .i64 a0, .int .i64 a1] w fun e w' => e = .returned (.bool r) ∧ Below w.heap.size w w' := by
  obtain rfl : r = true := (Option.some.inj h).symm
  clear h
  have hq : ∀ W, (binOp .eql 53 (.agg #[.int .i64 1, .int .i64 0, .int .i64 0]) (.agg #[.int .i64 1, .int .i64 0, .int .i64 0])).run Try.prog W = .ok (.bool true) W := fun _ => by kernel_rfl
  have hf : ∀ W, (binOp .eql 23 (.agg #[.bool false, .bool false, .bool false, .bool false]) (.agg #[.bool false, .bool false, .bool false, .bool false])).run Try.prog W = .ok (.bool true) W := fun _ => by kernel_rfl
  go_enter Try.func7, Try.ntmps7
  go_wp2_with fail
  refine (read_nil a0 _).mono ?_
  rintro e w1 ⟨rfl, rfl⟩
  go_wp2_with fail
  refine (pianolalaw14_lives.calls true _ rfl).mono ?_
  rintro e w2 ⟨rfl, hb2⟩
  have HB2 := Aside0.mk hb2
  clear hb2
  go_wp2_with fail
  refine (reg_nil a0 _).mono ?_
  rintro e w3 ⟨rfl, rfl⟩
  go_wp2_with fail
  refine (set_nil a0 a1 _).mono ?_
  rintro e w4 ⟨rfl, rfl⟩
  go_wp2_with fail
  refine (flags_nil _).mono ?_
  rintro e w5 ⟨rfl, hb5⟩
  have HB5 := Aside0.mk (below_step HB2.out hb5)
  clear hb5
  go_wp2_with fail
  refine (place_nil _).mono ?_
  rintro e w6 ⟨rfl, rfl⟩
  go_wp2_with fail
  refine (go_nil a0 _).mono ?_
  rintro e w7 ⟨rfl, rfl⟩
  go_wp2_with fail
  refine (write_nil a0 a1 _).mono ?_
  rintro e w8 ⟨rfl, rfl⟩
  go_wp2_with fail
  refine (step_nil _).mono ?_
  rintro e w9 ⟨rfl, hb9⟩
  have HB9 := Aside0.mk (below_step HB5.out hb9)
  clear hb9
  go_wp2_with fail
  refine (run_nil a0 _).mono ?_
  rintro e wa ⟨rfl, hba⟩
  have HBa := Aside0.mk (below_step HB9.out hba)
  clear hba
  go_wp2_with fail
  go_ret
  exact ⟨rfl, HBa.out⟩

end Go.Proofs.Ytjhgbddcenhkfaa.P
