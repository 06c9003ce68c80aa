/- Ytjhgbddcenhkfaa: what Go functions come to, and that they do: walks, printed by a program of this session or typed by hand; no statement of the seat stands here. -/
import Derived.Test.YtjhgbddcenhkfaaP0
import Derived.Test.YtjhgbddcenhkfaaPF69
namespace Go.Proofs.Ytjhgbddcenhkfaa.P
open Go.RowKit Go.Proofs.YtjhgbddcenhkfaaW.PrintWords Go.Proofs.YtjhgbddcenhkfaaW.PrintLast Go.Proofs.YtjhgbddcenhkfaaW.PrintMore
attribute [local go_sem] max2_int min2_int max_two min_two max_three min_three max_four min_four   -- for this text's walks alone
set_option linter.unusedVariables false
set_option linter.unusedSimpArgs false


/-! ### encode_maker_registers: function 68 -/
/-- What a maker holds. -/
structure Mk where
  W : Int
  op : Int
  rd : Int
  rn : Int
  rm : Int
  ra : Int
  imm : Int
  shift : Int
  cond : Int
  good : Bool
def Mk.cells (s : Mk) : Array Value := #[.int .u32 s.W, .int .i64 s.op, .int .i64 s.rd, .int .i64 s.rn, .int .i64 s.rm, .int .i64 s.ra, .int .i64 s.imm, .int .i64 s.shift, .int .i64 s.cond, .bool s.good]
def Mk.ok (s : Mk) (v m : Int) : Bool := s.good && decide (0 ≤ v) && decide (v ≤ m)
def Mk.putRd (s : Mk) (m at_ : Int) : Mk := { s with W := enc_or s.W s.rd (m - 0) at_, good := s.ok s.rd m, rd := 0 }
def Mk.putRn (s : Mk) (m at_ : Int) : Mk := { s with W := enc_or s.W s.rn (m - 0) at_, good := s.ok s.rn m, rn := 0 }
def Mk.putRm (s : Mk) (m at_ : Int) : Mk := { s with W := enc_or s.W s.rm (m - 0) at_, good := s.ok s.rm m, rm := 0 }
def Mk.putRa (s : Mk) (m at_ : Int) : Mk := { s with W := enc_or s.W s.ra (m - 0) at_, good := s.ok s.ra m, ra := 0 }
def Mk.putImm (s : Mk) (m at_ : Int) : Mk := { s with W := enc_or s.W s.imm (m - 0) at_, good := s.ok s.imm m, imm := 0 }
def Mk.putShift (s : Mk) (m at_ : Int) : Mk := { s with W := enc_or s.W s.shift (m - 0) at_, good := s.ok s.shift m, shift := 0 }
def Mk.putCond (s : Mk) (m at_ : Int) : Mk := { s with W := enc_or s.W s.cond (m - 0) at_, good := s.ok s.cond m, cond := 0 }
theorem mk_putRd (g : Nat) (s : Mk) (m at_ : Int) (w : World) (hat : 0 ≤ at_) (hb : w.heap[g]? = some (.cells s.cells 104 (0, 0))) :
    Calls Try.prog 69 #[.pointer (some ⟨g, 0, none⟩), .pointer (some ⟨g, 2, none⟩), .int .i64 0, .int .i64 m, .int .i64 at_] w fun e w' => e = .returned (.tuple #[]) ∧ StB 104 w w' g (s.putRd m at_).cells :=
  enc_put_in g 2 s.W s.rd 0 m at_ s.good s.cells w (by decide) (by decide) hat hb rfl rfl rfl
theorem mk_putRn (g : Nat) (s : Mk) (m at_ : Int) (w : World) (hat : 0 ≤ at_) (hb : w.heap[g]? = some (.cells s.cells 104 (0, 0))) :
    Calls Try.prog 69 #[.pointer (some ⟨g, 0, none⟩), .pointer (some ⟨g, 3, none⟩), .int .i64 0, .int .i64 m, .int .i64 at_] w fun e w' => e = .returned (.tuple #[]) ∧ StB 104 w w' g (s.putRn m at_).cells :=
  enc_put_in g 3 s.W s.rn 0 m at_ s.good s.cells w (by decide) (by decide) hat hb rfl rfl rfl
theorem mk_putRm (g : Nat) (s : Mk) (m at_ : Int) (w : World) (hat : 0 ≤ at_) (hb : w.heap[g]? = some (.cells s.cells 104 (0, 0))) :
    Calls Try.prog 69 #[.pointer (some ⟨g, 0, none⟩), .pointer (some ⟨g, 4, none⟩), .int .i64 0, .int .i64 m, .int .i64 at_] w fun e w' => e = .returned (.tuple #[]) ∧ StB 104 w w' g (s.putRm m at_).cells :=
  enc_put_in g 4 s.W s.rm 0 m at_ s.good s.cells w (by decide) (by decide) hat hb rfl rfl rfl
theorem mk_putRa (g : Nat) (s : Mk) (m at_ : Int) (w : World) (hat : 0 ≤ at_) (hb : w.heap[g]? = some (.cells s.cells 104 (0, 0))) :
    Calls Try.prog 69 #[.pointer (some ⟨g, 0, none⟩), .pointer (some ⟨g, 5, none⟩), .int .i64 0, .int .i64 m, .int .i64 at_] w fun e w' => e = .returned (.tuple #[]) ∧ StB 104 w w' g (s.putRa m at_).cells :=
  enc_put_in g 5 s.W s.ra 0 m at_ s.good s.cells w (by decide) (by decide) hat hb rfl rfl rfl
theorem mk_putImm (g : Nat) (s : Mk) (m at_ : Int) (w : World) (hat : 0 ≤ at_) (hb : w.heap[g]? = some (.cells s.cells 104 (0, 0))) :
    Calls Try.prog 69 #[.pointer (some ⟨g, 0, none⟩), .pointer (some ⟨g, 6, none⟩), .int .i64 0, .int .i64 m, .int .i64 at_] w fun e w' => e = .returned (.tuple #[]) ∧ StB 104 w w' g (s.putImm m at_).cells :=
  enc_put_in g 6 s.W s.imm 0 m at_ s.good s.cells w (by decide) (by decide) hat hb rfl rfl rfl
theorem mk_putShift (g : Nat) (s : Mk) (m at_ : Int) (w : World) (hat : 0 ≤ at_) (hb : w.heap[g]? = some (.cells s.cells 104 (0, 0))) :
    Calls Try.prog 69 #[.pointer (some ⟨g, 0, none⟩), .pointer (some ⟨g, 7, none⟩), .int .i64 0, .int .i64 m, .int .i64 at_] w fun e w' => e = .returned (.tuple #[]) ∧ StB 104 w w' g (s.putShift m at_).cells :=
  enc_put_in g 7 s.W s.shift 0 m at_ s.good s.cells w (by decide) (by decide) hat hb rfl rfl rfl
theorem mk_putCond (g : Nat) (s : Mk) (m at_ : Int) (w : World) (hat : 0 ≤ at_) (hb : w.heap[g]? = some (.cells s.cells 104 (0, 0))) :
    Calls Try.prog 69 #[.pointer (some ⟨g, 0, none⟩), .pointer (some ⟨g, 8, none⟩), .int .i64 0, .int .i64 m, .int .i64 at_] w fun e w' => e = .returned (.tuple #[]) ∧ StB 104 w w' g (s.putCond m at_).cells :=
  enc_put_in g 8 s.W s.cond 0 m at_ s.good s.cells w (by decide) (by decide) hat hb rfl rfl rfl
def Mk.regs (s : Mk) (d n m : Bool) : Mk :=
  let s1 := if d then s.putRd 31 0 else s
  let s2 := if n then s1.putRn 31 5 else s1
  if m then s2.putRm 31 16 else s2
set_option maxHeartbeats 1000000 in
set_option maxRecDepth 100000 in
theorem mk_regs (g : Nat) (s : Mk) (d n m : Bool) (w : World) (hb : w.heap[g]? = some (.cells s.cells 104 (0, 0))) :
    Calls Try.prog 68 #[.pointer (some ⟨g, 0, none⟩), .bool d, .bool n, .bool m] w fun e w' => e = .returned (.tuple #[]) ∧ StB 104 w w' g (s.regs d n m).cells := by
  have H0 := Aside0.mk (StB.start hb)
  clear hb
  cases d <;> cases n <;> cases m
  · go_enter Try.func68, Try.ntmps68
    go_wp2_with fail
    go_end0
    exact ⟨rfl, H0.out⟩
  · go_enter Try.func68, Try.ntmps68
    go_wp2_with fail
    refine (mk_putRm g s 31 16 _ (by decide) H0.out.1).mono ?_
    rintro e w1 ⟨rfl, h1⟩
    have H1 := Aside0.mk (H0.out.trans h1)
    clear h1 H0
    go_wp2_with fail
    go_end0
    exact ⟨rfl, H1.out⟩
  · go_enter Try.func68, Try.ntmps68
    go_wp2_with fail
    refine (mk_putRn g s 31 5 _ (by decide) H0.out.1).mono ?_
    rintro e w1 ⟨rfl, h1⟩
    have H1 := Aside0.mk (H0.out.trans h1)
    clear h1 H0
    go_wp2_with fail
    go_end0
    exact ⟨rfl, H1.out⟩
  · go_enter Try.func68, Try.ntmps68
    go_wp2_with fail
    refine (mk_putRn g s 31 5 _ (by decide) H0.out.1).mono ?_
    rintro e w1 ⟨rfl, h1⟩
    have H1 := Aside0.mk (H0.out.trans h1)
    clear h1 H0
    go_wp2_with fail
    refine (mk_putRm g (s.putRn 31 5) 31 16 _ (by decide) H1.out.1).mono ?_
    rintro e w2 ⟨rfl, h1⟩
    have H2 := Aside0.mk (H1.out.trans h1)
    clear h1 H1
    go_wp2_with fail
    go_end0
    exact ⟨rfl, H2.out⟩
  · go_enter Try.func68, Try.ntmps68
    go_wp2_with fail
    refine (mk_putRd g s 31 0 _ (by decide) H0.out.1).mono ?_
    rintro e w1 ⟨rfl, h1⟩
    have H1 := Aside0.mk (H0.out.trans h1)
    clear h1 H0
    go_wp2_with fail
    go_end0
    exact ⟨rfl, H1.out⟩
  · go_enter Try.func68, Try.ntmps68
    go_wp2_with fail
    refine (mk_putRd g s 31 0 _ (by decide) H0.out.1).mono ?_
    rintro e w1 ⟨rfl, h1⟩
    have H1 := Aside0.mk (H0.out.trans h1)
    clear h1 H0
    go_wp2_with fail
    refine (mk_putRm g (s.putRd 31 0) 31 16 _ (by decide) H1.out.1).mono ?_
    rintro e w2 ⟨rfl, h1⟩
    have H2 := Aside0.mk (H1.out.trans h1)
    clear h1 H1
    go_wp2_with fail
    go_end0
    exact ⟨rfl, H2.out⟩
  · go_enter Try.func68, Try.ntmps68
    go_wp2_with fail
    refine (mk_putRd g s 31 0 _ (by decide) H0.out.1).mono ?_
    rintro e w1 ⟨rfl, h1⟩
    have H1 := Aside0.mk (H0.out.trans h1)
    clear h1 H0
    go_wp2_with fail
    refine (mk_putRn g (s.putRd 31 0) 31 5 _ (by decide) H1.out.1).mono ?_
    rintro e w2 ⟨rfl, h1⟩
    have H2 := Aside0.mk (H1.out.trans h1)
    clear h1 H1
    go_wp2_with fail
    go_end0
    exact ⟨rfl, H2.out⟩
  · go_enter Try.func68, Try.ntmps68
    go_wp2_with fail
    refine (mk_putRd g s 31 0 _ (by decide) H0.out.1).mono ?_
    rintro e w1 ⟨rfl, h1⟩
    have H1 := Aside0.mk (H0.out.trans h1)
    clear h1 H0
    go_wp2_with fail
    refine (mk_putRn g (s.putRd 31 0) 31 5 _ (by decide) H1.out.1).mono ?_
    rintro e w2 ⟨rfl, h1⟩
    have H2 := Aside0.mk (H1.out.trans h1)
    clear h1 H1
    go_wp2_with fail
    refine (mk_putRm g ((s.putRd 31 0).putRn 31 5) 31 16 _ (by decide) H2.out.1).mono ?_
    rintro e w3 ⟨rfl, h1⟩
    have H3 := Aside0.mk (H2.out.trans h1)
    clear h1 H2
    go_wp2_with fail
    go_end0
    exact ⟨rfl, H3.out⟩

end Go.Proofs.Ytjhgbddcenhkfaa.P
