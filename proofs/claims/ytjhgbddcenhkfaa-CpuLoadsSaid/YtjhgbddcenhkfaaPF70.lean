/- Ytjhgbddcenhkfaa: what Go functions come to, and that they do: walks, printed by a program of this session or typed by hand; no statement of the seat stands here. -/
import Derived.Test.YtjhgbddcenhkfaaP0
import Derived.Test.YtjhgbddcenhkfaaPF69
import Derived.Test.YtjhgbddcenhkfaaPF68
import Derived.BigRegion
import Derived.RegionTactic
namespace Go.Proofs.Ytjhgbddcenhkfaa.P
open Go.RowKit Go.Proofs.YtjhgbddcenhkfaaW.PrintWords Go.Proofs.YtjhgbddcenhkfaaW.PrintLast Go.Proofs.YtjhgbddcenhkfaaW.PrintMore
attribute [local go_sem] max2_int min2_int max_two min_two max_three min_three max_four min_four   -- for this text's walks alone
set_option linter.unusedVariables false
set_option linter.unusedSimpArgs false


/-! ### encode_maker_signed: function 70 -/
-- IMPORT Derived.RegionTactic
-- IMPORT Derived.BigRegion
def Mk.okS (s : Mk) (h : Int) : Bool := s.good && decide (-h ≤ s.imm) && decide (s.imm < h)
def enc_or26 (W v : Int) : Int := bits BinOp.or IntKind.u32 W (bits BinOp.and IntKind.u32 (v % 4294967296) 67108863 % 4294967296)
def enc_or19 (W v : Int) : Int := bits BinOp.or IntKind.u32 W (bits BinOp.and IntKind.u32 (v % 4294967296) 524287 * 32 % 4294967296)
def Mk.put26 (s : Mk) : Mk := { s with W := enc_or26 s.W s.imm, good := s.okS 33554432, imm := 0 }
def Mk.put19 (s : Mk) : Mk := { s with W := enc_or19 s.W s.imm, good := s.okS 262144, imm := 0 }
set_option maxHeartbeats 1000000 in
set_option maxRecDepth 100000 in
theorem mk_signed26 (g : Nat) (s : Mk) (w : World) (hb : w.heap[g]? = some (.cells s.cells 104 (0, 0))) :
    Calls Try.prog 70 #[.pointer (some ⟨g, 0, none⟩), .int .i64 26, .int .i64 0] w fun e w' => e = .returned (.tuple #[]) ∧ StB 104 w w' g s.put26.cells := by
  have HS := Aside0.mk (StB.start hb)
  have h0 : w.cell? ⟨g, 0, none⟩ = some (.int .u32 s.W) := blk_cell hb 0
  have h6 : w.cell? ⟨g, 6, none⟩ = some (.int .i64 s.imm) := blk_cell hb 6
  have f0 := blk_free hb 0
  have f6 := blk_free hb 6
  have f9 := blk_free hb 9
  obtain ⟨b, hgb⟩ : ∃ b, b = s.good := ⟨_, rfl⟩
  have h9 : w.cell? ⟨g, 9, none⟩ = some (.bool b) := by rw [hgb]; exact blk_cell hb 9
  have HG := Aside0.mk hgb
  clear hb hgb
  cases b
  · go_enter Try.func70, Try.ntmps70
    go_wp2
    go_region
    all_goals
      go_wp2
      go_end0
      have hk : s.okS 33554432 = false := by unfold Mk.okS; rw [← HG.out]; rfl
      refine ⟨rfl, ?_⟩
      have h1 := (((HS.out.set 9 (.bool false)).set 0 (.int .u32 (enc_or26 s.W s.imm))).set 6 (.int .i64 0)).drew
      have e1 : s.put26.cells = (((s.cells.setIfInBounds 9 (.bool false)).setIfInBounds 0 (.int .u32 (enc_or26 s.W s.imm))).setIfInBounds 6 (.int .i64 0)) := by simp only [Mk.put26, hk]; rfl
      rw [e1]
      exact h1
  · by_cases h1 : -33554432 ≤ s.imm
    · by_cases h2 : s.imm < 33554432
      · go_enter Try.func70, Try.ntmps70
        go_wp2
        go_region
        all_goals
          go_wp2
          go_end0
          have hk : s.okS 33554432 = true := by unfold Mk.okS; rw [← HG.out]; simp [h1, h2]
          refine ⟨rfl, ?_⟩
          have h1 := (((HS.out.set 9 (.bool true)).set 0 (.int .u32 (enc_or26 s.W s.imm))).set 6 (.int .i64 0)).drew
          have e1 : s.put26.cells = (((s.cells.setIfInBounds 9 (.bool true)).setIfInBounds 0 (.int .u32 (enc_or26 s.W s.imm))).setIfInBounds 6 (.int .i64 0)) := by simp only [Mk.put26, hk]; rfl
          rw [e1]
          exact h1
      · go_enter Try.func70, Try.ntmps70
        go_wp2
        go_region
        all_goals
          go_wp2
          go_end0
          have hk : s.okS 33554432 = false := by unfold Mk.okS; rw [← HG.out]; simp [h1, h2]
          refine ⟨rfl, ?_⟩
          have h1 := (((HS.out.set 9 (.bool false)).set 0 (.int .u32 (enc_or26 s.W s.imm))).set 6 (.int .i64 0)).drew
          have e1 : s.put26.cells = (((s.cells.setIfInBounds 9 (.bool false)).setIfInBounds 0 (.int .u32 (enc_or26 s.W s.imm))).setIfInBounds 6 (.int .i64 0)) := by simp only [Mk.put26, hk]; rfl
          rw [e1]
          exact h1
    · go_enter Try.func70, Try.ntmps70
      go_wp2
      go_region
      all_goals
        go_wp2
        go_end0
        have hk : s.okS 33554432 = false := by unfold Mk.okS; rw [← HG.out]; simp; omega
        refine ⟨rfl, ?_⟩
        have h1 := (((HS.out.set 9 (.bool false)).set 0 (.int .u32 (enc_or26 s.W s.imm))).set 6 (.int .i64 0)).drew
        have e1 : s.put26.cells = (((s.cells.setIfInBounds 9 (.bool false)).setIfInBounds 0 (.int .u32 (enc_or26 s.W s.imm))).setIfInBounds 6 (.int .i64 0)) := by simp only [Mk.put26, hk]; rfl
        rw [e1]
        exact h1
set_option maxHeartbeats 1000000 in
set_option maxRecDepth 100000 in
theorem mk_signed19 (g : Nat) (s : Mk) (w : World) (hb : w.heap[g]? = some (.cells s.cells 104 (0, 0))) :
    Calls Try.prog 70 #[.pointer (some ⟨g, 0, none⟩), .int .i64 19, .int .i64 5] w fun e w' => e = .returned (.tuple #[]) ∧ StB 104 w w' g s.put19.cells := by
  have HS := Aside0.mk (StB.start hb)
  have h0 : w.cell? ⟨g, 0, none⟩ = some (.int .u32 s.W) := blk_cell hb 0
  have h6 : w.cell? ⟨g, 6, none⟩ = some (.int .i64 s.imm) := blk_cell hb 6
  have f0 := blk_free hb 0
  have f6 := blk_free hb 6
  have f9 := blk_free hb 9
  obtain ⟨b, hgb⟩ : ∃ b, b = s.good := ⟨_, rfl⟩
  have h9 : w.cell? ⟨g, 9, none⟩ = some (.bool b) := by rw [hgb]; exact blk_cell hb 9
  have HG := Aside0.mk hgb
  clear hb hgb
  cases b
  · go_enter Try.func70, Try.ntmps70
    go_wp2
    go_region
    all_goals
      go_wp2
      go_end0
      have hk : s.okS 262144 = false := by unfold Mk.okS; rw [← HG.out]; rfl
      refine ⟨rfl, ?_⟩
      have h1 := (((HS.out.set 9 (.bool false)).set 0 (.int .u32 (enc_or19 s.W s.imm))).set 6 (.int .i64 0)).drew
      have e1 : s.put19.cells = (((s.cells.setIfInBounds 9 (.bool false)).setIfInBounds 0 (.int .u32 (enc_or19 s.W s.imm))).setIfInBounds 6 (.int .i64 0)) := by simp only [Mk.put19, hk]; rfl
      rw [e1]
      exact h1
  · by_cases h1 : -262144 ≤ s.imm
    · by_cases h2 : s.imm < 262144
      · go_enter Try.func70, Try.ntmps70
        go_wp2
        go_region
        all_goals
          go_wp2
          go_end0
          have hk : s.okS 262144 = true := by unfold Mk.okS; rw [← HG.out]; simp [h1, h2]
          refine ⟨rfl, ?_⟩
          have h1 := (((HS.out.set 9 (.bool true)).set 0 (.int .u32 (enc_or19 s.W s.imm))).set 6 (.int .i64 0)).drew
          have e1 : s.put19.cells = (((s.cells.setIfInBounds 9 (.bool true)).setIfInBounds 0 (.int .u32 (enc_or19 s.W s.imm))).setIfInBounds 6 (.int .i64 0)) := by simp only [Mk.put19, hk]; rfl
          rw [e1]
          exact h1
      · go_enter Try.func70, Try.ntmps70
        go_wp2
        go_region
        all_goals
          go_wp2
          go_end0
          have hk : s.okS 262144 = false := by unfold Mk.okS; rw [← HG.out]; simp [h1, h2]
          refine ⟨rfl, ?_⟩
          have h1 := (((HS.out.set 9 (.bool false)).set 0 (.int .u32 (enc_or19 s.W s.imm))).set 6 (.int .i64 0)).drew
          have e1 : s.put19.cells = (((s.cells.setIfInBounds 9 (.bool false)).setIfInBounds 0 (.int .u32 (enc_or19 s.W s.imm))).setIfInBounds 6 (.int .i64 0)) := by simp only [Mk.put19, hk]; rfl
          rw [e1]
          exact h1
    · go_enter Try.func70, Try.ntmps70
      go_wp2
      go_region
      all_goals
        go_wp2
        go_end0
        have hk : s.okS 262144 = false := by unfold Mk.okS; rw [← HG.out]; simp; omega
        refine ⟨rfl, ?_⟩
        have h1 := (((HS.out.set 9 (.bool false)).set 0 (.int .u32 (enc_or19 s.W s.imm))).set 6 (.int .i64 0)).drew
        have e1 : s.put19.cells = (((s.cells.setIfInBounds 9 (.bool false)).setIfInBounds 0 (.int .u32 (enc_or19 s.W s.imm))).setIfInBounds 6 (.int .i64 0)) := by simp only [Mk.put19, hk]; rfl
        rw [e1]
        exact h1

end Go.Proofs.Ytjhgbddcenhkfaa.P
