/- Ytjhgbddcenhkfaa: what Go functions come to, and that they do: walks, printed by a program of this session or typed by hand; no statement of the seat stands here. -/
import Derived.Test.YtjhgbddcenhkfaaP0
import Derived.BigRegion
import Derived.ChangeAlike
import Derived.RegionTactic
namespace Go.Proofs.Ytjhgbddcenhkfaa.P
open Go.RowKit Go.Proofs.YtjhgbddcenhkfaaW.PrintWords Go.Proofs.YtjhgbddcenhkfaaW.PrintLast Go.Proofs.YtjhgbddcenhkfaaW.PrintMore
attribute [local go_sem] max2_int min2_int max_two min_two max_three min_three max_four min_four   -- for this text's walks alone
set_option linter.unusedVariables false
set_option linter.unusedSimpArgs false


/-! ### encode_maker_put: function 69 -/
-- IMPORT Derived.RegionTactic
-- IMPORT Derived.BigRegion
-- IMPORT Derived.ChangeAlike
/-- A block's cells have turned, and nothing else. -/
def StB (t : TypeId) (w w' : World) (g : Nat) (cs : Array Value) : Prop :=
  w'.heap[g]? = some (.cells cs t (0, 0)) ∧ KeepBut w w' g none ∧ ∀ B w0, B ≤ g → Below B w0 w → Below B w0 w'
theorem StB.start {t : TypeId} {w : World} {g : Nat} {cs : Array Value} (h : w.heap[g]? = some (.cells cs t (0, 0))) : StB t w w g cs := ⟨h, KeepBut.refl _ _ _, fun _ _ _ hb => hb⟩
theorem StB.set {t : TypeId} {w w' : World} {g : Nat} {cs : Array Value} (h : StB t w w' g cs) (j : Nat) (u : Value) : StB t w (w'.setCell ⟨g, j, none⟩ u) g (cs.setIfInBounds j u) :=
  ⟨blk_set h.1 j u, h.2.1.set_ j u, fun B w0 hB hb => (h.2.2 B w0 hB hb).setCell (p := ⟨g, j, none⟩) hB u⟩
theorem StB.drew {t : TypeId} {w w' : World} {g : Nat} {cs : Array Value} (h : StB t w w' g cs) : StB t w w'.drew g cs :=
  ⟨h.1, ⟨h.2.1.1, h.2.1.2⟩, fun B w0 hB hb => below_drew (h.2.2 B w0 hB hb)⟩
theorem StB.trans {t : TypeId} {w w1 w2 : World} {g : Nat} {cs cs' : Array Value} (h : StB t w w1 g cs) (k : StB t w1 w2 g cs') : StB t w w2 g cs' :=
  ⟨k.1, h.2.1.trans k.2.1 (.inl rfl), fun B w0 hB hb => k.2.2 B w0 hB (h.2.2 B w0 hB hb)⟩
theorem blk_free {t : TypeId} {w : World} {g : Nat} {cs : Array Value} (h : w.heap[g]? = some (.cells cs t (0, 0))) (j : Nat) : w.frozen? ⟨g, j, none⟩ = false := by simp [World.frozen?, h]
/-- What 'put' makes of the word. -/
def enc_or (W v m at_ : Int) : Int := bits BinOp.or IntKind.u32 W (bits BinOp.and IntKind.u32 (v % 4294967296) (wrap64 m % 4294967296) * 2 ^ min at_.toNat 32 % 4294967296)
set_option maxHeartbeats 1000000 in
set_option maxRecDepth 100000 in
theorem enc_put_in (g j : Nat) (W v least most at_ : Int) (good : Bool) (cs : Array Value) (w : World) (hj0 : j ≠ 0) (hj9 : j ≠ 9) (hat : 0 ≤ at_)
    (hb : w.heap[g]? = some (.cells cs 104 (0, 0))) (c0 : cs[0]? = some (.int .u32 W)) (cj : cs[j]? = some (.int .i64 v)) (c9 : cs[9]? = some (.bool good)) :
    Calls Try.prog 69 #[.pointer (some ⟨g, 0, none⟩), .pointer (some ⟨g, j, none⟩), .int .i64 least, .int .i64 most, .int .i64 at_] w fun e w' =>
      e = .returned (.tuple #[]) ∧ StB 104 w w' g (((cs.setIfInBounds 9 (.bool (good && decide (least ≤ v) && decide (v ≤ most)))).setIfInBounds 0 (.int .u32 (enc_or W v (most - least) at_))).setIfInBounds j (.int .i64 0)) := by
  have hs := StB.start hb
  have h0 : w.cell? ⟨g, 0, none⟩ = some (.int .u32 W) := (blk_cell hb 0).trans c0
  have hj : w.cell? ⟨g, j, none⟩ = some (.int .i64 v) := (blk_cell hb j).trans cj
  have h9 : w.cell? ⟨g, 9, none⟩ = some (.bool good) := (blk_cell hb 9).trans c9
  have f0 := blk_free hb 0
  have fj := blk_free hb j
  have f9 := blk_free hb 9
  have HS := Aside0.mk hs
  clear hs hb c0 cj c9
  cases good
  · go_enter Try.func69, Try.ntmps69
    go_wp2
    go_region
    all_goals (go_wp2; go_end0; exact ⟨rfl, (((HS.out.set 9 _).set 0 _).set j _).drew⟩)
  · by_cases h1 : least ≤ v
    · by_cases h2 : v ≤ most
      · go_enter Try.func69, Try.ntmps69
        go_wp2
        go_region
        all_goals (go_wp2; go_end0; rw [show (true && decide (least ≤ v) && decide (v ≤ most)) = true from by simp [h1, h2]]; exact ⟨rfl, (((HS.out.set 9 _).set 0 _).set j _).drew⟩)
      · go_enter Try.func69, Try.ntmps69
        go_wp2
        go_region
        all_goals (go_wp2; go_end0; rw [show (true && decide (least ≤ v) && decide (v ≤ most)) = false from by simp [h1, h2]]; exact ⟨rfl, (((HS.out.set 9 _).set 0 _).set j _).drew⟩)
    · go_enter Try.func69, Try.ntmps69
      go_wp2
      go_region
      all_goals (go_wp2; go_end0; rw [show (true && decide (least ≤ v) && decide (v ≤ most)) = false from by simp; omega]; exact ⟨rfl, (((HS.out.set 9 _).set 0 _).set j _).drew⟩)

end Go.Proofs.Ytjhgbddcenhkfaa.P
