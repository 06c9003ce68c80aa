/- Ytjhgbddcenhkfaa: what Go functions come to, and that they do: walks, printed by a program of this session or typed by hand; no statement of the seat stands here. -/
import Derived.Test.YtjhgbddcenhkfaaP0
import Derived.Test.YtjhgbddcenhkfaaPF61
import Derived.Test.YtjhgbddcenhkfaaPF62
import Derived.Test.YtjhgbddcenhkfaaPF61
import Derived.Test.YtjhgbddcenhkfaaPF62
namespace Go.Proofs.Ytjhgbddcenhkfaa.P
open Go.RowKit Go.Proofs.YtjhgbddcenhkfaaW.PrintWords Go.Proofs.YtjhgbddcenhkfaaW.PrintLast Go.Proofs.YtjhgbddcenhkfaaW.PrintMore
attribute [local go_sem] max2_int min2_int max_two min_two max_three min_three max_four min_four   -- for this text's walks alone
set_option linter.unusedVariables false
set_option linter.unusedSimpArgs false


/-! ### decode_guess: function 51 -/
-- IMPORT Derived.Test.YtjhgbddcenhkfaaPF61
-- IMPORT Derived.Test.YtjhgbddcenhkfaaPF62
def bt (W a s : Int) : Int := (decode_bits.f W a s).getD 0
def sg (W a s : Int) : Int := (decode_signed.f W a s).getD 0
def gs (W op : Int) : Int × Int × Int × Int × Int × Int × Int × Int :=
  if op = 4 ∨ op = 5 ∨ op = 6 ∨ op = 19 ∨ op = 20 then (op, bt W 0 5, bt W 5 5, 0, 0, bt W 10 12, 0, 0) else
  if op = 11 ∨ op = 12 then (op, bt W 0 5, bt W 5 5, bt W 16 5, bt W 10 5, 0, 0, 0) else
  if op = 16 ∨ op = 17 ∨ op = 18 then (op, bt W 0 5, 0, 0, 0, bt W 5 16, bt W 21 2, 0) else
  if op = 21 ∨ op = 22 then (op, bt W 0 5, bt W 5 5, bt W 16 5, 0, 0, 0, bt W 12 4) else
  if op = 23 ∨ op = 24 then (op, 0, 0, 0, 0, sg W 0 26, 0, 0) else
  if op = 25 then (op, 0, 0, 0, 0, sg W 5 19, 0, bt W 0 4) else
  if op = 26 ∨ op = 27 then (op, bt W 0 5, 0, 0, 0, sg W 5 19, 0, 0) else
  if op = 28 then (op, 0, bt W 5 5, 0, 0, 0, 0, 0) else
  if op = 29 ∨ op = 30 then (op, 0, 0, 0, 0, bt W 5 16, 0, 0) else
  if op = 31 then (op, 0, 0, 0, 0, 0, 0, 0) else (op, bt W 0 5, bt W 5 5, bt W 16 5, 0, 0, 0, 0)
def decode_guess.f (W op : Int) : Option (Int × Int × Int × Int × Int × Int × Int × Int) := if 1 ≤ op ∧ op ≤ 31 then some (gs W op) else none
theorem getD_of {o : Option Int} (h : ∃ r, o = some r) : o = some (o.getD 0) := by
  obtain ⟨r, rfl⟩ := h
  rfl
theorem bits_some (W a s : Int) (h0 : 0 ≤ a) (h1 : 0 ≤ s) : ∃ r, decode_bits.f W a s = some r := ⟨_, by unfold decode_bits.f; rw [if_pos h0, if_pos h1]⟩
theorem bits_run (W a s : Int) (w : World) (h0 : 0 ≤ a) (h1 : 0 ≤ s) : Calls Try.prog 61 #[.int .u32 W, .int .i64 a, .int .i64 s] w fun e w' => e = .returned (.int .i64 (bt W a s)) ∧ ∃ n, w' = w.drewN n :=
  (decode_bits.calls W a s (bt W a s) w (getD_of (bits_some W a s h0 h1))).mono fun e w' h => ⟨h.1, h.2.out⟩
theorem signed_run (W a s : Int) (w : World) (h0 : 0 ≤ a) (h1 : 0 ≤ s) (h2 : 0 ≤ wrap64 (s - 1)) : Calls Try.prog 62 #[.int .u32 W, .int .i64 a, .int .i64 s] w fun e w' => e = .returned (.int .i64 (sg W a s)) ∧ ∃ n, w' = w.drewN n := by
  have h : ∃ r, decode_signed.f W a s = some r := by
    obtain ⟨b, hb⟩ := bits_some W a s h0 h1
    unfold decode_signed.f
    rw [hb, Option.bind_some]
    rw [if_pos h2]
    split
    · exact ⟨_, rfl⟩
    · exact ⟨_, rfl⟩
  exact (decode_signed.calls W a s (sg W a s) w (getD_of h)).mono fun e w' h => ⟨h.1, h.2.out⟩
theorem blk_put8 {W : World} {g : Nat} {T : TypeId} {z0 z1 z2 z3 z4 z5 z6 z7 : Value} (h : W.heap[g]? = some (.cells #[z0, z1, z2, z3, z4, z5, z6, z7] T (0, 0))) (v0 v1 v2 v3 v4 v5 v6 v7 : Value) :
    ((((((((W.setCell ⟨g, 0, none⟩ v0).setCell ⟨g, 1, none⟩ v1).setCell ⟨g, 2, none⟩ v2).setCell ⟨g, 3, none⟩ v3).setCell ⟨g, 4, none⟩ v4).setCell ⟨g, 5, none⟩ v5).setCell ⟨g, 6, none⟩ v6).setCell ⟨g, 7, none⟩ v7).heap[g]? = some (.cells #[v0, v1, v2, v3, v4, v5, v6, v7] T (0, 0)) := by
  have h0 : (W.setCell ⟨g, 0, none⟩ v0).heap[g]? = some (.cells #[v0, z1, z2, z3, z4, z5, z6, z7] T (0, 0)) := blk_put h 0 v0 rfl
  have h1 : ((W.setCell ⟨g, 0, none⟩ v0).setCell ⟨g, 1, none⟩ v1).heap[g]? = some (.cells #[v0, v1, z2, z3, z4, z5, z6, z7] T (0, 0)) := blk_put h0 1 v1 rfl
  have h2 : (((W.setCell ⟨g, 0, none⟩ v0).setCell ⟨g, 1, none⟩ v1).setCell ⟨g, 2, none⟩ v2).heap[g]? = some (.cells #[v0, v1, v2, z3, z4, z5, z6, z7] T (0, 0)) := blk_put h1 2 v2 rfl
  have h3 : ((((W.setCell ⟨g, 0, none⟩ v0).setCell ⟨g, 1, none⟩ v1).setCell ⟨g, 2, none⟩ v2).setCell ⟨g, 3, none⟩ v3).heap[g]? = some (.cells #[v0, v1, v2, v3, z4, z5, z6, z7] T (0, 0)) := blk_put h2 3 v3 rfl
  have h4 : (((((W.setCell ⟨g, 0, none⟩ v0).setCell ⟨g, 1, none⟩ v1).setCell ⟨g, 2, none⟩ v2).setCell ⟨g, 3, none⟩ v3).setCell ⟨g, 4, none⟩ v4).heap[g]? = some (.cells #[v0, v1, v2, v3, v4, z5, z6, z7] T (0, 0)) := blk_put h3 4 v4 rfl
  have h5 : ((((((W.setCell ⟨g, 0, none⟩ v0).setCell ⟨g, 1, none⟩ v1).setCell ⟨g, 2, none⟩ v2).setCell ⟨g, 3, none⟩ v3).setCell ⟨g, 4, none⟩ v4).setCell ⟨g, 5, none⟩ v5).heap[g]? = some (.cells #[v0, v1, v2, v3, v4, v5, z6, z7] T (0, 0)) := blk_put h4 5 v5 rfl
  have h6 : (((((((W.setCell ⟨g, 0, none⟩ v0).setCell ⟨g, 1, none⟩ v1).setCell ⟨g, 2, none⟩ v2).setCell ⟨g, 3, none⟩ v3).setCell ⟨g, 4, none⟩ v4).setCell ⟨g, 5, none⟩ v5).setCell ⟨g, 6, none⟩ v6).heap[g]? = some (.cells #[v0, v1, v2, v3, v4, v5, v6, z7] T (0, 0)) := blk_put h5 6 v6 rfl
  have h7 : ((((((((W.setCell ⟨g, 0, none⟩ v0).setCell ⟨g, 1, none⟩ v1).setCell ⟨g, 2, none⟩ v2).setCell ⟨g, 3, none⟩ v3).setCell ⟨g, 4, none⟩ v4).setCell ⟨g, 5, none⟩ v5).setCell ⟨g, 6, none⟩ v6).setCell ⟨g, 7, none⟩ v7).heap[g]? = some (.cells #[v0, v1, v2, v3, v4, v5, v6, v7] T (0, 0)) := blk_put h6 7 v7 rfl
  exact h7
set_option maxRecDepth 100000 in
set_option maxHeartbeats 16000000 in
theorem guess_run (W op : Int) (w : World) (h0 : 1 ≤ op) (h1 : op ≤ 31) : Calls Try.prog 51 #[.int .u32 W, .int .i64 op] w fun e w' => e = .returned (.agg #[.int .i64 (gs W op).1, .int .i64 (gs W op).2.1, .int .i64 (gs W op).2.2.1, .int .i64 (gs W op).2.2.2.1, .int .i64 (gs W op).2.2.2.2.1, .int .i64 (gs W op).2.2.2.2.2.1, .int .i64 (gs W op).2.2.2.2.2.2.1, .int .i64 (gs W op).2.2.2.2.2.2.2]) ∧ Below w.heap.size w w' := by
  have hops : op = 1 ∨ op = 2 ∨ op = 3 ∨ op = 4 ∨ op = 5 ∨ op = 6 ∨ op = 7 ∨ op = 8 ∨ op = 9 ∨ op = 10 ∨ op = 11 ∨ op = 12 ∨ op = 13 ∨ op = 14 ∨ op = 15 ∨ op = 16 ∨ op = 17 ∨ op = 18 ∨ op = 19 ∨ op = 20 ∨ op = 21 ∨ op = 22 ∨ op = 23 ∨ op = 24 ∨ op = 25 ∨ op = 26 ∨ op = 27 ∨ op = 28 ∨ op = 29 ∨ op = 30 ∨ op = 31 := by omega
  clear h0 h1
  rcases hops with rfl | rfl | rfl | rfl | rfl | rfl | rfl | rfl | rfl | rfl | rfl | rfl | rfl | rfl | rfl | rfl | rfl | rfl | rfl | rfl | rfl | rfl | rfl | rfl | rfl | rfl | rfl | rfl | rfl | rfl | rfl
  all_goals (
    go_enter Try.func51, Try.ntmps51
    go_wp2_with fail
    repeat (first
      | ((with_reducible refine (bits_run _ _ _ _ (by decide) (by decide)).mono ?_); rintro e w1 ⟨rfl, ⟨n, rfl⟩⟩; go_wp2_with fail)
      | ((with_reducible refine (signed_run _ _ _ _ (by decide) (by decide) (by unfold wrap64; decide)).mono ?_); rintro e w1 ⟨rfl, ⟨n, rfl⟩⟩; go_wp2_with fail))
    refine' bodyPost_ret (results_cell_row rfl _ _ w.heap.size 61 _ (0, 0) _ rfl ?blk Try.underlying61 rfl ?k) rfl ?_
    case blk =>
      with_reducible refine blk_put8 (z0 := .int .i64 0) (z1 := .int .i64 0) (z2 := .int .i64 0) (z3 := .int .i64 0) (z4 := .int .i64 0) (z5 := .int .i64 0) (z6 := .int .i64 0) (z7 := .int .i64 0) ?_ _ _ _ _ _ _ _ _
      repeat (first | (with_reducible refine blk_far ?_ (show w.heap.size ≠ w.heap.size + 1 by omega) _) | (with_reducible refine blk_drewN ?_ _))
      with_reducible exact blk_alloc (blk_new w _) _
    case k => kernel_rfl
    refine ⟨rfl, ?_⟩
    repeat (first | (with_reducible exact Below.refl _ _) | (with_reducible refine pw_below_drewN ?_ _) | (with_reducible refine below_alloc ?_ _) | (refine Below.setCell ?_ (by simp) _)))
theorem decode_guess.calls (a0 : Int) (a1 : Int) (r1 : Int) (r2 : Int) (r3 : Int) (r4 : Int) (r5 : Int) (r6 : Int) (r7 : Int) (r8 : Int) (w : World) (h : decode_guess.f a0 a1 = some (r1, r2, r3, r4, r5, r6, r7, r8)) :
    Calls Try.prog 51 #[.int .u32 a0, .int .i64 a1] w fun e w' => e = .returned (.agg #[.int .i64 r1, .int .i64 r2, .int .i64 r3, .int .i64 r4, .int .i64 r5, .int .i64 r6, .int .i64 r7, .int .i64 r8]) ∧ Below w.heap.size w w' := by
  unfold decode_guess.f at h
  split at h
  · rename_i hop
    have hg : gs a0 a1 = (r1, r2, r3, r4, r5, r6, r7, r8) := Option.some.inj h
    have h1 := guess_run a0 a1 w hop.1 hop.2
    rw [hg] at h1
    exact h1
  · exact absurd h (by simp)

end Go.Proofs.Ytjhgbddcenhkfaa.P
