/- The reference's Out and In: what they come to; no statement of the seat. -/
import Derived.Test.YtdlkkjfbbeffbaaCodecD
set_option linter.unusedVariables false
set_option linter.unusedSimpArgs false
namespace Go.Proofs.Ytdlkkjfbbeffbaa.P
open Go.RowKit Go.Proofs.YtdlkkjfbbeffbaaW.PrintWords Go.Proofs.YtdlkkjfbbeffbaaW.PrintLast Go.Proofs.YtdlkkjfbbeffbaaW.PrintMore
/-- A block 'Out' of the reference, with what it owns. -/
structure ROK (w : World) (B p : Nat) (v : Value) (bs : List Int) (e : Int) : Prop where
  le : B ≤ p
  blk : w.heap[p]? = some (.cells #[v, .bool (e == 1), .bool (e == 3)] 52 (0, 0))
  own : Kd.R (Kd.int .u8) 5 w B (fun _ => True) v bs
  es : e = 0 ∨ e = 1 ∨ e = 3
def RTo (w : World) (B p : Nat) (s : List Int × Int) (w' : World) : Prop := (∃ v', ROK w' B p v' s.1 s.2) ∧ Below B w w' ∧ KeepBut w w' p none
theorem ROK.below {w w1 : World} {B p : Nat} {v : Value} {bs : List Int} {e : Int} (h : ROK w B p v bs e) (hb : Below w.heap.size w w1) : ROK w1 B p v bs e := ⟨h.le, blk_below h.blk hb, Kd.R_below h.own hb, h.es⟩
theorem RTo.bind {w w1 w2 : World} {B p : Nat} {s s' : List Int × Int} (h1 : RTo w B p s w1) (h2 : RTo w1 B p s' w2) : RTo w B p s' w2 := ⟨h2.1, h1.2.1.trans h2.2.1, h1.2.2.trans h2.2.2 (.inl rfl)⟩
theorem blkR_set {w : World} {p : Nat} {v : Value} {bs : List Int} {B : Nat} {cs : Array Value} (hb : w.heap[p]? = some (.cells cs 52 (0, 0))) (h : Kd.R (Kd.int .u8) 5 w B (fun _ => True) v bs) (j : Nat) (u : Value) : Kd.R (Kd.int .u8) 5 (w.setCell ⟨p, j, none⟩ u) B (fun _ => True) v bs :=
  Kd.R_set h hb (by intro q hq; simp [Kd.int, Kd.scalar] at hq; subst hq; decide) j u
theorem ret0_ {P : Program} {fn : Func} {tmps : Array Value} {w : World} (h : fn.results = #[] := by rfl) : (results fn tmps).run P w = .ok (.tuple #[]) w := results_list (rs := []) (vs := []) h (by decide) .nil
set_option maxRecDepth 100000 in
set_option maxHeartbeats 400000 in
theorem rput_run (B p : Nat) (v : Value) (bs : List Int) (e : Int) (A : Option Addr) (c : Nat) (ys : List Int) (w : World) (h : ROK w B p v bs e) (hC : Kd.C (Kd.int .u8) w A ys.length ys) (hB : B ≤ w.heap.size) (hbs : bs.length ≤ 1048576) :
    Calls Try.prog 68 #[.pointer (some ⟨p, 0, none⟩), .slice A ys.length c] w fun r w' => r = .returned (.tuple #[]) ∧ RTo w B p (putS (bs, e) ys) w' := by
  have HO := Aside0.mk h
  have c0 : w.cell? ⟨p, 0, none⟩ = some v := blk_cell h.blk 0
  have c1 : w.cell? ⟨p, 1, none⟩ = some (.bool (e == 1)) := blk_cell h.blk 1
  have c2 : w.cell? ⟨p, 2, none⟩ = some (.bool (e == 3)) := blk_cell h.blk 2
  have f0 := blkO_free h.blk 0
  have f2 := blkO_free h.blk 2
  have HC := Aside0.mk hC
  have hm := Kd.C_max hC
  obtain ⟨A0, c0', hv⟩ := Kd.R_slice h.own
  subst hv
  have hes := h.es
  have lp : p < w.heap.size := blk_lt h.blk
  clear h hC
  rcases hes with rfl | rfl | rfl
  · have k1 : ((0 : Int) == 1) = false := by decide
    have k3 : ((0 : Int) == 3) = false := by decide
    rw [k1] at c1
    rw [k3] at c2
    by_cases hl : (ys.length : Int) > 1048576 - bs.length
    · have hs : putS (bs, 0) ys = (bs, 3) := by unfold putS; rw [if_neg (by simp), if_pos hl]
      rw [hs]
      have hl' : (1048576 - (bs.length : Int)) < ys.length := hl
      clear hs
      go_enter Try.func68, Try.ntmps68
      go_wp2_with fail
      exact bodyPost_ret (v := .tuple #[]) ret0_ rfl ⟨rfl, ⟨_, HO.out.le, blk_set HO.out.blk 2 _, blkR_set HO.out.blk HO.out.own 2 _, .inr (.inr rfl)⟩, (Below.refl _ _).setCell (p := ⟨p, 2, none⟩) HO.out.le _, (KeepBut.refl _ _ _).set_ 2 _⟩
    · have hs : putS (bs, 0) ys = (bs ++ ys, 0) := by unfold putS; rw [if_neg (by simp), if_neg hl]
      rw [hs]
      clear hs
      have hl' : (ys.length : Int) ≤ 1048576 - (bs.length : Int) := by omega
      go_enter Try.func68, Try.ntmps68
      go_wp2_with (first
        | (refine Kd.R_append_rows (Kd.int .u8) (Rr := fun x cs => cs = [.int .u8 x]) (w0 := w) w.heap.size rfl (.tmp 27) (.tmp 31) 40 5 (.int .u8 0) 1 rfl Try.underlying40 (by kernel_rfl) rfl (by decide) (by decide) (.slice (some ⟨w.heap.size, 0, none⟩) 0 0) [] bs A0 bs.length c0' (fun _ => True) (fun _ => False) rfl rfl (empty_own w w.heap.size (Nat.le_refl _)) (Kd.C_alloc (Kd.R_reads' HO.out.own).2.2 _) (fun _ _ h => h) (fun _ hk => hk.elim) (fun _ _ => trivial) (below_alloc (Below.refl _ _) _) (by rw [World.size_alloc]; omega) (by simp; omega) ?_; intro v1 w1 ho hb1 hg hat; obtain ⟨A1, c1', hv1⟩ := Kd.R_slice ho; subst hv1; rw [List.nil_append] at ho; simp only [List.nil_append] at hat; have hb := blk_below HO.out.blk hb1; have d0 : w1.cell? ⟨p, 0, none⟩ = some (.slice A0 bs.length c0') := blk_cell hb 0; have HX := Aside0.mk (And.intro ho hb1); have hz1 := hb1.size; clear ho hb1 hg hat hb)
        | (refine Kd.R_append_rows (Kd.int .u8) (Rr := fun x cs => cs = [.int .u8 x]) (w0 := w) w.heap.size rfl (.tmp 32) (.tmp 33) 40 5 (.int .u8 0) 1 rfl Try.underlying40 (by kernel_rfl) rfl (by decide) (by decide) (.slice A1 bs.length c1') bs ys A ys.length c (fun _ => True) (fun _ => False) rfl rfl HX.out.1 (Kd.C_below HC.out HX.out.2) (fun _ _ h => h) (fun _ hk => hk.elim) (fun _ _ => trivial) HX.out.2 hz1 (by omega) ?_; intro v2 w2 ho hb2 hg hat; obtain ⟨A2, c2', hv2⟩ := Kd.R_slice ho; subst hv2; simp only [List.length_append] at ho hat; have hb := blk_below HO.out.blk hb2; have d0' : w2.cell? ⟨p, 0, none⟩ = some (.slice A0 bs.length c0') := blk_cell hb 0; have g0' := blkO_free hb 0; have HY := Aside0.mk (And.intro ho (And.intro hb2 hb)); clear ho hb2 hg hat hb))
      go_end0
      obtain ⟨ho, hb2, hb⟩ := HY.out
      exact ⟨rfl, ⟨_, HO.out.le, blk_set hb 0 _, blkR_set hb (Kd.R_lower ho hB) 0 _, .inl rfl⟩, (hb2.mono hB).setCell (p := ⟨p, 0, none⟩) HO.out.le _, (KeepBut.of_below hb2 p none).set_ 0 _⟩
  · have hs : putS (bs, 1) ys = (bs, 1) := by unfold putS; rw [if_pos (by simp)]
    rw [hs]
    clear hs
    have k1 : ((1 : Int) == 1) = true := by decide
    rw [k1] at c1
    go_enter Try.func68, Try.ntmps68
    go_wp2_with fail
    exact bodyPost_ret (v := .tuple #[]) ret0_ rfl ⟨rfl, ⟨_, HO.out⟩, Below.refl _ _, KeepBut.refl _ _ _⟩
  · have hs : putS (bs, 3) ys = (bs, 3) := by unfold putS; rw [if_pos (by simp)]
    rw [hs]
    clear hs
    have k1 : ((3 : Int) == 1) = false := by decide
    have k3 : ((3 : Int) == 3) = true := by decide
    rw [k1] at c1
    rw [k3] at c2
    go_enter Try.func68, Try.ntmps68
    go_wp2_with fail
    exact bodyPost_ret (v := .tuple #[]) ret0_ rfl ⟨rfl, ⟨_, HO.out⟩, Below.refl _ _, KeepBut.refl _ _ _⟩
def leU (x : Int) (n : Nat) : List Int := (List.range n).map fun i => x / 2 ^ (8 * i) % 256
theorem leU_length (x : Int) (n : Nat) : (leU x n).length = n := by simp [leU]
theorem leU_succ (x : Int) (n : Nat) : leU x (n + 1) = leU x n ++ [x / 2 ^ (8 * n) % 256] := by simp [leU, List.range_succ]
theorem leB_leU (x : Int) (n : Nat) : leB x n = leU (x % 18446744073709551616) n := rfl
set_option maxRecDepth 100000 in
set_option maxHeartbeats 400000 in
theorem rlow_run (B p : Nat) (v : Value) (bs : List Int) (e : Int) (x : Int) (h0 : 0 ≤ x) (h1 : x < 18446744073709551616) (n : Nat) (hn : n ≤ 8) (w : World) (h : ROK w B p v bs e) (hB : B ≤ w.heap.size) (hbs : bs.length ≤ 1048576) :
    Calls Try.prog 61 #[.pointer (some ⟨p, 0, none⟩), .int .u64 x, .int .i64 n] w fun r w' => r = .returned (.tuple #[]) ∧ RTo w B p (putS (bs, e) (leU x n)) w' := by
  have HO := Aside0.mk h
  clear h
  go_enter Try.func61, Try.ntmps61
  go_wp2_with fail
  go_loopw [6, 7] (fun v6 v7 wr => ∃ k : Nat, v7 = .int .i64 k ∧ k ≤ n ∧ Kd.R (Kd.int .u8) 5 wr w.heap.size (fun _ => True) v6 (leU x k) ∧ Below w.heap.size w wr) (fun _ v7 _ => n - (intOf v7).toNat)
  case atStart => exact ⟨0, rfl, Nat.zero_le _, Kd.R_nil _ _ _ _ _, Below.refl _ _⟩
  case round =>
    obtain ⟨k, rfl, hk, hR, hb⟩ := hrel
    obtain ⟨A6, c6, hv6⟩ := Kd.R_slice hR
    subst hv6
    have hl6 := leU_length x k
    rw [hl6] at hR ⊢
    have HR := Aside0.mk hR
    have HB := Aside0.mk hb
    have hz := hb.size
    clear hR hb hl6
    by_cases hlt : k < n
    · have hll := leU_length x k
      have HLL := Aside0.mk hll
      clear hll
      go_wp2_with (refine Kd.R_append (Kd.int .u8) (w0 := w) w.heap.size rfl (.tmp 13) (.tmp 19) 40 5 (.int .u8 0) 1 rfl Try.underlying40 (by kernel_rfl) rfl (by decide) (by decide) (.slice A6 k c6) (leU x k) (x / 2 ^ (8 * k) % 256) [.int .u8 (x / 2 ^ (8 * k) % 256)] (fun _ => True) (fun _ => False) rfl rfl rfl (fun _ hk => hk.elim) (fun _ _ => trivial) HR.out HB.out hz (by rw [HLL.out]; omega) ?_; intro v1 w1 ho hb1 hg hat; obtain ⟨A1, c1', hv1⟩ := Kd.R_slice ho; subst hv1; simp only [List.length_append, List.length_singleton, HLL.out] at ho hat; have HX := Aside0.mk (And.intro ho hb1); clear ho hb1 hg hat)
      go_roundw
      case rel => exact ⟨k + 1, by go_num, by omega, by rw [leU_succ, HLL.out]; exact HX.out.1, HX.out.2⟩
      case measure => simp [intOf]; omega
    · obtain rfl : k = n := by omega
      go_wp2_with fail
      have hll := leU_length x k
      have hp := rput_run B p v bs e A6 c6 (leU x k) wr (HO.out.below HB.out) (by have h := HR.out; obtain ⟨A', c', hv, _, hC⟩ := Kd.R_reads h; simp only [Value.slice.injEq] at hv; obtain ⟨rfl, _, _⟩ := hv; exact hC) (by omega) hbs
      rw [hll] at hp
      with_reducible refine hp.mono ?_
      rintro r w2 ⟨rfl, hT⟩
      have HT := Aside0.mk hT
      clear hp hT hll
      go_wp2_with fail
      go_end0
      exact ⟨rfl, HT.out.1, (HB.out.mono hB).trans HT.out.2.1, (KeepBut.of_below HB.out p none).trans HT.out.2.2 (.inl rfl)⟩
/-- What the reference's Count writes is what a field of numbers writes. -/
theorem count_num (s : List Int × Int) (n : Nat) (h7 : n ≠ 8) (most x : Int) : numS s n most x = if s.2 ≠ 0 then s else if x < 0 ∨ x > most then (s.1, 1) else putS s (leB x n) := by
  unfold numS lowS
  rw [decide_eq_false h7, Bool.false_or]
  by_cases h2 : s.2 = 0
  · by_cases hx : x < 0 ∨ x > most
    · have hd : (decide (0 ≤ x) && decide (x ≤ most)) = false := by
        rw [Bool.and_eq_false_iff, decide_eq_false_iff_not, decide_eq_false_iff_not]; omega
      rw [hd, if_pos ⟨h2, rfl⟩, if_neg (by simpa using h2), if_pos hx]
      unfold putS
      rw [if_pos (by simp)]
    · have hd : (decide (0 ≤ x) && decide (x ≤ most)) = true := by
        rw [Bool.and_eq_true, decide_eq_true_eq, decide_eq_true_eq]; omega
      rw [hd, if_neg (by simp), if_neg (by simpa using h2), if_neg hx]
  · rw [if_neg (by simp [h2]), if_pos h2]
    unfold putS
    rw [if_pos h2]
set_option maxRecDepth 100000 in
set_option maxHeartbeats 400000 in
theorem rcount_run (B p : Nat) (v : Value) (bs : List Int) (e : Int) (x most : Int) (n : Nat) (hn : n < 8) (w : World) (h : ROK w B p v bs e) (hB : B ≤ w.heap.size) (hbs : bs.length ≤ 1048576) :
    Calls Try.prog 60 #[.pointer (some ⟨p, 0, none⟩), .int .i64 x, .int .i64 n, .int .i64 most] w fun r w' => r = .returned (.tuple #[]) ∧ RTo w B p (numS (bs, e) n most x) w' := by
  rw [count_num _ _ (by omega)]
  have HO := Aside0.mk h
  have c1 : w.cell? ⟨p, 1, none⟩ = some (.bool (e == 1)) := blk_cell h.blk 1
  have c2 : w.cell? ⟨p, 2, none⟩ = some (.bool (e == 3)) := blk_cell h.blk 2
  have f1 := blkO_free h.blk 1
  have hes := h.es
  clear h
  rcases hes with rfl | rfl | rfl
  · have k1 : ((0 : Int) == 1) = false := by decide
    have k3 : ((0 : Int) == 3) = false := by decide
    rw [k1] at c1
    rw [k3] at c2
    rw [if_neg (by simp)]
    by_cases h0 : x < 0
    · rw [if_pos (.inl h0)]
      go_enter Try.func60, Try.ntmps60
      go_wp2_with fail
      exact bodyPost_ret (v := .tuple #[]) ret0_ rfl ⟨rfl, ⟨_, HO.out.le, blk_set HO.out.blk 1 _, blkR_set HO.out.blk HO.out.own 1 _, .inr (.inl rfl)⟩, (Below.refl _ _).setCell (p := ⟨p, 1, none⟩) HO.out.le _, (KeepBut.refl _ _ _).set_ 1 _⟩
    · by_cases hm : x > most
      · rw [if_pos (.inr hm)]
        have hm' : decide (most < x) = true := decide_eq_true hm
        have h0' : decide (x < 0) = false := decide_eq_false h0
        go_enter Try.func60, Try.ntmps60
        go_wp2_with fail
        exact bodyPost_ret (v := .tuple #[]) ret0_ rfl ⟨rfl, ⟨_, HO.out.le, blk_set HO.out.blk 1 _, blkR_set HO.out.blk HO.out.own 1 _, .inr (.inl rfl)⟩, (Below.refl _ _).setCell (p := ⟨p, 1, none⟩) HO.out.le _, (KeepBut.refl _ _ _).set_ 1 _⟩
      · rw [if_neg (by omega), leB_leU, ← IntKind.wrap_u64]
        have hm' : decide (most < x) = false := decide_eq_false hm
        have h0' : decide (x < 0) = false := decide_eq_false h0
        have hx0 : 0 ≤ x := by omega
        have HL := Aside0.mk (rlow_run B p v bs 0 (IntKind.u64.wrap x) (by rw [IntKind.wrap_u64]; omega) (by rw [IntKind.wrap_u64]; omega) n (by omega) w HO.out hB hbs)
        clear h0 hm
        go_enter Try.func60, Try.ntmps60
        go_wp2_with fail
        with_reducible refine HL.out.mono ?_
        rintro r w2 ⟨rfl, hT⟩
        have HT := Aside0.mk hT
        clear hT
        go_wp2_with fail
        go_end0
        exact ⟨rfl, HT.out⟩
  · rw [if_pos (by simp)]
    have k1 : ((1 : Int) == 1) = true := by decide
    rw [k1] at c1
    go_enter Try.func60, Try.ntmps60
    go_wp2_with fail
    exact bodyPost_ret (v := .tuple #[]) ret0_ rfl ⟨rfl, ⟨_, HO.out⟩, Below.refl _ _, KeepBut.refl _ _ _⟩
  · rw [if_pos (by simp)]
    have k1 : ((3 : Int) == 1) = false := by decide
    have k3 : ((3 : Int) == 3) = true := by decide
    rw [k1] at c1
    rw [k3] at c2
    go_enter Try.func60, Try.ntmps60
    go_wp2_with fail
    exact bodyPost_ret (v := .tuple #[]) ret0_ rfl ⟨rfl, ⟨_, HO.out⟩, Below.refl _ _, KeepBut.refl _ _ _⟩
end Go.Proofs.Ytdlkkjfbbeffbaa.P
