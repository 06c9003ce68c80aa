/- goes: the numbers of two bytes each, so many at most: a walk; no statement of the seat. -/
import Derived.Maps.OwnIn
import Derived.RegionTactic
import Derived.BigRegion
import Derived.Test.YtdlkkjfbbeffbaaCodecK
set_option linter.unusedVariables false
set_option linter.unusedSimpArgs false
namespace Go.Proofs.Ytdlkkjfbbeffbaa.P
open Go.RowKit Go.Proofs.YtdlkkjfbbeffbaaW.PrintWords Go.Proofs.YtdlkkjfbbeffbaaW.PrintLast Go.Proofs.YtdlkkjfbbeffbaaW.PrintMore
def goesL (most : Int) (xs : List Int) : List Int := if 1 ≤ most then xs.take most.toNat else xs
theorem cell_one_new (w : World) (x : Value) (t : TypeId) : ∀ j u, [x][j]? = some u → (w.alloc (.cells #[x] t)).cell? ((⟨w.heap.size, 0, none⟩ : Addr).add j) = some u := by
  intro j u hj
  match j, hj with
  | 0, hj => simp at hj; subst hj; simp [Addr.add]
theorem cells_ne {W W' : World} {row : Option Nat} {k : Nat} {cs : Array Value} {t : TypeId} {z : Nat × Nat} (hk : W.heap[k]? = some (.cells cs t z)) (hr : ∀ r, row = some r → ∃ o : Obj, W.heap[r]? = some o ∧ o.isCells = false) : some k ≠ row := by
  intro e
  obtain ⟨o, ho, hc⟩ := hr k e.symm
  rw [hk] at ho; cases ho; cases hc
theorem cells_kept {W W' : World} {row : Option Nat} {k : Nat} {cs : Array Value} {t : TypeId} {z : Nat × Nat} (hk : W.heap[k]? = some (.cells cs t z)) (hg : W.grownBy W' row) (hr : ∀ r, row = some r → ∃ o : Obj, W.heap[r]? = some o ∧ o.isCells = false) : W'.heap[k]? = some (.cells cs t z) :=
  (hg.block k (Array.getElem?_eq_some_iff.1 hk).1 (cells_ne (W' := W') hk hr)).trans hk
theorem R_keptCells {α : Type} {d : Kd α} {e base : Nat} {ok : Nat → Prop} {W W' : World} {v : Value} {xs : List α} {row : Option Nat} (h : d.R e W base ok v xs) (hg : W.grownBy W' row) (hr : ∀ r, row = some r → ∃ o : Obj, W.heap[r]? = some o ∧ o.isCells = false) : d.R e W' base ok v xs :=
  Kd.R_mono (Kd.R_move (Kd.R_bound h) (fun k hk => by obtain ⟨_, _, hlt, q, _, cs, hc⟩ := hk; exact hg.block k hlt (cells_ne (W' := W') hc hr))) (fun _ hk => hk.1)
theorem R_late {α : Type} {d : Kd α} {e : Nat} {w w1 : World} {base : Nat} {ok : Nat → Prop} {v : Value} {xs : List α} (h : d.R e w base ok v xs) (hm : ∀ k, base ≤ k → k < w.heap.size → w1.heap[k]? = w.heap[k]?) : d.R e w1 base ok v xs :=
  Kd.R_mono (Kd.R_step (Kd.R_bound h) (fun k hk hlt => hm k hk.2.1 hlt)) (fun _ hk => hk.1)
/-- The boxes: the most, the field, what comes out. -/
structure GoB (w : World) (Bm Bf Bo f1 f2 : Nat) (most : Int) (pre : List Int) (W : World) : Prop where
  o : ∃ v, Boxed W Bo 28 v ∧ Kd.R (Kd.int .i64) 3 W (Bo + 1) (fun _ => True) v pre
  m : Boxed W Bm 3 (.int .i64 most)
  f : W.heap[Bf]? = some (.cells (numV f1 f2) 37 (0, 0))
  b : Below w.heap.size w W
def GoI (w : World) (Bm Bf Bo f1 f2 : Nat) (most : Int) (pre : List Int) (W : World) : Prop := GoB w Bm Bf Bo f1 f2 most pre W ∧ (1 ≤ most → (pre.length : Int) < most)
def GoX (w : World) (Bm Bf Bo f1 f2 : Nat) (most : Int) (c : Code) (pre : List Int) (W : World) : Prop := c = .exit 0 ∧ GoB w Bm Bf Bo f1 f2 most pre W ∧ (pre.length : Int) = most ∧ 1 ≤ most
theorem GoB.kept {w : World} {Bm Bf Bo f1 f2 : Nat} {most : Int} {pre : List Int} {W W' : World} {B : Nat} {row : Option Nat} (hB : w.heap.size ≤ B) (h : GoB w Bm Bf Bo f1 f2 most pre W) (hg : W.grownBy W' row) (hr : ∀ r, row = some r → B ≤ r ∧ ∃ o : Obj, W.heap[r]? = some o ∧ o.isCells = false) : GoB w Bm Bf Bo f1 f2 most pre W' := by
  have hr' : ∀ r, row = some r → ∃ o : Obj, W.heap[r]? = some o ∧ o.isCells = false := fun r e => (hr r e).2
  obtain ⟨⟨v, h1, h2⟩, h3, h4, h5⟩ := h
  exact ⟨⟨v, cells_kept h1 hg hr', R_keptCells h2 hg hr'⟩, cells_kept h3 hg hr', cells_kept h4 hg hr', h5.grown hg h5.size (fun k e => Nat.le_trans hB (hr k e).1)⟩
theorem GoI.kept (w : World) (Bm Bf Bo f1 f2 : Nat) (most : Int) {B : Nat} (hB : w.heap.size ≤ B) : OwnFrom B (GoI w Bm Bf Bo f1 f2 most) := fun pre W W' row h hg hr => ⟨h.1.kept hB hg hr, h.2⟩
theorem GoX.kept (w : World) (Bm Bf Bo f1 f2 : Nat) (most : Int) {B : Nat} (hB : w.heap.size ≤ B) (c : Code) : OwnFrom B (GoX w Bm Bf Bo f1 f2 most c) := fun pre W W' row h hg hr => ⟨h.1, h.2.1.kept hB hg hr, h.2.2⟩
/-- What a round begins with. -/
def GoA (t : Int → Array Value) (x : Int) (a' : Act) (_ : World) : Prop := a' = { tmps := t x, defers := [] }
theorem goesL_most (most : Int) (pre r : List Int) (h1 : (pre.length : Int) = most) (h2 : 1 ≤ most) : goesL most (pre ++ r) = pre := by
  unfold goesL
  rw [if_pos h2, List.take_left' (by omega)]
theorem goesL_all (most : Int) (ys : List Int) (h : 1 ≤ most → (ys.length : Int) < most) : goesL most ys = ys := by
  unfold goesL
  by_cases h2 : 1 ≤ most
  · rw [if_pos h2, List.take_of_length_le (by have := h h2; omega)]
  · rw [if_neg h2]
open Go.Shelf in
attribute [local go_sem] Oper.semAt_some in
set_option maxRecDepth 100000 in
set_option maxHeartbeats 4000000 in
theorem goes_run (A0 : Option Addr) (cc : Nat) (l0 : List Int) (most : Int) (w : World) (hr0 : Kd.C (Kd.int .u8) w A0 l0.length l0) (hc0 : l0.length ≤ cc) (hok : okL l0) (hl : l0.length ≤ 1048576) :
    Calls Try.prog 36 #[.slice A0 l0.length cc, .int .i64 most] w fun e w' => ∃ v0_ : Value, e = .returned (.tuple #[v0_, .bool true]) ∧
      Kd.R (Kd.int .i64) 3 w' w.heap.size (fun _ => True) v0_ (goesL most (wordsL l0)) ∧ Below w.heap.size w w' := by
  have HR0 := Aside0.mk hr0
  have HO := Aside0.mk hok
  clear hr0 hok
  have hnn : ∀ W g cs, (binOp .eql 136 (.func g #[] cs) .nilFunc).run Try.prog W = .ok (.bool false) W := fun _ _ _ => by kernel_rfl
  refine (callsIn_wide (n := 4)).1 ?_
  refine callsIn_of_wp_marks Try.func36 rfl trivial ?_ rfl
  simp only [Try.ntmps36, List.size_toArray, List.length_cons, List.length_nil, Nat.reduceAdd, Nat.reduceSub, Array.replicate_succ, Array.replicate_zero, List.push_toArray, List.append_toArray, List.nil_append, List.cons_append]
  gi_wp2_with (refine ⟨trivial, ?_⟩; gi_at_call 22; refine (callsIn_wide.2 (short_run _)).mono ?_; rintro e w1 ⟨f1, f2, rfl, hF1, hb1⟩; simp only [numV]; have HF1 := Aside0.mk hF1; have HB1 := Aside0.mk hb1; clear hF1 hb1)
  gi_wp2_with (refine ⟨trivial, ?_⟩; gi_at_call 67; refine (call_in _ _ _ rfl rfl _ _ _ _).mono ?_; rintro e w' ⟨rfl, rfl⟩)
  have hb1 := HB1.out
  have hs1 : w.heap.size + 1 ≤ w1.heap.size := by have h := hb1.size; simp only [World.size_alloc] at h; exact h
  have bw : Below w.heap.size w w1 := (below_alloc (Below.refl _ _) _).trans (hb1.mono (by simp only [World.size_alloc]; omega))
  have bm : Boxed w1 w.heap.size 3 (.int .i64 most) := blk_below (blk_new w _) hb1
  have b0 : Boxed (((w1.alloc (.cells (numV f1 f2) 37)).alloc (.cells #[.slice A0 l0.length cc] 40)).alloc (.cells #[.slice none 0 0] 28)) w.heap.size 3 (.int .i64 most) := ((bm.alloc _).alloc _).alloc _
  have b1 : (((w1.alloc (.cells (numV f1 f2) 37)).alloc (.cells #[.slice A0 l0.length cc] 40)).alloc (.cells #[.slice none 0 0] 28)).heap[w1.heap.size]? = some (.cells (numV f1 f2) 37 (0, 0)) :=
    blk_below (blk_below (blk_new w1 _) (below_alloc (Below.refl _ _) _)) (below_alloc (Below.refl _ _) _)
  have b2 : Boxed (((w1.alloc (.cells (numV f1 f2) 37)).alloc (.cells #[.slice A0 l0.length cc] 40)).alloc (.cells #[.slice none 0 0] 28)) (w1.heap.size + 1) 40 (.slice A0 l0.length cc) := by
    have h := (Boxed.new (w1.alloc (.cells (numV f1 f2) 37)) 40 (.slice A0 l0.length cc)).alloc (.cells #[.slice none 0 0] 28)
    rw [World.size_alloc] at h; exact h
  have b3 : Boxed (((w1.alloc (.cells (numV f1 f2) 37)).alloc (.cells #[.slice A0 l0.length cc] 40)).alloc (.cells #[.slice none 0 0] 28)) (w1.heap.size + 1 + 1) 28 (.slice none 0 0) := by
    have h := Boxed.new ((w1.alloc (.cells (numV f1 f2) 37)).alloc (.cells #[.slice A0 l0.length cc] 40)) 28 (.slice none 0 0)
    rw [World.size_alloc, World.size_alloc] at h; exact h
  have hBw1 : Below w1.heap.size w1 (((w1.alloc (.cells (numV f1 f2) 37)).alloc (.cells #[.slice A0 l0.length cc] 40)).alloc (.cells #[.slice none 0 0] 28)) := (((Below.refl _ w1).alloc (Nat.le_refl _) _).alloc (by simp) _).alloc (by simp; omega) _
  have hz0 : (((w1.alloc (.cells (numV f1 f2) 37)).alloc (.cells #[.slice A0 l0.length cc] 40)).alloc (.cells #[.slice none 0 0] 28)).heap.size = w1.heap.size + 1 + 1 + 1 := by simp
  rw [show #[Value.func (.func 86) #[] #[.pointer (some ⟨f1, 0, none⟩), .pointer (some ⟨f2, 0, none⟩)], .func (.func 88) #[] #[.pointer (some ⟨f1, 0, none⟩), .pointer (some ⟨f2, 0, none⟩)]] = numV f1 f2 from rfl]
  obtain ⟨W0, hW0⟩ : ∃ W0, ((w1.alloc (.cells (numV f1 f2) 37)).alloc (.cells #[.slice A0 l0.length cc] 40)).alloc (.cells #[.slice none 0 0] 28) = W0 := ⟨_, rfl⟩
  rw [hW0] at b0 b1 b2 b3 hBw1 hz0 ⊢
  have hB0 : Below w.heap.size w W0 := bw.trans (hBw1.mono (by omega))
  refine wpIn_rangeFunc_ownH rfl (by omega) (gf := 92) (lb := #[.pointer (some ⟨w1.heap.size + 1, 0, none⟩), .pointer (some ⟨w1.heap.size, 0, none⟩)]) rfl trivial (enters_of Try.func92 (by kernel_rfl) rfl)
    (call_stops (4 - 1) (by omega) (w1.heap.size + 1) w1.heap.size f1 f2 l0 A0 cc hc0 HO.out w1 (Kd.C_below HR0.out bw) HF1.out W0 hBw1 b2 b1) (fun h k => KeepBox.t h k) (fun W l o o' => KeepBox.b (by omega) (by omega) W l o o') (Below.refl _ _) (fun _ => rfl)
    (GoI w w.heap.size w1.heap.size (w1.heap.size + 1 + 1) f1 f2 most) (GoX w w.heap.size w1.heap.size (w1.heap.size + 1 + 1) f1 f2 most) (GoI.kept w _ _ _ f1 f2 most (by omega)) (fun c => GoX.kept w _ _ _ f1 f2 most (by omega) c) ⟨⟨⟨_, b3, Kd.R_nil _ _ _ _ _⟩, b0, b1, hB0⟩, fun h => by simp only [List.length_nil]; omega⟩
    (GoA fun x => #[.slice A0 l0.length cc, .int .i64 most, undef, .pointer (some ⟨w.heap.size, 0, none⟩), .slice none 0 0, .bool false,
      .func (.func 92) #[] #[.pointer (some ⟨w1.heap.size + 1, 0, none⟩), .pointer (some ⟨w1.heap.size, 0, none⟩)], .pointer (some ⟨w1.heap.size + 1 + 1, 0, none⟩), .int .i64 x, .agg (numV f1 f2), .slice A0 l0.length cc,
      .func (.func 92) #[] #[.pointer (some ⟨w1.heap.size + 1, 0, none⟩), .pointer (some ⟨w1.heap.size, 0, none⟩)], .func (.func 92) #[] #[.pointer (some ⟨w1.heap.size + 1, 0, none⟩), .pointer (some ⟨w1.heap.size, 0, none⟩)], .bool false,
      .func (.func 92) #[] #[.pointer (some ⟨w1.heap.size + 1, 0, none⟩), .pointer (some ⟨w1.heap.size, 0, none⟩)], .int .i64 x, undef, undef, undef, undef, undef, undef, undef, undef, undef]) (fun x a' => fun _ _ _ _ h _ _ => h) ?assign ?body ?done ?stop
  case assign =>
    rintro l pre x W K hi hK
    gi_wp2
    exact hK _ _ (KeepsFrom.refl _ _) ⟨Below.refl _ W, rfl⟩ hi rfl
  case body =>
    rintro l pre x a' W hl _ hi rfl hlt
    obtain ⟨⟨⟨v, h1, h2⟩, h3, h4, h5⟩, hlm⟩ := hi
    have hsz := (Array.getElem?_eq_some_iff.1 h4).1
    have hso := h1.lt
    have c0 := h1.cell
    have c1 := h3.cell
    have hpl : pre.length < 1048576 := by
      have := wordsL_len l0
      omega
    obtain ⟨i0, hi0, hi1, hi2, hi3⟩ := info_parts (show (Try.prog.info? 3).map (fun i => (i.zero, i.size, i.bytes)) = some (some (.int .i64 0), 1, 8) by kernel_rfl)
    obtain ⟨hk0, inner, hown, hreps⟩ := Kd.R_alloc h2 (.cells #[.int .i64 x] 3)
    have HK0 := Aside0.mk hk0
    have HREPS := Aside0.mk hreps
    have HOWN := Aside0.mk hown
    have H1 := Aside0.mk h1
    have H2 := Aside0.mk h2
    have H3 := Aside0.mk h3
    have H4 := Aside0.mk h4
    have H5 := Aside0.mk h5
    have HLM := Aside0.mk hlm
    have HI := Aside0.mk hi0
    have HI1 := Aside0.mk hi1
    have HI2 := Aside0.mk hi2
    have HI3 := Aside0.mk hi3
    clear hk0 hreps hown h1 h2 h3 h4 h5 hi0 hi1 hi2 hi3 hl hlm
    have t1 : pre.length + 1 ≤ maxLen := by simp [maxLen]; omega
    have t2 : (pre.length + 1) * 8 ≤ 140737488355328 := by omega
    have t3 : w1.heap.size + 1 + 1 + 1 ≤ (W.alloc (.cells #[.int .i64 x] 3)).heap.size := by rw [World.size_alloc]; omega
    have t4 : ∀ u ∈ [Value.int .i64 x], u.oneCell' = true := by simp [Value.oneCell']
    obtain ⟨g, hgm⟩ : ∃ g : Bool, g = decide ((pre.length : Int) + 1 = most) := ⟨_, rfl⟩
    have HGM := Aside0.mk hgm
    have hg1 : (((pre.length + 1 : Nat) : Int) == most) = g := by rw [hgm, show ((pre.length + 1 : Nat) : Int) = (pre.length : Int) + 1 by omega]; rfl
    have hg2 : ((pre.length : Int) + 1 == most) = g := by rw [hgm]; rfl
    clear hgm
    gi_wp2_with (gi_at_builtin; go_loud (refine wpListIn_append_own_at _ rfl _ _ 28 rfl (w1.heap.size + 1 + 1 + 1) 3 i0 (.int .i64 0) 1 8 Try.underlying28 HI.out HI1.out HI2.out HI3.out rfl (by decide) v _ inner rfl HOWN.out ⟨W.heap.size, 0, none⟩ 1 1 [.int .i64 x] rfl rfl (cell_one_new _ _ _) t4 t1 t2 t3 ?_))
    intro v' w2 hown' hg _ hat
    have hat' : v'.ownBlock = v.ownBlock ∨ ∃ b, v'.ownBlock = some b ∧ (W.alloc (.cells #[.int .i64 x] 3)).heap.size ≤ b := hat.elim .inl (fun e => .inr ⟨_, e, by simp only [World.size_alloc]; omega⟩)
    have hR1 := Kd.R_appended (d := Kd.int .i64) (okp := fun _ => False) HK0.out HREPS.out (show (Kd.int .i64).M _ _ _ x [.int .i64 x] from rfl) (fun _ hk => hk.elim) (fun _ _ => trivial) hown' hg hat'
    obtain ⟨g', cap', hv'⟩ := ownsRow_succ hown'
    subst hv'
    have hB0 : Boxed w2 (w1.heap.size + 1 + 1) 28 v := (H1.out.alloc _).kept hg ((H1.out.alloc _).not_row (by decide) HOWN.out)
    have hnb : some w1.heap.size ≠ v.ownBlock := fun e => by have := (Kd.R_bound H2.out).1 _ e.symm; omega
    have hnm : some w.heap.size ≠ v.ownBlock := fun e => by have := (Kd.R_bound H2.out).1 _ e.symm; omega
    have hB1 : Boxed w2 w.heap.size 3 (.int .i64 most) := (hg.block w.heap.size (by rw [World.size_alloc]; omega) hnm).trans (H3.out.alloc _)
    have hB2 : w2.heap[w1.heap.size]? = some (.cells (numV f1 f2) 37 (0, 0)) := (hg.block w1.heap.size (by rw [World.size_alloc]; omega) hnb).trans (((below_alloc (Below.refl _ W) _).block w1.heap.size hsz).trans H4.out)
    have d0 := hB0.cell
    have f0 := hB0.frozen
    have d1 := hB1.cell
    have z1 := hg.size
    have HR1 := Aside0.mk hR1
    have HB0 := Aside0.mk hB0
    have HB1' := Aside0.mk hB1
    have HB2 := Aside0.mk hB2
    have HG := Aside0.mk hg
    have HOWN1 := Aside0.mk hown'
    clear hR1 hB0 hB1 hB2 hg hat hat' hown' hnb hnm
    obtain ⟨_, inner2, hown2, _⟩ := H2.out
    obtain ⟨_, _, _, ko, kb⟩ := H1.out.appended (n₀ := w1.heap.size) (by decide) (own_weaken hown2 (by omega)) (by omega) (by omega) (own_weaken HOWN1.out (by omega)) HG.out
    have hf3 : (w2.setCell ⟨w1.heap.size + 1 + 1, 0, none⟩ (.slice (some ⟨g', 0, none⟩) (pre.length + 1) cap')).heap[w1.heap.size]? = some (.cells (numV f1 f2) 37 (0, 0)) := (Below.heap_setCell w2 _ _ w1.heap.size (by show w1.heap.size ≠ w1.heap.size + 1 + 1; omega)).trans HB2.out
    have hGB : GoB w w.heap.size w1.heap.size (w1.heap.size + 1 + 1) f1 f2 most (pre ++ [x]) (w2.setCell ⟨w1.heap.size + 1 + 1, 0, none⟩ (.slice (some ⟨g', 0, none⟩) (pre.length + 1) cap')) :=
      ⟨⟨_, HB0.out.set _, R_late HR1.out (fun k hk _ => Below.heap_setCell w2 _ _ k (by show k ≠ w1.heap.size + 1 + 1; omega))⟩, HB1'.out.other (by omega) _, hf3, H5.out.trans (kb.mono (by omega))⟩
    have HGB := Aside0.mk hGB
    have HKB := Aside0.mk (show KeepBox w1.heap.size w1.heap.size W (w2.setCell ⟨w1.heap.size + 1 + 1, 0, none⟩ (.slice (some ⟨g', 0, none⟩) (pre.length + 1) cap')) from ⟨kb, hf3.trans H4.out.symm⟩)
    have HKO := Aside0.mk ko
    clear hGB hf3 kb ko hown2
    cases g
    · gi_wp2
      refine ⟨HKO.out.from _, HKB.out, HGB.out, ?_⟩
      have h := of_decide_eq_false HGM.out.symm
      have h2 := HLM.out
      rw [List.length_append, List.length_singleton]
      omega
    · gi_wp2
      have h := of_decide_eq_true HGM.out.symm
      refine ⟨HKO.out.from _, rfl, HGB.out, ?_, ?_⟩
      · rw [List.length_append, List.length_singleton]
        omega
      · omega
  case done =>
    rintro D ys W hD hys ⟨⟨⟨v, h1, h2⟩, h3, h4, h5⟩, hlm⟩ hK
    subst hys
    have c0' := h1.cell
    gi_wp2
    have hKd : W.heap[D]? = some (.deferred (some [])) := hK
    have hbl : Below w.heap.size w (W.putObj D (.deferred none)) := h5.trans (belowK_b (w := w) (Nat.le_refl _) W D _ _ (by omega) hKd rfl rfl)
    have hR := R_keptCells h2 (grownBy_putObj' W D (.deferred none)) (fun r e => by cases e; exact ⟨_, hKd, rfl⟩)
    refine ⟨by simp, .inl ⟨_, _, rfl, run_takeDeferred hKd, ?_⟩⟩
    refine ⟨.tuple #[v, .bool true], ?_, _, rfl, ?_, hbl⟩
    · simp [results, Try.f36, go_sem]
    · rw [goesL_all most _ hlm]
      exact Kd.R_lower (base := w1.heap.size + 1 + 1 + 1) hR (by omega)
  case stop =>
    rintro D c pre W hD hpre ⟨rfl, ⟨⟨v, h1, h2⟩, h3, h4, h5⟩, hlm, hl1⟩ hK
    have c0' := h1.cell
    obtain ⟨r, hr⟩ := hpre
    gi_wp2
    have hKd : W.heap[D]? = some (.deferred (some [])) := hK
    have hbl : Below w.heap.size w (W.putObj D (.deferred none)) := h5.trans (belowK_b (w := w) (Nat.le_refl _) W D _ _ (by omega) hKd rfl rfl)
    have hR := R_keptCells h2 (grownBy_putObj' W D (.deferred none)) (fun r e => by cases e; exact ⟨_, hKd, rfl⟩)
    refine ⟨by simp, .inl ⟨_, _, rfl, run_takeDeferred hKd, ?_⟩⟩
    refine ⟨.tuple #[v, .bool true], ?_, _, rfl, ?_, hbl⟩
    · simp [results, Try.f36, go_sem]
    · rw [← hr, goesL_most most _ _ hlm hl1]
      exact Kd.R_lower (base := w1.heap.size + 1 + 1 + 1) hR (by omega)
end Go.Proofs.Ytdlkkjfbbeffbaa.P
