/- Ytjkjpmfenillcaa: what Go functions come to, and that they do: walks, printed by a program of this session or typed by hand; no statement of the seat stands here. -/
import Derived.Test.YtjkjpmfenillcaaP0
import Derived.Test.YtjkjpmfenillcaaPF67
import Derived.BigRegion
import Derived.Maps.OwnIn
import Derived.RegionTactic
import Derived.Test.YtjkjpmfenillcaaInstrAll
import Derived.Test.YtjkjpmfenillcaaPF67
namespace Go.Proofs.Ytjkjpmfenillcaa.P
open Go.RowKit Go.Proofs.YtjkjpmfenillcaaW.PrintWords Go.Proofs.YtjkjpmfenillcaaW.PrintLast Go.Proofs.YtjkjpmfenillcaaW.PrintMore
attribute [local go_sem] max2_int min2_int max_two min_two max_three min_three max_four min_four   -- for this text's walks alone
set_option linter.unusedVariables false
set_option linter.unusedSimpArgs false


/-! ### instr_Decode: function 38 -/
-- IMPORT Derived.Test.YtjkjpmfenillcaaInstrAll
-- IMPORT Derived.Maps.OwnIn
-- IMPORT Derived.RegionTactic
-- IMPORT Derived.BigRegion
-- IMPORT Derived.Test.YtjkjpmfenillcaaPF67
/-- Where the instructions end. -/
def endsU (xs : List Ins) : Int := xs.foldl (fun _ x => wrap64 (x.1 + (instr_Size.f 200 x.2.f0).getD 0)) 0
theorem endsU_snoc (xs : List Ins) (x : Ins) (s : Int) (h : instr_Size.f 200 x.2.f0 = some s) : endsU (xs ++ [x]) = wrap64 (x.1 + s) := by
  unfold endsU
  rw [List.foldl_append]
  simp [h]
def instr_Decode.f (l0 : List Int) : Option (List S47 × Int × Int) :=
  if (l0.length : Int) > 4096 then some ([], 3, 0) else (allF 200 l0 5000 0).bind fun xs =>
    if xs.all (fun x => (instr_Size.f 200 x.2.f0).isSome) = true then (if endsU xs < l0.length then some ([], 50, endsU xs) else some (xs.map (·.2), 0, (xs.length : Int))) else none
theorem allF_len (k : Nat) (b : List Int) : ∀ (n at_ : Nat) (xs : List Ins), allF k b n at_ = some xs → xs.length ≤ b.length - at_
  | 0, _, _, h => by simp [allF] at h
  | n + 1, at_, xs, h => by
    rw [allF] at h
    by_cases c : at_ < b.length
    · rw [if_pos c] at h
      obtain ⟨r, _, h⟩ := Option.bind_eq_some_iff.mp h
      by_cases c1 : r.2.2 = 0
      · rw [if_pos c1] at h; obtain rfl := Option.some.inj h; simp
      · rw [if_neg c1] at h
        by_cases c2 : 0 < r.2.2 ∧ (at_ : Int) + r.2.2 ≤ b.length
        · rw [if_pos c2] at h
          obtain ⟨ys, hy, h⟩ := Option.bind_eq_some_iff.mp h
          have := allF_len k b n _ ys hy
          obtain rfl := Option.some.inj h
          simp only [List.length_cons]
          omega
        · rw [if_neg c2] at h; cases h
    · rw [if_neg c] at h; obtain rfl := Option.some.inj h; simp
theorem cell_two_new (w : World) (x y : Value) (t : TypeId) : ∀ j u, [x, y][j]? = some u → (w.alloc (.cells #[x, y] t)).cell? ((⟨w.heap.size, 0, none⟩ : Addr).add j) = some u := by
  intro j u hj
  match j, hj with
  | 0, hj => simp at hj; subst hj; simp [Addr.add]
  | 1, hj => simp at hj; subst hj; simp [Addr.add]
/-- The slice that a box holds, and what else the loop has. -/
def DecI (w : World) (A : Option Addr) (n c : Nat) (xs : List Ins) (pre : List { x : Ins // x ∈ xs }) (W : World) : Prop :=
  (∃ v, Boxed W w.heap.size 35 v ∧ Kd.R k47 47 W (w.heap.size + 1 + 1 + 1) (fun _ => True) v (pre.map (·.1.2))) ∧ Boxed W (w.heap.size + 1) 3 (.int .i64 (endsU (pre.map (·.1)))) ∧ Boxed W (w.heap.size + 1 + 1) 22 (.slice A n c) ∧ Below w.heap.size w W
theorem R_late {α : Type} {d : Kd α} {e : Nat} {w w1 : World} {base : Nat} {ok : Nat → Prop} {v : Value} {xs : List α} (h : d.R e w base ok v xs) (hm : ∀ k, base ≤ k → k < w.heap.size → w1.heap[k]? = w.heap[k]?) : d.R e w1 base ok v xs :=
  Kd.R_mono (Kd.R_step (Kd.R_bound h) (fun k hk hlt => hm k hk.2.1 hlt)) (fun _ hk => hk.1)
theorem cells_ne {W W' : World} {row : Option Nat} {k : Nat} {cs : Array Value} {t : TypeId} {z : Nat × Nat} (hk : W.heap[k]? = some (.cells cs t z)) (hr : ∀ r, row = some r → ∃ o : Obj, W.heap[r]? = some o ∧ o.isCells = false) : some k ≠ row := by
  intro e
  obtain ⟨o, ho, hc⟩ := hr k e.symm
  rw [hk] at ho; cases ho; cases hc
theorem cells_kept {W W' : World} {row : Option Nat} {k : Nat} {cs : Array Value} {t : TypeId} {z : Nat × Nat} (hk : W.heap[k]? = some (.cells cs t z)) (hg : W.grownBy W' row) (hr : ∀ r, row = some r → ∃ o : Obj, W.heap[r]? = some o ∧ o.isCells = false) : W'.heap[k]? = some (.cells cs t z) :=
  (hg.block k (Array.getElem?_eq_some_iff.1 hk).1 (cells_ne (W' := W') hk hr)).trans hk
theorem R_keptCells {α : Type} {d : Kd α} {e base : Nat} {ok : Nat → Prop} {W W' : World} {v : Value} {xs : List α} {row : Option Nat} (h : d.R e W base ok v xs) (hg : W.grownBy W' row) (hr : ∀ r, row = some r → ∃ o : Obj, W.heap[r]? = some o ∧ o.isCells = false) : d.R e W' base ok v xs :=
  Kd.R_mono (Kd.R_move (Kd.R_bound h) (fun k hk => by obtain ⟨_, _, hlt, q, _, cs, hc⟩ := hk; exact hg.block k hlt (cells_ne (W' := W') hc hr))) (fun _ hk => hk.1)
theorem DecI.kept (w : World) (A : Option Addr) (n c : Nat) (xs : List Ins) {B : Nat} (hB : w.heap.size ≤ B) : OwnFrom B (DecI w A n c xs) := by
  rintro pre W W' row ⟨⟨v, h1, h2⟩, h3, h4, h5⟩ hg hr
  have hr' : ∀ r, row = some r → ∃ o : Obj, W.heap[r]? = some o ∧ o.isCells = false := fun r e => (hr r e).2
  exact ⟨⟨v, cells_kept h1 hg hr', R_keptCells h2 hg hr'⟩, cells_kept h3 hg hr', cells_kept h4 hg hr', h5.grown hg h5.size (fun k e => Nat.le_trans hB (hr k e).1)⟩
theorem DecI.alloc {w : World} {A : Option Addr} {n c : Nat} {xs : List Ins} {pre : List { x : Ins // x ∈ xs }} {W : World} (h : DecI w A n c xs pre W) (o : Obj) : DecI w A n c xs pre (W.alloc o) := by
  obtain ⟨⟨v, h1, h2⟩, h3, h4, h5⟩ := h
  exact ⟨⟨v, h1.alloc o, Kd.R_alloc h2 o⟩, h3.alloc o, h4.alloc o, h5.alloc h5.size o⟩
/-- What a round begins with: the instruction in a box of its own. -/
def DecA (w : World) (A : Option Addr) (n c : Nat) (x : Ins) (a' : Act) (W : World) : Prop :=
  ∃ Bx, W.heap[Bx]? = some (.cells #[.int .i64 x.2.f0, .int .i64 x.2.f1] 47 (0, 0)) ∧ w.heap.size + 1 + 1 + 1 ≤ Bx ∧ (∃ v, Boxed W w.heap.size 35 v ∧ v.ownBlock ≠ some Bx) ∧
    a' = { tmps := #[.slice A n c, undef, .slice none 0 0, .int .i64 0, .int .i64 0, .pointer (some ⟨w.heap.size, 0, none⟩), .pointer (some ⟨w.heap.size + 1, 0, none⟩), .int .i64 x.1, .pointer (some ⟨Bx, 0, none⟩), .slice A n c, .int .i64 n, .bool false, .slice A n c,
      .func (.func 68) #[] #[.pointer (some ⟨w.heap.size + 1 + 1, 0, none⟩)], .int .i64 x.1, .agg #[.int .i64 x.2.f0, .int .i64 x.2.f1], undef, undef, undef, undef, undef, undef, undef, undef, undef, undef, undef, undef, undef, undef, undef, undef, undef], defers := [] }
theorem DecA.kept (w : World) (A : Option Addr) (n c : Nat) (x : Ins) (a' : Act) (B : Nat) : OwnFrom B (fun (_ : Unit) W => DecA w A n c x a' W) := by
  rintro _ W W' row ⟨Bx, h1, h2, ⟨v, h3, h4⟩, h5⟩ hg hr
  have hr' : ∀ r, row = some r → ∃ o : Obj, W.heap[r]? = some o ∧ o.isCells = false := fun r e => (hr r e).2
  exact ⟨Bx, cells_kept h1 hg hr', h2, ⟨v, cells_kept h3 hg hr', h4⟩, h5⟩
open Go.Shelf in
attribute [local go_sem] Oper.semAt_some in
set_option maxRecDepth 100000 in
set_option maxHeartbeats 4000000 in
theorem decode_run (A0 : Option Addr) (cc : Nat) (l0 : List Int) (xs : List Ins) (w : World) (hr0 : Kd.C (Kd.int .u8) w A0 l0.length l0) (hc0 : l0.length ≤ cc) (hl : ¬ (l0.length : Int) > 4096)
    (hx : allF 200 l0 5000 0 = some xs) (hs : ∀ x ∈ xs, ∃ s, instr_Size.f 200 x.2.f0 = some s) :
    Calls Try.prog 38 #[.slice A0 l0.length cc] w fun e w' => ∃ v0_ : Value, e = .returned (.tuple #[v0_, .int .i64 (if endsU xs < l0.length then 50 else 0), .int .i64 (if endsU xs < l0.length then endsU xs else xs.length)]) ∧
      Kd.R k47 47 w' w.heap.size (fun _ => True) v0_ (if endsU xs < l0.length then [] else xs.map (·.2)) ∧ Below w.heap.size w w' := by
  have HR0 := Aside0.mk hr0
  have HX := Aside0.mk hx
  have HSS := Aside0.mk hs
  have HL := Aside0.mk hl
  clear hr0 hx hs
  refine (callsIn_wide (n := 4)).1 ?_
  refine callsIn_of_wp_marks Try.func38 rfl trivial ?_ rfl
  simp only [Try.ntmps38, List.size_toArray, List.length_cons, List.length_nil, Nat.reduceAdd, Nat.reduceSub, Array.replicate_succ, Array.replicate_zero, List.push_toArray, List.append_toArray, List.nil_append, List.cons_append]
  gi_wp2_with (refine ⟨trivial, ?_⟩; gi_at_call 39; refine (all_in _ _ _ _ _).mono ?_; rintro e w' ⟨rfl, rfl⟩)
  have b0 : Boxed (((w.alloc (.cells #[.slice none 0 0] 35)).alloc (.cells #[.int .i64 0] 3)).alloc (.cells #[.slice A0 l0.length cc] 22)) w.heap.size 35 (.slice none 0 0) := ((Boxed.new w _ _).alloc _).alloc _
  have b1 : Boxed (((w.alloc (.cells #[.slice none 0 0] 35)).alloc (.cells #[.int .i64 0] 3)).alloc (.cells #[.slice A0 l0.length cc] 22)) (w.heap.size + 1) 3 (.int .i64 0) := by
    have h := (Boxed.new (w.alloc (.cells #[.slice none 0 0] 35)) 3 (.int .i64 0)).alloc (.cells #[.slice A0 l0.length cc] 22)
    rw [World.size_alloc] at h; exact h
  have b2 : Boxed (((w.alloc (.cells #[.slice none 0 0] 35)).alloc (.cells #[.int .i64 0] 3)).alloc (.cells #[.slice A0 l0.length cc] 22)) (w.heap.size + 1 + 1) 22 (.slice A0 l0.length cc) := by
    have h := Boxed.new ((w.alloc (.cells #[.slice none 0 0] 35)).alloc (.cells #[.int .i64 0] 3)) 22 (.slice A0 l0.length cc)
    rw [World.size_alloc, World.size_alloc] at h; exact h
  have hB0 : Below w.heap.size w (((w.alloc (.cells #[.slice none 0 0] 35)).alloc (.cells #[.int .i64 0] 3)).alloc (.cells #[.slice A0 l0.length cc] 22)) := (((Below.refl _ w).alloc (Nat.le_refl _) _).alloc (by simp) _).alloc (by simp; omega) _
  have hz0 : (((w.alloc (.cells #[.slice none 0 0] 35)).alloc (.cells #[.int .i64 0] 3)).alloc (.cells #[.slice A0 l0.length cc] 22)).heap.size = w.heap.size + 1 + 1 + 1 := by simp
  obtain ⟨W0, hW0⟩ : ∃ W0, ((w.alloc (.cells #[.slice none 0 0] 35)).alloc (.cells #[.int .i64 0] 3)).alloc (.cells #[.slice A0 l0.length cc] 22) = W0 := ⟨_, rfl⟩
  rw [hW0] at b0 b1 b2 hB0 hz0 ⊢
  refine wpIn_rangeFunc_ownH rfl (by omega) (gf := 68) (lb := #[.pointer (some ⟨w.heap.size + 1 + 1, 0, none⟩)]) rfl trivial (enters_of Try.func68 (by kernel_rfl) rfl)
    (all_stops (4 - 1) (by omega) (w.heap.size + 1 + 1) 200 5000 l0 A0 cc hc0 xs HX.out w HR0.out W0 hB0 b2) (fun h k => KeepBox.t h k) (fun W l o o' => KeepBox.b (by omega) (by omega) W l o o') (Below.refl _ _) (fun _ => rfl)
    (DecI w A0 l0.length cc xs) (fun _ _ _ => False) (DecI.kept w A0 l0.length cc xs (by omega)) (fun _ _ _ _ _ hs _ _ => hs) ⟨⟨_, b0, Kd.R_nil _ _ _ _ _⟩, b1, b2, hB0⟩
    (fun x a' W => DecA w A0 l0.length cc x.1 a' W) (fun x a' => DecA.kept w A0 l0.length cc x.1 a' _) ?assign ?body ?done ?stop
  case assign =>
    rintro l pre x W K hi hK
    have hi2 := hi
    obtain ⟨⟨v, h1, h2⟩, h3, h4, h5⟩ := hi2
    have hb := h4.lt
    gi_wp2
    refine hK _ _ ((KeepsOthers.alloc _ _).from _) ⟨(Below.refl _ W).alloc h5.size _, (Boxed.alloc h4 _).trans h4.symm⟩ (hi.alloc _) ⟨W.heap.size, heap_alloc_new W _, by omega, ⟨v, h1.alloc _, fun e => ?_⟩, rfl⟩
    have := (Kd.R_bound h2).1 _ e
    omega
  case body =>
    rintro l pre x a' W hl _ ⟨⟨v, h1, h2⟩, h3, h4, h5⟩ ⟨Bx, hx, hBx, ⟨v2, h6, h7⟩, rfl⟩ hlt
    obtain rfl : v2 = v := by
      have e := (show W.heap[w.heap.size]? = _ from h6).symm.trans h1
      simpa using e
    obtain ⟨s, hs⟩ := HSS.out x.1 x.2
    have hsz := h4.lt
    have hbx := (Array.getElem?_eq_some_iff.1 hx).1
    have c0 := h1.cell
    have c1 := h3.cell
    have cx0 : W.cell? ⟨Bx, 0, none⟩ = some (.int .i64 x.1.2.f0) := blk_cell hx 0
    have cx1 : W.cell? ⟨Bx, 1, none⟩ = some (.int .i64 x.1.2.f1) := blk_cell hx 1
    have hpl : pre.length ≤ 4096 := by
      have := allF_len 200 l0 5000 0 xs HX.out
      have := HL.out
      omega
    have hWs : w.heap.size + 1 + 1 + 1 ≤ W.heap.size := by omega
    obtain ⟨i0, hi0, hi1, hi2, hi3⟩ := info_parts info47
    obtain ⟨hk0, inner, hown, hreps⟩ := Kd.R_alloc h2 (.cells #[.int .i64 x.1.2.f0, .int .i64 x.1.2.f1] 47)
    have HK0 := Aside0.mk hk0
    have HREPS := Aside0.mk hreps
    have HOWN := Aside0.mk hown
    have H1 := Aside0.mk h1
    have H2 := Aside0.mk h2
    have H3 := Aside0.mk h3
    have H4 := Aside0.mk h4
    have H5 := Aside0.mk h5
    have H7 := Aside0.mk h7
    have HXc := Aside0.mk hx
    have HSz := Aside0.mk hs
    have HI := Aside0.mk hi0
    have HI1 := Aside0.mk hi1
    have HI2 := Aside0.mk hi2
    have HI3 := Aside0.mk hi3
    clear hk0 hreps hown h1 h2 h3 h4 h5 h6 h7 hx hs hi0 hi1 hi2 hi3 hl
    have t1 : (pre.map (fun x : { x : Ins // x ∈ xs } => x.1.2)).length + 1 ≤ maxLen := by simp [maxLen]; omega
    have t2 : ((pre.map (fun x : { x : Ins // x ∈ xs } => x.1.2)).length + 1) * 16 ≤ 140737488355328 := by simp; omega
    have t3 : w.heap.size + 1 + 1 + 1 ≤ (W.alloc (.cells #[.int .i64 x.1.2.f0, .int .i64 x.1.2.f1] 47)).heap.size := by rw [World.size_alloc]; omega
    have t4 : ∀ u ∈ [Value.int .i64 x.1.2.f0, Value.int .i64 x.1.2.f1], u.oneCell' = true := by simp [Value.oneCell']
    gi_wp2_with (first | (gi_at_builtin; go_loud (refine wpListIn_append_own_at _ rfl _ _ 35 rfl (w.heap.size + 1 + 1 + 1) 47 i0 (.agg #[.int .i64 0, .int .i64 0]) 2 16 Try.underlying35 HI.out HI1.out HI2.out HI3.out rfl (by decide) v2 _ inner rfl HOWN.out ⟨W.heap.size, 0, none⟩ 1 1 [.int .i64 x.1.2.f0, .int .i64 x.1.2.f1] rfl rfl (cell_two_new _ _ _ _) t4 t1 t2 t3 ?_; intro v' w1 hown' hg _ hat; have hat' : v'.ownBlock = v2.ownBlock ∨ ∃ b, v'.ownBlock = some b ∧ (W.alloc (.cells #[.int .i64 x.1.2.f0, .int .i64 x.1.2.f1] 47)).heap.size ≤ b := (hat.elim .inl (fun e => .inr ⟨_, e, Nat.le_refl _⟩)); have hR1 := Kd.R_appended (d := k47) (okp := fun _ => False) HK0.out HREPS.out (k47_mkM _ _ _ x.1.2) (fun _ hk => hk.elim) (fun _ _ => trivial) hown' hg hat'; obtain ⟨g', cap', hv'⟩ := ownsRow_succ hown'; subst hv'; have hB0 : Boxed w1 w.heap.size 35 v2 := (H1.out.alloc _).kept hg ((H1.out.alloc _).not_row (by decide) HOWN.out); have hB1 : Boxed w1 (w.heap.size + 1) 3 _ := (H3.out.alloc _).kept hg ((H3.out.alloc _).not_row (by decide) HOWN.out); have hB2 : Boxed w1 (w.heap.size + 1 + 1) 22 _ := (H4.out.alloc _).kept hg ((H4.out.alloc _).not_row (by decide) HOWN.out); have hXb : w1.heap[Bx]? = some (.cells #[.int .i64 x.1.2.f0, .int .i64 x.1.2.f1] 47 (0, 0)) := (hg.block Bx (by rw [World.size_alloc]; omega) (fun e => H7.out e.symm)).trans (((below_alloc (Below.refl _ W) _).block Bx hbx).trans HXc.out); have d0 := hB0.cell; have f0 := hB0.frozen; have d1 := hB1.cell; have f1 := hB1.frozen; have dx0 : w1.cell? ⟨Bx, 0, none⟩ = some (.int .i64 x.1.2.f0) := blk_cell hXb 0; have z1 := hg.size; have HR1 := Aside0.mk hR1; have HB0 := Aside0.mk hB0; have HB1 := Aside0.mk hB1; have HB2 := Aside0.mk hB2; have HG := Aside0.mk hg; have HOWN1 := Aside0.mk hown'; clear hR1 hB0 hB1 hB2 hXb hg hat hat' hown')) | (refine ⟨trivial, ?_⟩; gi_at_call 67; go_loud (refine (CallsIn.inRound l (callsIn_wide.2 (instr_Size.calls 200 x.1.2.f0 s _ HSz.out))).mono ?_; rintro e w2 ⟨rfl, hd⟩; obtain ⟨m, hm⟩ := hd.out; subst hm)))
    have e1 := endsU_snoc (pre.map (fun y : { x : Ins // x ∈ xs } => y.1)) x.1 s HSz.out
    obtain ⟨_, inner2, hown2, _⟩ := H2.out
    obtain ⟨_, _, _, ko, kb⟩ := H1.out.appended (n₀ := w.heap.size) (by decide) (own_weaken hown2 (by omega)) (by omega) (Nat.le_refl _) (own_weaken HOWN1.out (by omega)) HG.out
    obtain ⟨W2, hW2⟩ : ∃ W2, w1.setCell ⟨w.heap.size, 0, none⟩ (.slice (some ⟨g', 0, none⟩) (pre.length + 1) cap') = W2 := ⟨_, rfl⟩
    have q0 : Boxed W2 w.heap.size 35 (.slice (some ⟨g', 0, none⟩) (pre.length + 1) cap') := by rw [← hW2]; exact HB0.out.set _
    have q1 : Boxed W2 (w.heap.size + 1) 3 (.int .i64 (endsU (pre.map (fun y : { x : Ins // x ∈ xs } => y.1)))) := by rw [← hW2]; exact HB1.out.other (by omega) _
    have q2 : Boxed W2 (w.heap.size + 1 + 1) 22 (.slice A0 l0.length cc) := by rw [← hW2]; exact HB2.out.other (by omega) _
    have q3 : Kd.R k47 47 W2 (w.heap.size + 1 + 1 + 1) (fun _ => True) (.slice (some ⟨g', 0, none⟩) (pre.length + 1) cap') ((pre ++ [x]).map (fun y : { x : Ins // x ∈ xs } => y.1.2)) := by
      rw [← hW2, List.map_append]
      have h := HR1.out
      simp only [List.length_map] at h
      exact R_late h (fun k hk _ => Below.heap_setCell w1 _ _ k (by show k ≠ w.heap.size; omega))
    have hl1 : (pre.map (fun y : { x : Ins // x ∈ xs } => y.1.2)).length = pre.length := by simp
    rw [hl1] at ko kb
    rw [hW2] at ko kb
    have z2 := ko.size
    have q1' : Boxed (W2.drewN m) (w.heap.size + 1) 3 (.int .i64 (endsU (pre.map (fun y : { x : Ins // x ∈ xs } => y.1)))) := q1
    have q0' : Boxed (W2.drewN m) w.heap.size 35 (.slice (some ⟨g', 0, none⟩) (pre.length + 1) cap') := q0
    have q2' : Boxed (W2.drewN m) (w.heap.size + 1 + 1) 22 (.slice A0 l0.length cc) := q2
    have kb' : Below w.heap.size W (W2.drewN m) := pw_below_drewN kb m
    have kb3 := kb'.setCell (p := ⟨w.heap.size + 1, 0, none⟩) (by show w.heap.size ≤ w.heap.size + 1; omega) (.int .i64 (wrap64 (x.1.1 + s)))
    have ko' : KeepsOthers W (W2.drewN m) := ⟨ko.size, ko.same⟩
    rw [hW2]
    refine ⟨(ko'.trans (KeepsOthers.setCell _ _ _)).from _, ⟨kb3, (q2'.other (by omega) _).trans H4.out.symm⟩, ⟨_, q0'.other (by omega) _, ?_⟩, ?_, q2'.other (by omega) _, H5.out.trans kb3⟩
    · exact R_late (w1 := (W2.drewN m).setCell ⟨w.heap.size + 1, 0, none⟩ (.int .i64 (wrap64 (x.1.1 + s)))) q3 (fun k hk _ => Below.heap_setCell (W2.drewN m) _ _ k (by show k ≠ w.heap.size + 1; omega))
    · rw [List.map_append]
      simp only [List.map_cons, List.map_nil]
      rw [e1]
      exact q1'.set _
  case done =>
    rintro D ys W hD hys ⟨⟨v, h1, h2⟩, h3, h4, h5⟩ hK
    have c0' := h1.cell
    have c1' := h3.cell
    obtain ⟨Av, cv, hv⟩ := Kd.R_slice h2
    subst hv
    have hE : endsU (ys.map (fun y : { x : Ins // x ∈ xs } => y.1)) = endsU xs := by rw [hys]
    rw [hE] at c1' h3
    by_cases hlt : endsU xs < l0.length
    · gi_wp2
      refine wpIn_wide.2 ?_
      go_region
      gi_wp2
      have hKd : W.drew.heap[D]? = some (.deferred (some [])) := hK
      have hbl : Below w.heap.size w (W.drew.putObj D (.deferred none)) := (below_drew h5).trans (belowK_b (w := w) (Nat.le_refl _) W.drew D _ _ (by omega) hKd rfl rfl)
      refine ⟨by simp, .inl ⟨_, _, rfl, run_takeDeferred hKd, ?_⟩⟩
      refine ⟨.tuple #[.slice none 0 0, .int .i64 50, .int .i64 (endsU xs)], ?_, _, rfl, Kd.R_nil _ _ _ _ _, hbl⟩
      simp [results, Try.f38, go_sem]
    · gi_wp2
      refine wpIn_wide.2 ?_
      go_region
      gi_wp2
      have hKd : W.drew.heap[D]? = some (.deferred (some [])) := hK
      have hbl : Below w.heap.size w (W.drew.putObj D (.deferred none)) := (below_drew h5).trans (belowK_b (w := w) (Nat.le_refl _) W.drew D _ _ (by omega) hKd rfl rfl)
      have hm : ys.map (fun y : { x : Ins // x ∈ xs } => y.1.2) = xs.map (·.2) := by
        have h := congrArg (List.map Prod.snd) hys
        rw [List.map_map] at h
        exact h
      have hn : ys.length = xs.length := by
        have h := congrArg List.length hys
        rw [List.length_map] at h
        exact h
      have hR := R_keptCells (Kd.R_drew h2) (grownBy_putObj' W.drew D (.deferred none)) (fun r e => by cases e; exact ⟨_, hKd, rfl⟩)
      rw [hm] at hR
      simp only [List.length_map, hn] at hR
      refine ⟨by simp, .inl ⟨_, _, rfl, run_takeDeferred hKd, ?_⟩⟩
      refine ⟨.tuple #[.slice Av xs.length cv, .int .i64 0, .int .i64 (xs.length : Int)], ?_, _, rfl, Kd.R_lower (base := w.heap.size + 1 + 1 + 1) hR (by omega), hbl⟩
      simp [results, Try.f38, go_sem, hn]
  case stop =>
    rintro D c pre W _ _ h _
    exact h.elim
open Go.Shelf in
theorem instr_Decode.calls (A0 : Option Addr) (c0 : Nat) (l0 : List Int) (r1 : List S47) (r2 : Int) (r3 : Int) (w : World) (hr0 : Kd.C (Kd.int .u8) w A0 l0.length l0) (hc0 : l0.length ≤ c0) (h : instr_Decode.f l0 = some (r1, r2, r3)) :
    Calls Try.prog 38 #[.slice A0 l0.length c0] w fun e w' => ∃ v0_ : Value, e = .returned (.tuple #[v0_, .int .i64 r2, .int .i64 r3]) ∧ Kd.R k47 47 w' w.heap.size (fun _ => True) v0_ r1 ∧ Below w.heap.size w w' := by
  unfold instr_Decode.f at h
  by_cases hl : (l0.length : Int) > 4096
  · rw [if_pos hl] at h
    simp only [Option.some.injEq, Prod.mk.injEq] at h
    obtain ⟨rfl, rfl, rfl⟩ := h
    go_enter Try.func38, Try.ntmps38
    go_wp2
    go_ret3
    exact ⟨_, rfl, Kd.R_nil _ _ _ _ _, Below.refl _ w⟩
  · rw [if_neg hl] at h
    obtain ⟨xs, hx, h⟩ := Option.bind_eq_some_iff.mp h
    by_cases ha : xs.all (fun x => (instr_Size.f 200 x.2.f0).isSome) = true
    · rw [if_pos ha] at h
      have hs : ∀ x ∈ xs, ∃ s, instr_Size.f 200 x.2.f0 = some s := fun x hm => Option.isSome_iff_exists.mp (List.all_eq_true.mp ha x hm)
      refine (decode_run A0 c0 l0 xs w hr0 hc0 hl hx hs).mono ?_
      rintro e w' ⟨v, he, hR, hB⟩
      by_cases hlt : endsU xs < l0.length
      · rw [if_pos hlt] at h hR
        rw [if_pos hlt, if_pos hlt] at he
        simp only [Option.some.injEq, Prod.mk.injEq] at h
        obtain ⟨rfl, rfl, rfl⟩ := h
        exact ⟨v, he, hR, hB⟩
      · rw [if_neg hlt] at h hR
        rw [if_neg hlt, if_neg hlt] at he
        simp only [Option.some.injEq, Prod.mk.injEq] at h
        obtain ⟨rfl, rfl, rfl⟩ := h
        exact ⟨v, he, hR, hB⟩
    · rw [if_neg ha] at h
      cases h

end Go.Proofs.Ytjkjpmfenillcaa.P
