import Derived.Test.YtdcjbkhfopdgnaaInstrZ
import Derived.Test.YtdcjbkhfopdgnaaCalm
import Derived.Test.YtdcjbkhfopdgnaaP0
import Derived.Test.YtdcjbkhfopdgnaaWInvWords
import Derived.Test.YtdcjbkhfopdgnaaWTab
/- What lies in memory while walk gathers instructions and their places; no statement of the seat. -/
set_option linter.unusedVariables false
set_option linter.unusedSimpArgs false
namespace Go.Proofs.Ytdcjbkhfopdgnaa.P
open Go.RowKit Go.Proofs.Ytdcjbkhfopdgnaa.Pl Go.Proofs.YtdcjbkhfopdgnaaW.PrintWords Go.Proofs.YtdcjbkhfopdgnaaW.PrintLast Go.Proofs.YtdcjbkhfopdgnaaW.PrintMore
/-- The boxes and the two rows. -/
structure WB (w W : World) (Bs B8 n c0 : Nat) (A0 : Option Addr) (most : Int) (v8 v9 : Value) (l : List X) (m : List Int) : Prop where
  b1 : W.heap[w.heap.size]? = some (.cells #[.int .i64 most] 3 (0, 0))
  bs : W.heap[Bs]? = some (.cells #[.slice A0 n c0] 46 (0, 0))
  b8 : W.heap[B8]? = some (.cells #[v8] 49 (0, 0))
  b9 : W.heap[B8 + 1]? = some (.cells #[v9] 56 (0, 0))
  r8 : Kd.R k58 58 W (B8 + 2) (fun _ => True) v8 l
  r9 : Kd.R (Kd.int .i64) 3 W (B8 + 2) (fun _ => True) v9 m
  ap : ∀ k, v8.ownBlock = some k → v9.ownBlock ≠ some k
  lo : w.heap.size < Bs
  hi : Bs < B8
  hb : Below w.heap.size w W
section
variable {w W W1 : World} {Bs B8 n c0 : Nat} {A0 : Option Addr} {most : Int} {v8 v9 : Value} {l : List X} {m : List Int}
theorem WB.keep (h : WB w W Bs B8 n c0 A0 most v8 v9 l m) {row : Option Nat} (hg : W.grownBy W1 row) (hr : ∀ r, row = some r → w.heap.size ≤ r ∧ ∃ o : Obj, W.heap[r]? = some o ∧ o.isCells = false) : WB w W1 Bs B8 n c0 A0 most v8 v9 l m :=
  ⟨cells_kept h.b1 hg (fun r e => (hr r e).2), cells_kept h.bs hg (fun r e => (hr r e).2), cells_kept h.b8 hg (fun r e => (hr r e).2), cells_kept h.b9 hg (fun r e => (hr r e).2), R_keptCells h.r8 hg (fun r e => (hr r e).2), R_keptCells h.r9 hg (fun r e => (hr r e).2), h.ap, h.lo, h.hi, h.hb.grown hg h.hb.size (fun r e => (hr r e).1)⟩
theorem WB.below (h : WB w W Bs B8 n c0 A0 most v8 v9 l m) (hb : Below W.heap.size W W1) : WB w W1 Bs B8 n c0 A0 most v8 v9 l m := by
  have g : ∀ {b : Nat} {o : Obj}, W.heap[b]? = some o → W1.heap[b]? = some o := fun {b o} hbo => (hb.block b (Array.getElem?_eq_some_iff.1 hbo).1).trans hbo
  exact ⟨g h.b1, g h.bs, g h.b8, g h.b9, Kd.R_below h.r8 hb, Kd.R_below h.r9 hb, h.ap, h.lo, h.hi, below_step h.hb hb⟩
end
/-- What the rounds have done. -/
def WM (w : World) (Bs B8 n c0 : Nat) (A0 : Option Addr) (most : Int) (xs : List Ins) (pre : List { x : Ins // x ∈ xs }) (W : World) : Prop :=
  ∃ v8 v9, WB w W Bs B8 n c0 A0 most v8 v9 (pre.map (fun q => q.1.2)) (pre.map (fun q => q.1.1))
def WI (w : World) (Bs B8 n c0 : Nat) (A0 : Option Addr) (most : Int) (xs : List Ins) (pre : List { x : Ins // x ∈ xs }) (W : World) : Prop :=
  WM w Bs B8 n c0 A0 most xs pre W ∧ (most < 1 ∨ (pre.length : Int) < most)
theorem WM.kept (w : World) (Bs B8 n c0 : Nat) (A0 : Option Addr) (most : Int) (xs : List Ins) {B : Nat} (hB : w.heap.size ≤ B) : OwnFrom B (WM w Bs B8 n c0 A0 most xs) := by
  rintro pre W W' row ⟨v8, v9, h⟩ hg hr
  exact ⟨v8, v9, h.keep hg (fun r e => ⟨Nat.le_trans hB (hr r e).1, (hr r e).2⟩)⟩
theorem WI.kept (w : World) (Bs B8 n c0 : Nat) (A0 : Option Addr) (most : Int) (xs : List Ins) {B : Nat} (hB : w.heap.size ≤ B) : OwnFrom B (WI w Bs B8 n c0 A0 most xs) := by
  rintro pre W W' row ⟨h, h1⟩ hg hr
  exact ⟨WM.kept w Bs B8 n c0 A0 most xs hB pre W W' row h hg hr, h1⟩
/-- A round that breaks off: as many as were wanted. -/
def WX (w : World) (Bs B8 n c0 : Nat) (A0 : Option Addr) (most : Int) (xs : List Ins) (c : Code) (pre : List { x : Ins // x ∈ xs }) (W : World) : Prop :=
  WM w Bs B8 n c0 A0 most xs pre W ∧ ((pre.length : Int) = most ∧ 1 ≤ most) ∧ c = .exit 0
theorem WX.kept (w : World) (Bs B8 n c0 : Nat) (A0 : Option Addr) (most : Int) (xs : List Ins) {B : Nat} (hB : w.heap.size ≤ B) (c : Code) : OwnFrom B (WX w Bs B8 n c0 A0 most xs c) := by
  rintro pre W W' row ⟨h, h1, h2⟩ hg hr
  exact ⟨WM.kept w Bs B8 n c0 A0 most xs hB pre W W' row h hg hr, h1, h2⟩
/-- How far is gone. -/
def goneF (xs : List Ins) (most : Int) : List Ins := if 1 ≤ most ∧ most ≤ xs.length then xs.take most.toNat else xs
theorem gone_all {xs : List Ins} {most : Int} (ys : List { x : Ins // x ∈ xs }) (hys : ys.map (fun q => q.1) = xs) (h : most < 1 ∨ (ys.length : Int) < most) : ys.map (fun q => q.1) = goneF xs most := by
  have e : ys.length = xs.length := by have := congrArg List.length hys; rw [List.length_map] at this; exact this
  unfold goneF
  rw [if_neg (by omega)]
  exact hys
theorem gone_some {xs : List Ins} {most : Int} (pre : List { x : Ins // x ∈ xs }) (hp : pre.map (fun q => q.1) <+: xs) (h : (pre.length : Int) = most ∧ 1 ≤ most) : pre.map (fun q => q.1) = goneF xs most := by
  have e := hp.length_le
  rw [List.length_map] at e
  unfold goneF
  rw [if_pos (by omega), show most.toNat = (pre.map (fun q => q.1)).length by rw [List.length_map]; omega]
  exact List.prefix_iff_eq_take.1 hp
end Go.Proofs.Ytdcjbkhfopdgnaa.P
/- append to a row of one's own, as one operation of a region that draws its order; no statement of the seat. -/
set_option linter.unusedVariables false
namespace Go.Proofs.Ytdcjbkhfopdgnaa.P
open Go.RowKit Go.Proofs.YtdcjbkhfopdgnaaW.PrintWords Go.Proofs.YtdcjbkhfopdgnaaW.PrintLast Go.Proofs.YtdcjbkhfopdgnaaW.PrintMore
theorem letsOut_not (K : Act → World → Prop) : ¬ LetsOut (NoOut (fun (_ : Exit) a w => K a w)) := NoOut.not
theorem append_any {P : Program} {o : Oper} {a : Act} {K : Act → World → Prop} {Q : Exit → Act → World → Prop} {w0 W : World} (base : Nat) (hgd : o.guard = none) (s x : Operand) (t e : TypeId) (z : Value) (size bytes : Nat)
    (ho : o.op = .call { callee := .builtin .append, args := #[s, x], argTypes := #[t, t] })
    (ht : P.underlying t = some (.slice e)) (hinfo : (P.info? e).map (fun i => (i.zero, i.size, i.bytes)) = some (some z, size, bytes)) (hz : z.cells.size = size) (hs0 : 0 < size) (hb0 : 0 < bytes)
    (v : Value) (n : Nat) (xs ys : List Value) (hs : a.eval s = v) (b : Nat) (hx : a.eval x = .slice (some ⟨b, 0, none⟩) 1 1) (hys : ys.length = size) (h1 : ∀ u ∈ ys, u.oneCell' = true)
    (hbk : W.heap[b]? = some (.cells ys.toArray e (0, 0)))
    (HO : W.ownsRow base e size v n xs) (HB : Below base w0 W) (hbase : base ≤ W.heap.size) (hl : (n + 1) * bytes ≤ 140737488355328)
    (h : ∀ v1 w1, w1.ownsRow base e size v1 (n + 1) (xs ++ ys) → Below base w0 w1 → W.grownBy w1 v.ownBlock → (v1.ownBlock = v.ownBlock ∨ ∃ c, v1.ownBlock = some c ∧ W.heap.size ≤ c) → K (a.put o.dst v1) w1) :
    o.wp P a W K (NoOut Q) := by
  obtain ⟨i0, hi, hzz⟩ := Option.map_eq_some_iff.1 hinfo
  simp only [Prod.mk.injEq] at hzz
  obtain ⟨hz0, hz1, hz2⟩ := hzz
  have hlen : n + 1 ≤ 140737488355328 := Nat.le_trans (Nat.le_mul_of_pos_right _ hb0) hl
  have key : wpList P #[] (NoOut (fun (_ : Exit) a w => K a w)) (o :: []) a W := by
    refine wpList_append_own_at W hgd s x t ho base e i0 z size bytes ht hi hz0 hz1 hz2 hz hs0 v n xs hs HO ⟨b, 0, none⟩ 1 1 ys hx (by rw [hys]; simp)
      (by simpa using World.news_of_block (cs := ys.toArray) (t := e) (fr := (0, 0)) hbk) h1 (by simp only [maxLen]; omega) hl hbase ?_
    intro v1 w1 hown hg _ hat
    refine h v1 w1 hown (HB.grown hg hbase (own_base HO)) hg ?_
    rcases hat with hat | hat
    · exact .inl hat
    · exact .inr ⟨_, hat, Nat.le_refl _⟩
  unfold wpList at key
  rw [show Region.wanted o (yielded #[] a.tmps) = true by unfold Region.wanted; rw [hgd], if_pos rfl] at key
  rcases key with key | key
  · unfold Oper.wp at key ⊢
    generalize (execOp a.eval o).run P W = r at key ⊢
    cases r with
    | ok y w' =>
      cases y with
      | enter f args =>
        refine Calls.mono key ?_
        intro e w2 he
        cases e <;> first | exact he | exact absurd he NoOut.not
      | _ => exact key
    | halt y w' => cases y <;> first | exact key | exact absurd key (fun h => h)
  · exact absurd key.2 NoOut.not
/-- A region that draws, by what holds at each set of operations that have come up: each operation is walked once, whatever the order. -/
theorem wpAny_inv {P : Program} {md : Region.Mode} {ops : Array Oper} {Q : Exit → Act → World → Prop} (T : Nat → Array Bool → Act → World → Prop)
    (hstep : ∀ f listed a w, T (f + 1) listed a w → ∀ i ∈ Region.ready md ops listed, wpOp P ops Q i (T f (listed.setIfInBounds i true)) a w)
    (hdone : ∀ f listed a w, T f listed a w → Region.ready md ops listed = [] → Q .normal a w) (hzero : ∀ listed a w, T 0 listed a w → Region.ready md ops listed = []) :
    ∀ f listed a w, T f listed a w → wpAny P md ops Q f listed a w
  | 0, l, a, w, h => ⟨hzero l a w h, hdone 0 l a w h (hzero l a w h)⟩
  | f + 1, l, a, w, h => ⟨hdone _ l a w h, fun i hi => wpOp_mono (fun a' w' h' => wpAny_inv T hstep hdone hzero f _ a' w' h') (hstep f l a w h i hi)⟩
/-- .. of operations that call nobody, inside a round as outside of one. -/
theorem wpIn_region_inv {F : Fence} {n : Nat} {P : Program} (hF : ∀ f, F.fn f) (hm : P.follows .mixedOrders = true) {id : Nat} {l : List Oper} (hc : (l.all fun o => calmOp o.op) = true) {Q : Exit → Act → World → Prop} {a : Act} {w : World} (T : Nat → Array Bool → Act → World → Prop)
    (hstep : ∀ f listed a w, T (f + 1) listed a w → ∀ i ∈ Region.ready .any l.toArray listed, wpOp P l.toArray (NoOut Q) i (T f (listed.setIfInBounds i true)) a w)
    (hdone : ∀ f listed a w, T f listed a w → Region.ready .any l.toArray listed = [] → Q .normal a w) (hzero : ∀ listed a w, T 0 listed a w → Region.ready .any l.toArray listed = [])
    (h0 : T l.toArray.size (Array.replicate l.toArray.size false) a w.drew) : (Code.region id l.toArray true).wpIn F n P Q a w :=
  wpIn_region_any hm (calm_any hF (fun i o ho => by
    rw [List.all_eq_true] at hc
    rw [List.getElem?_toArray] at ho
    exact hc o (List.mem_of_getElem? ho)) _ _ _ _ (wpAny_inv T hstep (fun f listed a w h hr => NoOut.normal (hdone f listed a w h hr)) hzero _ _ _ _ h0))
end Go.Proofs.Ytdcjbkhfopdgnaa.P
/- The body of walk's loop: what lies in memory while its operations come up in whatever order; no statement of the seat. -/
set_option linter.unusedVariables false
set_option linter.unusedSimpArgs false
namespace Go.Proofs.Ytdcjbkhfopdgnaa.P
open Go.RowKit Go.Proofs.Ytdcjbkhfopdgnaa.Pl Go.Proofs.YtdcjbkhfopdgnaaW.PrintWords Go.Proofs.YtdcjbkhfopdgnaaW.PrintLast Go.Proofs.YtdcjbkhfopdgnaaW.PrintMore
theorem ready_dep {md : Region.Mode} {ops : Array Oper} {l : Array Bool} {i : Nat} (h : i ∈ Region.ready md ops l) (js : List Nat) (hn : (ops[i]?).map (needsOf md) = some js) : l.getD i true = false ∧ ∀ j ∈ js, l.getD j false = true := by
  unfold Region.ready at h
  rw [List.mem_filter] at h
  obtain ⟨h1, h2⟩ := h
  rw [Bool.and_eq_true] at h2
  obtain ⟨h2, h3⟩ := h2
  obtain ⟨o, ho, rfl⟩ := Option.map_eq_some_iff.1 hn
  rw [ho, Option.map_some, Option.getD_some, needs_all o (fun j => l.getD j false), List.all_eq_true] at h3
  exact ⟨by simpa using h2, h3⟩
theorem ready_lt {md : Region.Mode} {ops : Array Oper} {l : Array Bool} {i : Nat} (h : i ∈ Region.ready md ops l) : i < ops.size := by
  unfold Region.ready at h
  exact List.mem_range.1 (List.mem_filter.1 h).1
theorem ready_nil {md : Region.Mode} {ops : Array Oper} {l : Array Bool} (h : Region.ready md ops l = []) (i : Nat) (js : List Nat) (hn : (ops[i]?).map (needsOf md) = some js) (hj : ∀ j ∈ js, l.getD j false = true) : l.getD i true = true := by
  obtain ⟨o, ho, rfl⟩ := Option.map_eq_some_iff.1 hn
  by_cases c : l.getD i true = true
  · exact c
  · exfalso
    have hi : i ∈ Region.ready md ops l := by
      unfold Region.ready
      refine List.mem_filter.2 ⟨List.mem_range.2 (Array.getElem?_eq_some_iff.1 ho).1, ?_⟩
      rw [Bool.and_eq_true]
      refine ⟨by simpa using c, ?_⟩
      rw [ho, Option.map_some, Option.getD_some, needs_all o (fun j => l.getD j false), List.all_eq_true]
      exact hj
    rw [h] at hi
    cases hi
theorem ready_full {md : Region.Mode} {ops : Array Oper} {l : Array Bool} (h : ∀ i, i < ops.size → l.getD i true = true) : Region.ready md ops l = [] := by
  unfold Region.ready
  refine List.filter_eq_nil_iff.2 (fun i hi => ?_)
  rw [h i (List.mem_range.1 hi)]
  simp
theorem wpOp_free {P : Program} {ops : Array Oper} {Q : Exit → Act → World → Prop} {i : Nat} {K : Act → World → Prop} {a : Act} {w : World} {o : Oper} (ho : ops[i]? = some o) (hg : o.guard = none) (h : o.wp P a w K Q) : wpOp P ops Q i K a w := by
  unfold wpOp
  rw [ho]
  dsimp only
  rw [show Region.wanted o (yielded ops a.tmps) = true by unfold Region.wanted; rw [hg], if_pos rfl]
  exact .inl h
theorem wp_gen {P : Program} {o : Oper} {a : Act} {w : World} {K Q} (h : ∀ K' : Act → World → Prop, (∀ a w, K a w → K' a w) → o.wp P a w K' Q) : o.wp P a w K Q := h K (fun _ _ h => h)
theorem R_own_ty {α : Type} {d : Kd α} {e base : Nat} {W : World} {ok : Nat → Prop} {v : Value} {xs : List α} (h : d.R e W base ok v xs) : ∀ k, v.ownBlock = some k → base ≤ k ∧ k < W.heap.size ∧ ∃ cs, W.heap[k]? = some (.cells cs e (0, 0)) := by
  obtain ⟨_, inner, ho, _⟩ := h
  exact fun k hk => ⟨own_base ho k hk, own_lt ho k hk, own_typed ho k hk⟩
theorem blk_other {W W1 : World} {e' : Nat} {u : Value} (hu : ∀ r, u.ownBlock = some r → ∃ cs, W.heap[r]? = some (.cells cs e' (0, 0))) (hg : W.grownBy W1 u.ownBlock) {k : Nat} {cs : Array Value} {t : TypeId} {z : Nat × Nat} (hb : W.heap[k]? = some (.cells cs t z)) (hne : t ≠ e') : W1.heap[k]? = some (.cells cs t z) := by
  refine blk_grown hb hg (fun e => ?_)
  obtain ⟨cs', h'⟩ := hu k e.symm
  rw [hb] at h'
  cases h'
  exact hne rfl
theorem R_other {α : Type} {d : Kd α} {e e' base : Nat} {W W1 : World} {v u : Value} {xs : List α} (hf : ∀ {ok1 ok2 : Nat → Prop} {x : α} {cs : List Value}, d.M W base ok1 x cs → d.M W base ok2 x cs) (h : d.R e W base (fun _ => True) v xs) (hu : ∀ r, u.ownBlock = some r → ∃ cs, W.heap[r]? = some (.cells cs e' (0, 0))) (hg : W.grownBy W1 u.ownBlock) (hne : e ≠ e') : d.R e W1 base (fun _ => True) v xs := by
  have h2 : d.R e W base (fun k => v.ownBlock = some k) v xs := Kd.R_flat hf h (fun k hk _ => hk)
  refine Kd.R_mono (Kd.R_grown h2 hg (fun k hk e => ?_)) (fun _ _ => trivial)
  obtain ⟨_, _, cs, hc⟩ := R_own_ty h k hk
  obtain ⟨cs', h'⟩ := hu k e.symm
  rw [hc] at h'
  cases h'
  exact hne rfl
theorem flatX {W : World} {base : Nat} {ok1 ok2 : Nat → Prop} {x : X} {cs : List Value} (h : k58.M W base ok1 x cs) : k58.M W base ok2 x cs := by
  rw [k58_openM h]
  exact k58_mkM _ _ _ _
theorem flatI {W : World} {base : Nat} {ok1 ok2 : Nat → Prop} {x : Int} {cs : List Value} (h : (Kd.int .i64).M W base ok1 x cs) : (Kd.int .i64).M W base ok2 x cs := h
/-- The boxes, the rows and what was built, by what has come up. -/
structure RS (w Ws W : World) (Bs B8 n c0 : Nat) (A0 : Option Addr) (most : Int) (v8 v9 : Value) (l : List X) (m : List Int) (x : X) (p : Int) (Bx : Nat) (c1 c2 c3 c6 c7 c8 c9 : Bool) (t21 t22 t25 t26 : Value) : Prop where
  b1 : W.heap[w.heap.size]? = some (.cells #[.int .i64 most] 3 (0, 0))
  bs : W.heap[Bs]? = some (.cells #[.slice A0 n c0] 46 (0, 0))
  bx : c1 = false → W.heap[Bx]? = some (.cells #[.int .i64 x.f0, .int .i64 x.f1] 58 (0, 0))
  b8 : W.heap[B8]? = some (.cells #[if c8 = true then t22 else v8] 49 (0, 0))
  b9 : W.heap[B8 + 1]? = some (.cells #[if c9 = true then t26 else v9] 56 (0, 0))
  r8 : Kd.R k58 58 W (B8 + 2) (fun _ => True) (if c3 = true then t22 else v8) (if c3 = true then l ++ [x] else l)
  r9 : Kd.R (Kd.int .i64) 3 W (B8 + 2) (fun _ => True) (if c7 = true then t26 else v9) (if c7 = true then m ++ [p] else m)
  s2 : c2 = true → c3 = false → ∃ bk, t21 = .slice (some ⟨bk, 0, none⟩) 1 1 ∧ W.heap[bk]? = some (.cells #[.int .i64 x.f0, .int .i64 x.f1] 58 (0, 0))
  s6 : c6 = true → c7 = false → ∃ bk, t25 = .slice (some ⟨bk, 0, none⟩) 1 1 ∧ W.heap[bk]? = some (.cells #[.int .i64 p] 3 (0, 0))
  lo : w.heap.size < Bs
  hi : Bs < B8
  hb : Below w.heap.size w W
  ko : KeepsOthers Ws W
  kb : Below w.heap.size Ws W
section
variable {w Ws W W1 : World} {Bs B8 n c0 : Nat} {A0 : Option Addr} {most : Int} {v8 v9 : Value} {l : List X} {m : List Int} {x : X} {p : Int} {Bx : Nat} {c1 c2 c3 c6 c7 c8 c9 : Bool} {t21 t22 t25 t26 u : Value}
theorem RS.below (h : RS w Ws W Bs B8 n c0 A0 most v8 v9 l m x p Bx c1 c2 c3 c6 c7 c8 c9 t21 t22 t25 t26) (hb : Below W.heap.size W W1) : RS w Ws W1 Bs B8 n c0 A0 most v8 v9 l m x p Bx c1 c2 c3 c6 c7 c8 c9 t21 t22 t25 t26 := by
  have g : ∀ {b : Nat} {o : Obj}, W.heap[b]? = some o → W1.heap[b]? = some o := fun {b o} hbo => (hb.block b (Array.getElem?_eq_some_iff.1 hbo).1).trans hbo
  refine ⟨g h.b1, g h.bs, fun e => g (h.bx e), g h.b8, g h.b9, Kd.R_below h.r8 hb, Kd.R_below h.r9 hb, fun e f => ?_, fun e f => ?_, h.lo, h.hi, below_step h.hb hb, h.ko.trans ⟨hb.size, fun k o hk _ => g hk⟩, h.kb.trans (hb.mono h.hb.size)⟩
  · obtain ⟨bk, h1, h2⟩ := h.s2 e f; exact ⟨bk, h1, g h2⟩
  · obtain ⟨bk, h1, h2⟩ := h.s6 e f; exact ⟨bk, h1, g h2⟩
theorem RS.start (h : WB w W Bs B8 n c0 A0 most v8 v9 l m) (hx : W.heap[Bx]? = some (.cells #[.int .i64 x.f0, .int .i64 x.f1] 58 (0, 0))) : RS w W W Bs B8 n c0 A0 most v8 v9 l m x p Bx false false false false false false false t21 t22 t25 t26 :=
  ⟨h.b1, h.bs, fun _ => hx, by simpa using h.b8, by simpa using h.b9, by simpa using h.r8, by simpa using h.r9, fun e => absurd e (by simp), fun e => absurd e (by simp), h.lo, h.hi, h.hb, KeepsOthers.refl _, Below.refl _ _⟩
theorem RS.fin (h : RS w Ws W Bs B8 n c0 A0 most v8 v9 l m x p Bx c1 c2 true c6 true true true t21 t22 t25 t26) : WB w W Bs B8 n c0 A0 most t22 t26 (l ++ [x]) (m ++ [p]) := by
  have r8 : Kd.R k58 58 W (B8 + 2) (fun _ => True) t22 (l ++ [x]) := by simpa using h.r8
  have r9 : Kd.R (Kd.int .i64) 3 W (B8 + 2) (fun _ => True) t26 (m ++ [p]) := by simpa using h.r9
  refine ⟨h.b1, h.bs, by simpa using h.b8, by simpa using h.b9, r8, r9, fun k e e' => ?_, h.lo, h.hi, h.hb⟩
  obtain ⟨_, _, cs, h1⟩ := R_own_ty r8 k e
  obtain ⟨_, _, cs', h2⟩ := R_own_ty r9 k e'
  rw [h1] at h2
  cases h2
theorem RS.ld1 (h : RS w Ws W Bs B8 n c0 A0 most v8 v9 l m x p Bx c1 c2 c3 c6 c7 c8 c9 t21 t22 t25 t26) : RS w Ws W Bs B8 n c0 A0 most v8 v9 l m x p Bx true c2 c3 c6 c7 c8 c9 t21 t22 t25 t26 := { h with bx := fun e => absurd e (by simp) }
theorem RS.mk2 (h : RS w Ws W Bs B8 n c0 A0 most v8 v9 l m x p Bx c1 c2 c3 c6 c7 c8 c9 t21 t22 t25 t26) : RS w Ws (W.alloc (.cells #[.int .i64 x.f0, .int .i64 x.f1] 58)) Bs B8 n c0 A0 most v8 v9 l m x p Bx c1 true c3 c6 c7 c8 c9 (.slice (some ⟨W.heap.size, 0, none⟩) 1 1) t22 t25 t26 :=
  { h.below (below_alloc (Below.refl _ W) _) with s2 := fun _ _ => ⟨_, rfl, blk_new W _⟩ }
theorem RS.mk6 (h : RS w Ws W Bs B8 n c0 A0 most v8 v9 l m x p Bx c1 c2 c3 c6 c7 c8 c9 t21 t22 t25 t26) : RS w Ws (W.alloc (.cells #[.int .i64 p] 3)) Bs B8 n c0 A0 most v8 v9 l m x p Bx c1 c2 c3 true c7 c8 c9 t21 t22 (.slice (some ⟨W.heap.size, 0, none⟩) 1 1) t26 :=
  { h.below (below_alloc (Below.refl _ W) _) with s6 := fun _ _ => ⟨_, rfl, blk_new W _⟩ }
theorem RS.st8 (h : RS w Ws W Bs B8 n c0 A0 most v8 v9 l m x p Bx true true true true true false c9 t21 t22 t25 t26) : RS w Ws (W.setCell ⟨B8, 0, none⟩ t22) Bs B8 n c0 A0 most v8 v9 l m x p Bx true true true true true true c9 t21 t22 t25 t26 := by
  have h1 := h.lo
  have h2 := h.hi
  refine ⟨blk_far h.b1 (by show _ ≠ B8; omega) _, blk_far h.bs (by show _ ≠ B8; omega) _, fun e => absurd e (by simp), ?_, blk_far h.b9 (by show _ ≠ B8; omega) _, ?_, ?_, fun _ e => absurd e (by simp), fun _ e => absurd e (by simp), h1, h2, ?_, h.ko.trans (KeepsOthers.setCell _ _ _), ?_⟩
  · exact blk_put h.b8 0 _ (by simp)
  · exact R_late h.r8 (fun k hk _ => Below.heap_setCell W _ _ k (by show _ ≠ B8; omega))
  · exact R_late h.r9 (fun k hk _ => Below.heap_setCell W _ _ k (by show _ ≠ B8; omega))
  · exact h.hb.setCell (by show _ ≤ B8; omega) _
  · exact h.kb.setCell (by show _ ≤ B8; omega) _
theorem RS.st9 (h : RS w Ws W Bs B8 n c0 A0 most v8 v9 l m x p Bx true true true true true true false t21 t22 t25 t26) : RS w Ws (W.setCell ⟨B8 + 1, 0, none⟩ t26) Bs B8 n c0 A0 most v8 v9 l m x p Bx true true true true true true true t21 t22 t25 t26 := by
  have h1 := h.lo
  have h2 := h.hi
  refine ⟨blk_far h.b1 (by show _ ≠ B8 + 1; omega) _, blk_far h.bs (by show _ ≠ B8 + 1; omega) _, fun e => absurd e (by simp), blk_far h.b8 (by show _ ≠ B8 + 1; omega) _, ?_, ?_, ?_, fun _ e => absurd e (by simp), fun _ e => absurd e (by simp), h1, h2, ?_, h.ko.trans (KeepsOthers.setCell _ _ _), ?_⟩
  · exact blk_put h.b9 0 _ (by simp)
  · exact R_late h.r8 (fun k hk _ => Below.heap_setCell W _ _ k (by show _ ≠ B8 + 1; omega))
  · exact R_late h.r9 (fun k hk _ => Below.heap_setCell W _ _ k (by show _ ≠ B8 + 1; omega))
  · exact h.hb.setCell (by show _ ≤ B8 + 1; omega) _
  · exact h.kb.setCell (by show _ ≤ B8 + 1; omega) _
theorem RS.app3 {P : Program} {o : Oper} {a : Act} {K : Act → World → Prop} {Q : Exit → Act → World → Prop} (hgd : o.guard = none) (s y : Operand) (tS : TypeId) (ho : o.op = .call { callee := .builtin .append, args := #[s, y], argTypes := #[tS, tS] })
    (ht : P.underlying tS = some (.slice 58)) (hinfo : (P.info? 58).map (fun i => (i.zero, i.size, i.bytes)) = some (some (.agg #[.int .i64 0, .int .i64 0]), 2, 16))
    (h : RS w Ws W Bs B8 n c0 A0 most v8 v9 l m x p Bx true true false c6 c7 false c9 t21 t22 t25 t26) (hs : a.eval s = v8) (hy : a.eval y = t21) (hl : (l.length + 1) * 16 ≤ 140737488355328)
    (hK : ∀ v1 w1, RS w Ws w1 Bs B8 n c0 A0 most v8 v9 l m x p Bx true true true c6 c7 false c9 t21 v1 t25 t26 → K (a.put o.dst v1) w1) : o.wp P a W K (NoOut Q) := by
  obtain ⟨bk, ht21, hbk⟩ := h.s2 rfl rfl
  have r8 : Kd.R k58 58 W (B8 + 2) (fun _ => True) v8 l := by simpa using h.r8
  have hty := R_own_ty r8
  obtain ⟨h0, inner, hown, hreps⟩ := r8
  have hz := blk_lt h.b9
  have h1 := h.lo
  have h2 := h.hi
  refine append_any (B8 + 2) hgd s y tS 58 (.agg #[.int .i64 0, .int .i64 0]) 2 16 ho ht hinfo rfl (by decide) (by decide) v8 l.length inner [.int .i64 x.f0, .int .i64 x.f1] hs bk (hy.trans ht21) rfl (by simp [Value.oneCell']) hbk hown (Below.refl (B8 + 2) W) (by omega) hl ?_
  intro v1 w1 hown1 hb1 hg hat
  have hR1 := Kd.R_appended (d := k58) (okp := fun _ => False) h0 hreps (k58_mkM _ _ _ x) (fun _ hk => hk.elim) (fun _ _ => trivial) hown1 hg hat
  have hu : ∀ r, v8.ownBlock = some r → ∃ cs, W.heap[r]? = some (.cells cs 58 (0, 0)) := fun r e => (hty r e).2.2
  refine hK v1 w1 ⟨blk_other hu hg h.b1 (by decide), blk_other hu hg h.bs (by decide), fun e => absurd e (by simp), by simpa using blk_other hu hg h.b8 (by decide), blk_other hu hg h.b9 (by decide), by simpa using hR1, R_other flatI h.r9 hu hg (by decide), fun _ e => absurd e (by simp), fun e f => ?_, h1, h2, h.hb.grown hg h.hb.size (fun r e => by have := (hty r e).1; omega), h.ko.trans (KeepsOthers.of_grownBy hg (fun j o e ho => by obtain ⟨cs, hc⟩ := hu j e; rw [hc] at ho; cases ho; rfl)), h.kb.grown hg h.hb.size (fun r e => by have := (hty r e).1; omega)⟩
  obtain ⟨bk, h3, h4⟩ := h.s6 e f
  exact ⟨bk, h3, blk_other hu hg h4 (by decide)⟩
theorem RS.app7 {P : Program} {o : Oper} {a : Act} {K : Act → World → Prop} {Q : Exit → Act → World → Prop} (hgd : o.guard = none) (s y : Operand) (tS : TypeId) (ho : o.op = .call { callee := .builtin .append, args := #[s, y], argTypes := #[tS, tS] })
    (ht : P.underlying tS = some (.slice 3)) (hinfo : (P.info? 3).map (fun i => (i.zero, i.size, i.bytes)) = some (some (.int .i64 0), 1, 8))
    (h : RS w Ws W Bs B8 n c0 A0 most v8 v9 l m x p Bx true c2 true true false c8 false t21 t22 t25 t26) (hs : a.eval s = v9) (hy : a.eval y = t25) (hl : (m.length + 1) * 8 ≤ 140737488355328)
    (hK : ∀ v1 w1, RS w Ws w1 Bs B8 n c0 A0 most v8 v9 l m x p Bx true c2 true true true c8 false t21 t22 t25 v1 → K (a.put o.dst v1) w1) : o.wp P a W K (NoOut Q) := by
  obtain ⟨bk, ht25, hbk⟩ := h.s6 rfl rfl
  have r9 : Kd.R (Kd.int .i64) 3 W (B8 + 2) (fun _ => True) v9 m := by simpa using h.r9
  have hty := R_own_ty r9
  obtain ⟨h0, inner, hown, hreps⟩ := r9
  have hz := blk_lt h.b9
  have h1 := h.lo
  have h2 := h.hi
  refine append_any (B8 + 2) hgd s y tS 3 (.int .i64 0) 1 8 ho ht hinfo rfl (by decide) (by decide) v9 m.length inner [.int .i64 p] hs bk (hy.trans ht25) rfl (by simp [Value.oneCell']) hbk hown (Below.refl (B8 + 2) W) (by omega) hl ?_
  intro v1 w1 hown1 hb1 hg hat
  have hR1 := Kd.R_appended (d := Kd.int .i64) (okp := fun _ => False) h0 hreps (show (Kd.int .i64).M W (B8 + 2) (fun _ => False) p [.int .i64 p] from rfl) (fun _ hk => hk.elim) (fun _ _ => trivial) hown1 hg hat
  have hu : ∀ r, v9.ownBlock = some r → ∃ cs, W.heap[r]? = some (.cells cs 3 (0, 0)) := fun r e => (hty r e).2.2
  refine hK v1 w1 ⟨blk_grown h.b1 hg (fun e => by have := (hty _ e.symm).1; omega), blk_other hu hg h.bs (by decide), fun e => absurd e (by simp), blk_other hu hg h.b8 (by decide), by simpa using blk_other hu hg h.b9 (by decide), R_other flatX h.r8 hu hg (by decide), by simpa using hR1, fun _ e => absurd e (by simp), fun _ e => absurd e (by simp), h1, h2, h.hb.grown hg h.hb.size (fun r e => by have := (hty r e).1; omega), h.ko.trans (KeepsOthers.of_grownBy hg (fun j o e ho => by obtain ⟨cs, hc⟩ := hu j e; rw [hc] at ho; cases ho; rfl)), h.kb.grown hg h.hb.size (fun r e => by have := (hty r e).1; omega)⟩
end
end Go.Proofs.Ytdcjbkhfopdgnaa.P
