import Derived.Test.YtjkjpmfenillcaaModP
import Derived.ChangeKeysEq
import Derived.Test.YtjkjpmfenillcaaPF17
import Derived.Test.YtjkjpmfenillcaaPF16
import Derived.Test.YtjkjpmfenillcaaPF18
/- A loop over an iterator that itself loops over another one: what each keeps, and the law of such a loop; no statement of the seat. -/
set_option linter.unusedVariables false
set_option linter.unusedSimpArgs false
namespace Go.Proofs.Ytjkjpmfenillcaa.P
open Go.RowKit Go.Shelf Go.Proofs.YtjkjpmfenillcaaW.PrintWords Go.Proofs.YtjkjpmfenillcaaW.PrintLast Go.Proofs.YtjkjpmfenillcaaW.PrintMore
attribute [local go_sem] Oper.semAt_some
/-- Whatever lay below B, and whatever is cells, lies as it lay. -/
structure NC (B : Nat) (X Y : World) : Prop where
  os : Y.os = X.os
  tape : Y.tape = X.tape
  output : Y.output = X.output
  size : X.heap.size ≤ Y.heap.size
  same : ∀ (k : Nat) (o : Obj), X.heap[k]? = some o → (k < B ∨ o.isCells = true) → Y.heap[k]? = some o
theorem NC.refl (B : Nat) (X : World) : NC B X X := ⟨rfl, rfl, rfl, Nat.le_refl _, fun _ _ h _ => h⟩
theorem NC.trans {B : Nat} {X Y Z : World} (h : NC B X Y) (k : NC B Y Z) : NC B X Z := ⟨k.os.trans h.os, k.tape.trans h.tape, k.output.trans h.output, Nat.le_trans h.size k.size, fun i o hi hc => k.same i o (h.same i o hi hc) hc⟩
theorem NC.grown {B : Nat} {X Y : World} {row : Option Nat} (hg : X.grownBy Y row) (hr : ∀ r, row = some r → B ≤ r ∧ ∃ o : Obj, X.heap[r]? = some o ∧ o.isCells = false) : NC B X Y := by
  refine ⟨hg.os, hg.tape, hg.output, hg.size, fun k o hk hc => (hg.block k (Array.getElem?_eq_some_iff.1 hk).1 (fun e => ?_)).trans hk⟩
  obtain ⟨h1, o', ho', h2⟩ := hr k e.symm
  rw [hk] at ho'
  cases ho'
  rcases hc with h | h
  · omega
  · rw [h] at h2; cases h2
theorem NC.alloc (B : Nat) (X : World) (o : Obj) : NC B X (X.alloc o) := NC.grown (World.grownBy_alloc X o none) (fun _ e => by cases e)
theorem NC.putObj {B : Nat} {X : World} {l : Nat} {o : Obj} (o' : Obj) (hB : B ≤ l) (hl : X.heap[l]? = some o) (ho : o.isCells = false) : NC B X (X.putObj l o') :=
  NC.grown (grownBy_putObj' X l o') (fun r e => by cases e; exact ⟨hB, o, hl, ho⟩)
theorem NC.below (B : Nat) {X Y : World} (hb : Below X.heap.size X Y) : NC B X Y := ⟨hb.os, hb.tape, hb.output, hb.size, fun k o hk _ => (hb.block k (Array.getElem?_eq_some_iff.1 hk).1).trans hk⟩
theorem NC.le {B B' : Nat} {X Y : World} (h : NC B X Y) (hB : B' ≤ B) : NC B' X Y := ⟨h.os, h.tape, h.output, h.size, fun k o hk hc => h.same k o hk (hc.elim (fun h => .inl (by omega)) .inr)⟩
theorem NC.under {B n0 : Nat} {X Y : World} (h : NC B X Y) (hn : n0 ≤ B) (hs : n0 ≤ X.heap.size) : Below n0 X Y := by
  refine ⟨h.os, h.tape, h.output, h.size, fun k hk => ?_⟩
  have hlt : k < X.heap.size := by omega
  exact (h.same k _ (Array.getElem?_eq_getElem hlt) (.inl (by omega))).trans (Array.getElem?_eq_getElem hlt).symm
/-- It does not mind what turns no cells and nothing below B. -/
def Stab {β : Type} (B : Nat) (J : β → World → Prop) : Prop := ∀ s X Y, J s X → NC B X Y → J s Y
theorem Stab.own {β : Type} {B B' : Nat} {J : β → World → Prop} (h : Stab B J) (hB : B ≤ B') : OwnFrom B' J := fun s X Y row hj hg hr => h s X Y hj ((NC.grown hg hr).le hB)
theorem Stab.up {β : Type} {B B' : Nat} {J : β → World → Prop} (h : Stab B J) (hB : B ≤ B') : Stab B' J := fun s X Y hj hn => h s X Y hj (hn.le hB)
/-- All that is no row of pairs and no box of such rows lies as it lay. -/
structure KP (n0 : Nat) (X Y : World) : Prop where
  low : Below n0 X Y
  same : ∀ (k : Nat) (o : Obj), X.heap[k]? = some o → (∀ cs z, o ≠ .cells cs 45 z ∧ o ≠ .cells cs 48 z) → Y.heap[k]? = some o
theorem KP.refl (n0 : Nat) (X : World) : KP n0 X X := ⟨Below.refl _ _, fun _ _ h _ => h⟩
theorem KP.trans {n0 : Nat} {X Y Z : World} (h : KP n0 X Y) (k : KP n0 Y Z) : KP n0 X Z := ⟨h.low.trans k.low, fun i o hi hc => k.same i o (h.same i o hi hc) hc⟩
theorem not_cells_no {o : Obj} (h : o.isCells = false) : ∀ cs z, o ≠ .cells cs 45 z ∧ o ≠ .cells cs 48 z := by
  intro cs z
  constructor <;> (rintro rfl; cases h)
theorem KP.from {n0 : Nat} {X Y : World} (h : KP n0 X Y) (B : Nat) : KeepsFrom B X Y := ⟨h.low.size, fun k o _ hk ho => h.same k o hk (not_cells_no ho)⟩
theorem KP.blk {n0 : Nat} {X Y : World} (h : KP n0 X Y) {k : Nat} {cs : Array Value} {t : TypeId} (hk : X.heap[k]? = some (.cells cs t (0, 0))) (h1 : t ≠ 45) (h2 : t ≠ 48) : Y.heap[k]? = some (.cells cs t (0, 0)) :=
  h.same k _ hk (fun cs z => ⟨fun e => by cases e; exact h1 rfl, fun e => by cases e; exact h2 rfl⟩)
theorem RoundIn.any {F : Fence} (hd : F.depth = none) {m m' : Nat} {P : Program} {l : Nat} {f : FuncId} {tmps : Array Value} {assign body : Code} {w : World} {R : Ending → World → Prop}
    (h : RoundIn F m P l f tmps assign body w R) : RoundIn F m' P l f tmps assign body w R := ⟨h.1, fun c cs _ => h.2 c cs (fun d h => by rw [hd] at h; cases h)⟩
theorem YieldAt.any {F : Fence} (hd : F.depth = none) {m : Nat} (m' : Nat) {P : Program} {l : Nat} {args : Array Value} {W : World} {R : Ending → World → Prop} (h : YieldAt F m P l args W R) : YieldAt F m' P l args W R := by
  obtain ⟨fn, tmps, assign, body, hy, hR⟩ := h
  exact ⟨fn, tmps, assign, body, hy, RoundIn.any hd hR⟩
/-- An iterator that gives xs, one by one, to rounds that turn nothing but rows of pairs. -/
def Gives {α : Type} (n : Nat) (P : Program) (g : Nat) (lb : Array Value) (encs : α → Array Value) (n0 : Nat) (xs : List α) (w : World) : Prop :=
  ∀ (l : Nat) (J Jx : List α → World → Prop) (W : World), Below w.heap.size w W → l < W.heap.size → Stab W.heap.size J → Stab W.heap.size Jx →
    (∀ pre x W1, J pre W1 → (∃ r, xs = pre ++ x :: r) → YieldAt Fence.wide (n - 1) P l (encs x) W1 fun e W' =>
      (e = .returned (.bool true) ∧ J (pre ++ [x]) W' ∧ KP n0 W1 W') ∨ (e = .returned (.bool false) ∧ Jx (pre ++ [x]) W' ∧ KeepsFrom W.heap.size W1 W')) →
    J [] W →
    CallsIn Fence.wide n P g (#[.func (.yield l) #[] #[]] ++ lb) W fun e W' => (∃ v, e = .returned v) ∧ (J xs W' ∨ (∃ pre, pre <+: xs ∧ Jx pre W'))
/-- What a round's body is left with. -/
def postS {α : Type} (n0 B : Nat) (I Ix : List α → World → Prop) (jump : Code) (ys : List α) (W : World) : Exit → Act → World → Prop
  | .normal, _, W' => KP n0 W W' ∧ I ys W'
  | .ret, _, W' => jump = .ret ∧ KeepsFrom B W W' ∧ Ix ys W'
  | .exit id, _, W' => jump = .exit id ∧ KeepsFrom B W W' ∧ Ix ys W'
  | _, _, _ => False
/-- The law of a loop over such an iterator. -/
theorem range_gives {α : Type} {n : Nat} {P : Program} {g : Operand} {ps : Array Tmp} {assign body : Code} {Q : Exit → Act → World → Prop} {a : Act} {w : World}
    {gf : Nat} {lb : Array Value} (hg : a.eval g = .func (.func gf) #[] lb) (eg : ∀ args w, (callFunc gf args).run P w = .ok (.enter gf args) w)
    {encs : α → Array Value} (hps : ∀ x, (encs x).size = ps.size) {n0 : Nat} (h0w : n0 ≤ w.heap.size) (xs : List α) (hit : Gives (n - 1) P gf lb encs n0 xs w)
    (I Ix : List α → World → Prop) (hI : Stab w.heap.size I) (hIx : Stab w.heap.size Ix) (h0 : I [] w) (jump : Code) (Ax : α → Act → World → Prop) (hAx : ∀ x a', Stab w.heap.size (fun (_ : Unit) W => Ax x a' W))
    (hassign : ∀ (l : Nat) (pre : List α) (x : α) (W : World) (K : Act → World → Prop), I pre W → (∀ a' W', KP n0 W W' → I pre W' → Ax x a' W' → K a' W') →
      assign.wpIn (Fence.wide.inRound l) (n - 1 - 1) P (Exit.then K (fun _ _ _ => False)) { tmps := (ps.zip (encs x)).foldl (fun t (p, v) => t.setIfInBounds p v) a.tmps, defers := [] } W)
    (hbody : ∀ (l : Nat) (pre : List α) (x : α) (a' : Act) (W : World), I pre W → Ax x a' W → (∃ r, xs = pre ++ x :: r) → body.wpIn (Fence.wide.inRound l) (n - 1 - 1) P (postS n0 w.heap.size I Ix jump (pre ++ [x]) W) a' W)
    (hdone : ∀ (D : Nat) (W : World), w.heap.size ≤ D → I xs W → W.heap[D]? = some (.deferred (some [])) → Q .normal { a with defers := { target := .collected D, args := #[] } :: a.defers } W)
    (hstop : ∀ (D : Nat) (pre : List α) (W : World), w.heap.size ≤ D → pre <+: xs → Ix pre W → W.heap[D]? = some (.deferred (some [])) → jump.wpIn Fence.wide n P Q { a with defers := { target := .collected D, args := #[] } :: a.defers } W) :
    (Code.rangeFunc g ps assign body).wpIn Fence.wide n P Q a w := by
  refine wpIn_rangeFunc ?_
  intro fn hfn
  obtain ⟨rec, hrec⟩ : ∃ rec : LoopState → Option Code → Loop, rec = fun st pe => { state := st, pending := pe, fn, tmps := a.tmps, params := ps, assign, body, defers := w.heap.size } := ⟨_, rfl⟩
  obtain ⟨W1, hW1⟩ : ∃ W1, (w.alloc (.deferred (some []))).alloc (.loop (rec .ready none)) = W1 := ⟨_, rfl⟩
  have hL1 : W1.heap[w.heap.size + 1]? = some (.loop (rec .ready none)) := by
    rw [← hW1]
    have := World.alloc_heap_new (w.alloc (.deferred (some []))) (.loop (rec .ready none))
    rwa [World.size_alloc] at this
  have hK1 : W1.heap[w.heap.size]? = some (.deferred (some [])) := by
    rw [← hW1]
    exact (Below.heap_alloc _ _ _ (by simp)).trans (World.alloc_heap_new w _)
  have hz1 : W1.heap.size = w.heap.size + 2 := by rw [← hW1]; simp
  have hI1 : I [] W1 := by rw [← hW1]; exact hI _ _ _ (hI _ _ _ h0 (NC.alloc _ _ _)) (NC.alloc _ _ _)
  have hb1 : Below w.heap.size w W1 := by rw [← hW1]; exact below_alloc (below_alloc (Below.refl _ _) _) _
  refine ⟨w.heap.size + 1, [{ target := .collected w.heap.size, args := #[] }], W1, { target := .fn (.func gf) lb, args := #[.func (.yield (w.heap.size + 1)) #[] #[]] }, W1, gf,
    #[.func (.yield (w.heap.size + 1)) #[] #[]] ++ lb, W1, ?_, ?_, ?_, ?_, (fun h => by cases h), ?_⟩
  · rw [← hW1, hrec]; exact run_enterLoop_outer _ _ _ _ _
  · simp only [resolve, hg]
    simp [go_sem]
  · intro f' hf'; trivial
  · simp [invoke, go_sem, eg]
  · refine (hit (w.heap.size + 1)
      (fun pre W => I pre W ∧ W.heap[w.heap.size + 1]? = some (.loop (rec .ready none)) ∧ W.heap[w.heap.size]? = some (.deferred (some [])))
      (fun pre W => Ix pre W ∧ W.heap[w.heap.size + 1]? = some (.loop (rec .done (some jump))) ∧ W.heap[w.heap.size]? = some (.deferred (some [])))
      W1 hb1 (by omega)
      (fun s X Y hs hn => ⟨hI s X Y hs.1 (hn.le (by omega)), hn.same _ _ hs.2.1 (.inl (by omega)), hn.same _ _ hs.2.2 (.inl (by omega))⟩)
      (fun s X Y hs hn => ⟨hIx s X Y hs.1 (hn.le (by omega)), hn.same _ _ hs.2.1 (.inl (by omega)), hn.same _ _ hs.2.2 (.inl (by omega))⟩)
      ?_ ⟨hI1, hL1, hK1⟩).mono ?_
    · rintro pre x V ⟨hiV, hlV, hkV⟩ hpre
      have hy := run_yield (P := P) (args := encs x) hlV (by rw [hrec]; exact hps x)
      rw [hrec] at hy
      refine ⟨fn, _, assign, body, hy, roundIn_of_wpIn hfn (hassign _ pre x V _ hiV ?_)⟩
      intro a' W hVW hi hax
      have hl := hVW.same _ _ hlV (not_cells_no rfl)
      have hk := hVW.same _ _ hkV (not_cells_no rfl)
      have hlt : w.heap.size + 1 < W.heap.size := (Array.getElem?_eq_some_iff.1 hl).1
      refine ⟨_, run_beginRound hl (by rw [hrec]), ?_⟩
      obtain ⟨W2, hW2⟩ : ∃ W2, W.putObj (w.heap.size + 1) (.loop { rec .ready none with state := .busy }) = W2 := ⟨_, rfl⟩
      have hl2 : W2.heap[w.heap.size + 1]? = some (.loop { rec .ready none with state := .busy }) := by rw [← hW2]; exact World.putObj_heap_same hlt
      have hk2 : W2.heap[w.heap.size]? = some (.deferred (some [])) := by rw [← hW2]; exact (World.putObj_heap_other (by omega)).trans hk
      have hnc : NC w.heap.size W W2 := by rw [← hW2]; exact NC.putObj _ (by omega) hl rfl
      have ho2 : ∀ k, k ≠ w.heap.size + 1 → W2.heap[k]? = W.heap[k]? := by rw [← hW2]; exact fun k hk => World.putObj_heap_other hk
      have hlo2 : Below n0 W W2 := by rw [← hW2]; exact belowK_b (w := w) h0w W _ _ _ (by omega) hl rfl rfl
      rw [hW2]
      refine wpIn_mono (hbody _ pre x a' W2 (hI _ _ _ hi hnc) (hAx x a' () _ _ hax hnc) hpre) ?_
      have stop : ∀ W3, KeepsFrom w.heap.size W2 W3 → Ix (pre ++ [x]) W3 → ∃ v w', (Instr.endRound (w.heap.size + 1) (some jump)).run P W3 = .ok v w' ∧
          (((Ending.returned v) = .returned (.bool true) ∧ (I (pre ++ [x]) w' ∧ w'.heap[w.heap.size + 1]? = some (.loop (rec .ready none)) ∧ w'.heap[w.heap.size]? = some (.deferred (some []))) ∧ KP n0 V w') ∨
           ((Ending.returned v) = .returned (.bool false) ∧ (Ix (pre ++ [x]) w' ∧ w'.heap[w.heap.size + 1]? = some (.loop (rec .done (some jump))) ∧ w'.heap[w.heap.size]? = some (.deferred (some []))) ∧ KeepsFrom W1.heap.size V w')) := by
        intro W3 hkf hi3
        have hl3 := hkf.same _ _ (by omega) hl2 rfl
        have hk3 := hkf.same _ _ (Nat.le_refl _) hk2 rfl
        have hr := run_endRound (P := P) (some jump) hl3
        have hlt3 : w.heap.size + 1 < W3.heap.size := (Array.getElem?_eq_some_iff.1 hl3).1
        rw [hrec] at hr hl3
        refine ⟨_, _, hr, .inr ⟨rfl, ⟨hIx _ _ _ hi3 (NC.putObj _ (by omega) hl3 rfl), ?_, (World.putObj_heap_other (by omega)).trans hk3⟩, ?_⟩⟩
        · rw [World.putObj_heap_same hlt3, hrec]; rfl
        · have s1 := hVW.low.size
          have s2 := hlo2.size
          have s3 := hkf.size
          refine ⟨by have := (grownBy_putObj' W3 (w.heap.size + 1) (.loop { state := .done, pending := some jump, fn, tmps := a.tmps, params := ps, assign, body, defers := w.heap.size })).size; exact Nat.le_trans (by omega) this, fun k o hk0 hk1 hc => ?_⟩
          have he : k ≠ w.heap.size + 1 := by omega
          rw [World.putObj_heap_other he]
          exact hkf.same k o (by omega) ((ho2 k he).trans (hVW.same k o hk1 (not_cells_no hc))) hc
      rintro e a3 W3 hp
      cases e with
      | normal =>
        obtain ⟨hkp, hi3⟩ := hp
        have hl3 := hkp.same _ _ hl2 (not_cells_no rfl)
        have hk3 := hkp.same _ _ hk2 (not_cells_no rfl)
        have hr := run_endRound (P := P) none hl3
        have hlt3 : w.heap.size + 1 < W3.heap.size := (Array.getElem?_eq_some_iff.1 hl3).1
        rw [hrec] at hr hl3
        refine ⟨_, _, hr, .inl ⟨rfl, ⟨hI _ _ _ hi3 (NC.putObj _ (by omega) hl3 rfl), ?_, (World.putObj_heap_other (by omega)).trans hk3⟩, hVW.trans ?_⟩⟩
        · rw [World.putObj_heap_same hlt3, hrec]; rfl
        · refine ⟨(hlo2.trans hkp.low).trans (belowK_b (w := w) h0w W3 _ _ _ (by omega) hl3 rfl rfl), fun k o hk hc => ?_⟩
          by_cases he : k = w.heap.size + 1
          · subst he
            rw [hl] at hk
            cases hk
            rw [World.putObj_heap_same hlt3, hrec]; rfl
          · rw [World.putObj_heap_other he]
            exact hkp.same k o ((ho2 k he).trans hk) hc
      | ret =>
        obtain ⟨rfl, hkf, hi3⟩ := hp
        exact stop W3 hkf hi3
      | exit id =>
        obtain ⟨rfl, hkf, hi3⟩ := hp
        exact stop W3 hkf hi3
      | goto t => exact hp.elim
      | panic ch => exact hp.elim
      | outgrown => exact hp.elim
    · rintro e W2 ⟨⟨v, rfl⟩, (⟨hi, hl, hk⟩ | ⟨pre, hpre, hi, hl, hk⟩)⟩
      · exact ⟨none, _, by have := run_endLoop (P := P) hl (by rw [hrec]; simp); rw [hrec] at this; exact this, hdone _ _ (Nat.le_refl _) (hI _ _ _ hi (NC.putObj _ (by omega) hl rfl)) ((World.putObj_heap_other (by omega)).trans hk)⟩
      · exact ⟨some jump, _, by have := run_endLoop (P := P) hl (by rw [hrec]; simp); rw [hrec] at this; exact this, hstop _ pre _ (Nat.le_refl _) hpre (hIx _ _ _ hi (NC.putObj _ (by omega) hl rfl)) ((World.putObj_heap_other (by omega)).trans hk)⟩
/-- instr.All gives its instructions so. -/
theorem all_gives (n : Nat) (hn : 1 ≤ n) (Bs k fuel : Nat) (b : List Int) (A : Option Addr) (c : Nat) (hc : b.length ≤ c) (xs : List Ins) (hx : allF k b fuel 0 = some xs) (we : World) (hC : Kd.C (Kd.int .u8) we A b.length b)
    (w : World) (hw : Below we.heap.size we w) (hBs : w.heap[Bs]? = some (.cells #[.slice A b.length c] 22 (0, 0))) :
    Gives n Try.prog 68 #[.pointer (some ⟨Bs, 0, none⟩)] (fun x : Ins => #[.int .i64 x.1, .agg #[.int .i64 x.2.f0, .int .i64 x.2.f1]]) we.heap.size xs w := by
  intro l J Jx W hW hl hJ hJx hY h0
  have hbW : W.heap[Bs]? = some (.cells #[.slice A b.length c] 22 (0, 0)) := (hW.block Bs (Array.getElem?_eq_some_iff.1 hBs).1).trans hBs
  have hBl : Bs < W.heap.size := (Array.getElem?_eq_some_iff.1 hbW).1
  refine (all1_in n hn l Bs k fuel b A c hc xs hx we hC (fun p W' => J p W' ∧ W'.heap[Bs]? = some (.cells #[.slice A b.length c] 22 (0, 0))) Jx W (below_step hw hW) ?_ ?_ hbW ⟨h0, hbW⟩).mono ?_
  · rintro s X Y row ⟨hj, hb⟩ hg hr
    have hn : NC W.heap.size X Y := NC.grown hg (fun r e => by obtain ⟨h1, o, h2, h3⟩ := hr r e; exact ⟨h1, o, h2, Obj.not_cells_of_walk h3⟩)
    exact ⟨hJ s X Y hj hn, hn.same _ _ hb (.inr rfl)⟩
  · rintro pre x W1 ⟨hj, hb⟩ hpre
    refine YieldAt.mono (hY pre x W1 hj hpre) ?_
    rintro e W' (⟨rfl, h1, h2⟩ | ⟨rfl, h1, h2⟩)
    · have hb' := h2.blk hb (by decide) (by decide)
      exact .inl ⟨rfl, ⟨h1, hb'⟩, h2.low, hb'.trans hb.symm⟩
    · exact .inr ⟨rfl, h1⟩
  · rintro e W' ⟨he, ⟨ys, rfl, hj, _⟩ | ⟨pre, hp, hj⟩⟩
    · exact ⟨he, .inl hj⟩
    · exact ⟨he, .inr ⟨pre, hp, hj⟩⟩
end Go.Proofs.Ytjkjpmfenillcaa.P
/- module.Calls: what is gone over; no statement of the seat. -/
set_option linter.unusedVariables false
set_option linter.unusedSimpArgs false
namespace Go.Proofs.Ytjkjpmfenillcaa.P
open Go.RowKit Go.Shelf Go.Proofs.YtjkjpmfenillcaaW.PrintWords Go.Proofs.YtjkjpmfenillcaaW.PrintLast Go.Proofs.YtjkjpmfenillcaaW.PrintMore
attribute [local go_sem] Oper.semAt_some
/-- The marks of the loops that are over. -/
def Marks (B : Nat) : Nat → List Deferred → World → Prop
  | _, [], _ => True
  | N, d :: ds, W => ∃ D, d = { target := .collected D, args := #[] } ∧ B ≤ D ∧ D < N ∧ W.heap[D]? = some (.deferred (some [])) ∧ Marks B D ds W
theorem Marks.kept {B : Nat} {X Y : World} : ∀ (ds : List Deferred) (N : Nat), Marks B N ds X → (∀ k o, B ≤ k → k < N → X.heap[k]? = some o → o.isCells = false → Y.heap[k]? = some o) → Marks B N ds Y
  | [], _, _, _ => trivial
  | d :: ds, N, h, hk => by
    obtain ⟨D, rfl, h1, h2, h3, h4⟩ := h
    exact ⟨D, rfl, h1, h2, hk D _ h1 h2 h3 rfl, Marks.kept ds D h4 (fun k o a b c => hk k o a (by omega) c)⟩
theorem Marks.up {B : Nat} {X : World} : ∀ (ds : List Deferred) (N M : Nat), Marks B N ds X → N ≤ M → Marks B M ds X
  | [], _, _, _, _ => trivial
  | d :: ds, N, M, h, hk => by
    obtain ⟨D, rfl, h1, h2, h3, h4⟩ := h
    exact ⟨D, rfl, h1, by omega, h3, h4⟩
theorem Marks.leave {B n : Nat} {P : Program} {fn : Func} {tmps : Array Value} {R : Ending → World → Prop} : ∀ (ds : List Deferred) (N : Nat) (W : World), Marks B N ds W →
    (∀ W', NC B W W' → LeavesIn Fence.wide n P fn tmps R [] .returning W') → LeavesInM Fence.wide n P fn tmps R ds .returning W
  | [], _, W, _, h => h W (NC.refl _ _)
  | d :: ds, N, W, hm, h => by
    obtain ⟨D, rfl, h1, h2, h3, h4⟩ := hm
    have hlt : D < W.heap.size := (Array.getElem?_eq_some_iff.1 h3).1
    refine ⟨by simp, .inl ⟨D, _, rfl, run_takeDeferred h3, ?_⟩⟩
    have hn : NC B W (W.putObj D (.deferred none)) := NC.putObj _ h1 h3 rfl
    refine Marks.leave ds D _ (Marks.kept ds D h4 (fun k o a b c e => (World.putObj_heap_other (by omega)).trans c)) (fun W' hk => h W' (hn.trans hk))
/-- The calls among a function's instructions. -/
def wantP (k : Nat) (q : List Ins) : List (Int × Int) := (q.filter (fun x => x.2.f0 == 31)).map (fun x => ((k : Int), x.2.f1))
theorem wantP_app (k : Nat) (q r : List Ins) : wantP k (q ++ r) = wantP k q ++ wantP k r := by unfold wantP; rw [List.filter_append, List.map_append]
theorem wantP_one {k : Nat} {x : Ins} (h : x.2.f0 = 31) : wantP k [x] = [((k : Int), x.2.f1)] := by unfold wantP; simp [h]
theorem wantP_no {k : Nat} {x : Ins} (h : ¬ x.2.f0 = 31) : wantP k [x] = [] := by unfold wantP; simp [h]
/-- The calls of functions. -/
def wantGo (ins : List Int → List Ins) : Nat → List FnS → List (Int × Int)
  | _, [] => []
  | k, x :: xs => wantP k (ins x.f2) ++ wantGo ins (k + 1) xs
/-- Between two functions. -/
structure CI (ins : List Int → List Ins) (we : World) (B l Bs B2 : Nat) (A0 : Option Addr) (c0 n0 : Nat) (A1 : Option Addr) (c1 : Nat) (l1 : List FnS) (J : List (Int × Int) → World → Prop) (k : Nat) (ds : List Deferred) (W : World) : Prop where
  le : k ≤ l1.length
  j : ∃ pre, wantGo ins 0 l1 = pre ++ wantGo ins k (l1.drop k) ∧ J pre W
  hb : Below we.heap.size we W
  sz : B ≤ W.heap.size
  bs : W.heap[Bs]? = some (.cells #[.slice A0 n0 c0, .slice A1 l1.length c1] 27 (0, 0))
  b2 : W.heap[B2]? = some (.cells #[.func (.yield l) #[] #[]] 102 (0, 0))
  mks : Marks B W.heap.size ds W
/-- Within a function's round. -/
structure CR (ins : List Int → List Ins) (we : World) (B M l Bs B2 B3 : Nat) (A0 : Option Addr) (c0 n0 : Nat) (A1 : Option Addr) (c1 : Nat) (l1 : List FnS) (J : List (Int × Int) → World → Prop) (k : Nat) (ds : List Deferred) (p0 : List (Int × Int)) (q : List Ins) (W : World) : Prop where
  j : J (p0 ++ wantP k q) W
  hb : Below we.heap.size we W
  sz : M ≤ W.heap.size
  bs : W.heap[Bs]? = some (.cells #[.slice A0 n0 c0, .slice A1 l1.length c1] 27 (0, 0))
  b2 : W.heap[B2]? = some (.cells #[.func (.yield l) #[] #[]] 102 (0, 0))
  b3 : W.heap[B3]? = some (.cells #[.int .i64 k] 3 (0, 0))
  mks : Marks B M ds W
section
variable {ins : List Int → List Ins} {we : World} {B M l Bs B2 B3 : Nat} {A0 A1 : Option Addr} {c0 n0 c1 : Nat} {l1 : List FnS} {J : List (Int × Int) → World → Prop} {k : Nat} {ds : List Deferred} {p0 : List (Int × Int)}
theorem CR.stab (hJ : Stab B J) (hB : B ≤ M) (hw : we.heap.size ≤ M) : Stab M (CR ins we B M l Bs B2 B3 A0 c0 n0 A1 c1 l1 J k ds p0) := by
  rintro q X Y h hn
  exact ⟨hJ _ _ _ h.j (hn.le hB), h.hb.trans (hn.under hw h.hb.size), Nat.le_trans h.sz hn.size, hn.same _ _ h.bs (.inr rfl), hn.same _ _ h.b2 (.inr rfl), hn.same _ _ h.b3 (.inr rfl),
    Marks.kept ds M h.mks (fun k o _ hk ho _ => hn.same k o ho (.inl hk))⟩
theorem CR.put {q : List Ins} {x : Ins} {W W' : World} (h : CR ins we B M l Bs B2 B3 A0 c0 n0 A1 c1 l1 J k ds p0 q W) (hk : KP we.heap.size W W') (hj : J (p0 ++ wantP k (q ++ [x])) W') : CR ins we B M l Bs B2 B3 A0 c0 n0 A1 c1 l1 J k ds p0 (q ++ [x]) W' :=
  ⟨hj, h.hb.trans hk.low, Nat.le_trans h.sz hk.low.size, hk.blk h.bs (by decide) (by decide), hk.blk h.b2 (by decide) (by decide), hk.blk h.b3 (by decide) (by decide), Marks.kept ds M h.mks (fun k o _ _ ho hc => hk.same k o ho (not_cells_no hc))⟩
theorem CR.skip {q : List Ins} {x : Ins} {W : World} (h : CR ins we B M l Bs B2 B3 A0 c0 n0 A1 c1 l1 J k ds p0 q W) (hx : ¬ x.2.f0 = 31) : CR ins we B M l Bs B2 B3 A0 c0 n0 A1 c1 l1 J k ds p0 (q ++ [x]) W :=
  ⟨by rw [wantP_app, wantP_no hx, List.append_nil]; exact h.j, h.hb, h.sz, h.bs, h.b2, h.b3, h.mks⟩
theorem CR.at {q : List Ins} {W W' : World} (h : CR ins we B M l Bs B2 B3 A0 c0 n0 A1 c1 l1 J k ds p0 q W) (hJ : Stab B J) (hB : B ≤ W.heap.size) (hw : we.heap.size ≤ W.heap.size) (hn : NC W.heap.size W W') : CR ins we B M l Bs B2 B3 A0 c0 n0 A1 c1 l1 J k ds p0 q W' :=
  ⟨hJ _ _ _ h.j (hn.le hB), h.hb.trans (hn.under hw hw), Nat.le_trans h.sz hn.size, hn.same _ _ h.bs (.inr rfl), hn.same _ _ h.b2 (.inr rfl), hn.same _ _ h.b3 (.inr rfl),
    Marks.kept ds M h.mks (fun k o _ hk ho _ => hn.same k o ho (.inl (Nat.lt_of_lt_of_le hk h.sz)))⟩
end
set_option maxRecDepth 100000 in
set_option maxHeartbeats 4000000 in
theorem calls_gives (n : Nat) (hn : 4 ≤ n) (ins : List Int → List Ins) (A0 : Option Addr) (c0 n0 : Nat) (A1 : Option Addr) (c1 : Nat) (l1 : List FnS) (we : World) (h1 : Kd.C k41 we A1 l1.length l1) (hins : ∀ x ∈ l1, ∃ fu, allF 200 x.f2 fu 0 = some (ins x.f2))
    (w : World) (hw : Below we.heap.size we w) (Bs : Nat) (hBs : w.heap[Bs]? = some (.cells #[.slice A0 n0 c0, .slice A1 l1.length c1] 27 (0, 0))) :
    Gives n Try.prog 52 #[.pointer (some ⟨Bs, 0, none⟩)] (fun x : Int × Int => #[.int .i64 x.1, .int .i64 x.2]) we.heap.size (wantGo ins 0 l1) w := by
  intro l J Jx W hW hl hJ hJx hY h0
  have hmx := Kd.C_max h1
  have hbs0 : W.heap[Bs]? = some (.cells #[.slice A0 n0 c0, .slice A1 l1.length c1] 27 (0, 0)) := blk_below hBs hW
  have hbw := below_step hw hW
  have hzw := hbw.size
  have H1 := Aside0.mk h1
  have HINS := Aside0.mk hins
  have HJ := Aside0.mk hJ
  have HJX := Aside0.mk hJx
  have HY := Aside0.mk hY
  have m1 : ∀ o, (W.alloc o).cell? ⟨Bs, 1, none⟩ = some (.slice A1 l1.length c1) := fun o => blk_cell (blk_alloc hbs0 o) 1
  have HCI := Aside0.mk (show CI ins we W.heap.size l Bs W.heap.size A0 c0 n0 A1 c1 l1 J 0 [] (W.alloc (.cells #[.func (.yield l) #[] #[]] 102)) from
    ⟨Nat.zero_le _, ⟨[], rfl, hJ _ _ _ h0 (NC.alloc _ _ _)⟩, below_step hbw (below_alloc (Below.refl _ _) _), by rw [World.size_alloc]; omega, blk_alloc hbs0 _, blk_new W _, trivial⟩)
  have HZW := Aside0.mk hzw
  clear h1 hins hJ hJx hY h0 hw hW hBs hbs0
  have h1n : 1 ≤ n := by omega
  refine callsIn_of_wp_marks Try.func52 rfl trivial ?_ rfl
  simp only [Try.ntmps52, List.size_toArray, List.length_cons, List.length_nil, Nat.reduceAdd, Nat.reduceSub, Array.replicate_succ, Array.replicate_zero, List.push_toArray, List.append_toArray, List.nil_append, List.cons_append]
  gi_wp2
  refine wpIn_loop (fun a V => ∃ (k : Nat) (ds : List Deferred) (u3 u4 u5 u6 u11 u12 u13 u14 u15 u16 u17 u18 u19 u20 u21 u22 u23 u24 u25 u26 u27 u28 u29 u30 u31 : Value),
    a = { tmps := #[.func (.yield l) #[] #[], .pointer (some ⟨Bs, 0, none⟩), .pointer (some ⟨W.heap.size, 0, none⟩), u3, u4, u5, u6, .pointer (some ⟨Bs, 1, none⟩), .slice A1 l1.length c1, .int .i64 l1.length, .int .i64 k, u11, u12, u13, u14, u15, u16, u17, u18, u19, u20, u21, u22, u23, u24, u25, u26, u27, u28, u29, u30, u31], defers := ds } ∧
    CI ins we W.heap.size l Bs W.heap.size A0 c0 n0 A1 c1 l1 J k ds V) (fun a _ => l1.length - (intOf (a.tmps.getD 10 undef)).toNat) ?_ ?_
  · exact ⟨0, [], _, _, _, _, _, _, _, _, _, _, _, _, _, _, _, _, _, _, _, _, _, _, _, _, _, rfl, HCI.out⟩
  rintro _ wr ⟨k, ds, u3, u4, u5, u6, u11, u12, u13, u14, u15, u16, u17, u18, u19, u20, u21, u22, u23, u24, u25, u26, u27, u28, u29, u30, u31, rfl, hci⟩
  have HC := Aside0.mk hci
  have hkl := hci.le
  have hzr := hci.sz
  by_cases hlt : k < l1.length
  · obtain ⟨ad, A2, c2, hA1, a1, a2, a3, hl2, hC2⟩ := at_T41 H1.out (k : Int) (by omega) (by omega)
    subst hA1
    have hx : rd_T41 l1 (k : Int) = l1[k] := by
      unfold rd_T41
      rw [Int.toNat_natCast, List.getD_eq_getElem?_getD, List.getElem?_eq_getElem hlt]
      rfl
    rw [hx] at a1 a2 a3 hl2 hC2
    simp only [Int.toNat_natCast] at a1 a2 a3
    obtain ⟨x, hxx⟩ : ∃ x, l1[k] = x := ⟨_, rfl⟩
    rw [hxx] at a1 a2 a3 hl2 hC2
    have b1 := pw_cell_below hci.hb a1
    have b2 := pw_cell_below hci.hb a2
    have b3 := pw_cell_below hci.hb a3
    obtain ⟨fu, hfu⟩ := HINS.out x (by rw [← hxx]; exact List.getElem_mem hlt)
    have HX := Aside0.mk hxx
    have HFU := Aside0.mk hfu
    have HC2 := Aside0.mk hC2
    have HL2 := Aside0.mk hl2
    clear hci hx hxx hfu hC2 hl2 a1 a2 a3
    gi_wp2_with (refine ⟨trivial, ?_⟩; gi_at_call 39; refine (all_in _ A2 x.f2.length c2 _).mono ?_; rintro e w3 ⟨rfl, rfl⟩)
    obtain ⟨W6, hW6⟩ : ∃ W6, ((wr.alloc (.cells #[.int .i64 (k : Int)] 3)).alloc (.cells #[.int .i64 x.f0, .int .i64 x.f1, .slice A2 x.f2.length c2] 41)).alloc (.cells #[.slice A2 x.f2.length c2] 22) = W6 := ⟨_, rfl⟩
    have hb6 : Below wr.heap.size wr W6 := by rw [← hW6]; exact below_alloc (below_alloc (below_alloc (Below.refl _ _) _) _) _
    have h63 : W6.heap[wr.heap.size]? = some (.cells #[.int .i64 (k : Int)] 3 (0, 0)) := by rw [← hW6]; exact blk_alloc (blk_alloc (blk_new wr _) _) _
    have h6x : W6.heap[wr.heap.size + 1 + 1]? = some (.cells #[.slice A2 x.f2.length c2] 22 (0, 0)) := by
      rw [← hW6]
      have h := blk_new ((wr.alloc (.cells #[.int .i64 (k : Int)] 3)).alloc (.cells #[.int .i64 x.f0, .int .i64 x.f1, .slice A2 x.f2.length c2] 41)) (.cells #[.slice A2 x.f2.length c2] 22)
      rw [World.size_alloc, World.size_alloc] at h
      exact h
    rw [hW6]
    clear hW6
    obtain ⟨p0, hp0, hj0⟩ := HC.out.j
    have hdr : l1.drop k = x :: l1.drop (k + 1) := by rw [← List.getElem_cons_drop hlt, HX.out]
    rw [hdr, wantGo] at hp0
    have HP0 := Aside0.mk hp0
    have hw6 := hb6.size
    have HCR := Aside0.mk (show CR ins we W.heap.size W6.heap.size l Bs W.heap.size wr.heap.size A0 c0 n0 (some ad) c1 l1 J k ds p0 [] W6 from
      ⟨HJ.out _ _ _ (by rw [show wantP k [] = [] from rfl, List.append_nil]; exact hj0) (NC.below _ hb6), below_step HC.out.hb hb6, Nat.le_refl _, blk_below HC.out.bs hb6, blk_below HC.out.b2 hb6, h63,
        Marks.up ds _ _ (Marks.kept ds _ HC.out.mks (fun j o _ hj ho _ => (hb6.block j hj).trans ho)) hw6⟩)
    have HZ6 := Aside0.mk (show we.heap.size ≤ W6.heap.size by omega)
    have hB6 : W.heap.size ≤ W6.heap.size := by omega
    clear hp0 hj0 hdr
    refine range_gives (n := n) (gf := 68) (lb := #[.pointer (some ⟨wr.heap.size + 1 + 1, 0, none⟩)]) rfl (enters_of Try.func68 (by kernel_rfl) rfl) (encs := fun x : Ins => #[.int .i64 x.1, .agg #[.int .i64 x.2.f0, .int .i64 x.2.f1]]) (fun _ => rfl) (n0 := we.heap.size) HZ6.out (ins x.f2)
      (all_gives (n - 1) (by omega) (wr.heap.size + 1 + 1) 200 fu x.f2 A2 c2 HL2.out _ HFU.out we HC2.out W6 HCR.out.hb h6x)
      (CR ins we W.heap.size W6.heap.size l Bs W.heap.size wr.heap.size A0 c0 n0 (some ad) c1 l1 J k ds p0) (fun _ V => (∃ pre, pre <+: wantGo ins 0 l1 ∧ Jx pre V) ∧ Marks W.heap.size W6.heap.size ds V)
      (CR.stab HJ.out hB6 HZ6.out) (fun q X Y h hn => ⟨h.1.elim (fun pre hp => ⟨pre, hp.1, HJX.out _ _ _ hp.2 (hn.le hB6)⟩), Marks.kept ds _ h.2 (fun j o _ hj ho _ => hn.same j o ho (.inl hj))⟩) HCR.out .ret
      (fun (y : Ins) (a' : Act) (V : World) => ∃ B6, V.heap[B6]? = some (.cells #[.int .i64 y.2.f0, .int .i64 y.2.f1] 47 (0, 0)) ∧ a' = { tmps := #[.func (.yield l) #[] #[], .pointer (some ⟨Bs, 0, none⟩), .pointer (some ⟨W.heap.size, 0, none⟩), .pointer (some ⟨wr.heap.size, 0, none⟩), .pointer (some ⟨wr.heap.size + 1, 0, none⟩), u5, .pointer (some ⟨B6, 0, none⟩), .pointer (some ⟨Bs, 1, none⟩), .slice (some ad) l1.length c1, .int .i64 l1.length, .int .i64 k, .bool true, .int .i64 k, .pointer (some (ad.add (k * 3))), .agg #[.int .i64 x.f0, .int .i64 x.f1, .slice A2 x.f2.length c2], .pointer (some ⟨wr.heap.size + 1, 2, none⟩), .slice A2 x.f2.length c2, .func (.func 68) #[] #[.pointer (some ⟨wr.heap.size + 1 + 1, 0, none⟩)], .int .i64 y.1, .agg #[.int .i64 y.2.f0, .int .i64 y.2.f1], u20, u21, u22, u23, u24, u25, u26, u27, u28, u29, u30, u31], defers := [] })
      (fun y a' u X Y h hn => h.elim (fun B6 hb => ⟨B6, hn.same B6 (.cells #[.int .i64 y.2.f0, .int .i64 y.2.f1] 47 (0, 0)) hb.1 (.inr rfl), hb.2⟩)) ?assign ?body ?done ?stop
    case assign =>
      intro l' q y V K hI hK
      gi_wp2
      refine hK _ _ ⟨(Below.refl we.heap.size V).alloc (Nat.le_trans HZ6.out hI.sz) _, fun j o ho _ => (Below.heap_alloc _ _ _ (Array.getElem?_eq_some_iff.1 ho).1).trans ho⟩ ?_ ⟨V.heap.size, blk_new V _, rfl⟩
      exact CR.at hI HJ.out (Nat.le_trans hB6 hI.sz) (Nat.le_trans HZ6.out hI.sz) (NC.alloc _ _ _)
    case body =>
      rintro l' q y a' V hI ⟨B6, h6, rfl⟩ ⟨r, hr⟩
      have v2 : V.cell? ⟨W.heap.size, 0, none⟩ = some (.func (.yield l) #[] #[]) := blk_cell hI.b2 0
      have v3 : V.cell? ⟨wr.heap.size, 0, none⟩ = some (.int .i64 k) := blk_cell hI.b3 0
      have v60 : V.cell? ⟨B6, 0, none⟩ = some (.int .i64 y.2.f0) := blk_cell h6 0
      have v61 : V.cell? ⟨B6, 1, none⟩ = some (.int .i64 y.2.f1) := blk_cell h6 1
      by_cases h31 : y.2.f0 = 31
      · have h31' : (y.2.f0 == 31) = true := by simpa using h31
        have hwn : wantGo ins 0 l1 = (p0 ++ wantP k q) ++ ((k : Int), y.2.f1) :: (wantP k r ++ wantGo ins (k + 1) (l1.drop (k + 1))) := by
          rw [HP0.out, hr, show q ++ y :: r = q ++ ([y] ++ r) from rfl, wantP_app, wantP_app, wantP_one h31]
          simp only [List.append_assoc, List.cons_append, List.nil_append]
        obtain ⟨fn, tmps, assign, body, hy, hR⟩ := YieldAt.any rfl (n - 1 - 1) (HY.out (p0 ++ wantP k q) ((k : Int), y.2.f1) V hI.j ⟨_, hwn⟩)
        dsimp only at hy
        have HI := Aside0.mk hI
        have H31 := Aside0.mk h31
        have HWN := Aside0.mk hwn
        clear hI h31 h6 hr hwn
        gi_wp2
        refine ⟨(fun h => by cases h), ?_⟩
        have hR' : RoundIn (Fence.wide.inRound l') (n - 1 - 1 - 1) Try.prog l fn tmps assign body V _ := RoundIn.any (F := Fence.wide) rfl hR
        refine RoundIn.mono hR' ?_
        rintro e V2 (⟨rfl, hj, hk⟩ | ⟨rfl, hj, hk⟩)
        · have HK := Aside0.mk (And.intro hj hk)
          clear hj hk hy hR hR'
          gi_wp2
          exact ⟨HK.out.2, CR.put HI.out HK.out.2 (by rw [wantP_app, wantP_one H31.out, ← List.append_assoc]; exact HK.out.1)⟩
        · have HK := Aside0.mk (And.intro hj hk)
          clear hj hk hy hR hR'
          gi_wp2
          exact ⟨rfl, ⟨HK.out.2.size, fun j o hj ho hc => HK.out.2.same j o (by omega) ho hc⟩, ⟨_, ⟨wantP k r ++ wantGo ins (k + 1) (l1.drop (k + 1)), by rw [HWN.out]; simp only [List.append_assoc, List.cons_append, List.nil_append]⟩, HK.out.1⟩, Marks.kept ds _ HI.out.mks (fun j o hj _ ho hc => HK.out.2.same j o hj ho hc)⟩
      · have h31' : (y.2.f0 == 31) = false := by simpa using h31
        have HI := Aside0.mk hI
        have H31 := Aside0.mk h31
        clear hI h31 h6 hr
        gi_wp2
        refine ⟨fun _ h => (by cases h), ?_⟩
        gi_wp2
        exact ⟨KP.refl _ _, CR.skip HI.out H31.out⟩
    case done =>
      rintro D V hD hI hK
      have HI := Aside0.mk hI
      have HD := Aside0.mk hD
      have HK := Aside0.mk hK
      clear hI hD hK
      gi_wp2
      have hDl : D < V.heap.size := (Array.getElem?_eq_some_iff.1 HK.out).1
      refine ⟨⟨k + 1, _, _, _, _, _, _, _, _, _, _, _, _, _, _, _, _, _, _, _, _, _, _, _, _, _, _, rfl, ?_⟩, ?_⟩
      · exact ⟨by omega, ⟨p0 ++ wantP k (ins x.f2), by rw [HP0.out, List.append_assoc], HI.out.j⟩, HI.out.hb, Nat.le_trans hB6 HI.out.sz, HI.out.bs, HI.out.b2, D, rfl, by have := HD.out; omega, hDl, HK.out, Marks.up ds _ _ HI.out.mks HD.out⟩
      · simp [intOf]; omega
    case stop =>
      rintro D q V hD hq ⟨⟨pre, hpre, hjx⟩, hmk⟩ hK
      have HS := Aside0.mk (And.intro hpre (And.intro hjx (And.intro hmk (And.intro hD hK))))
      clear hD hq hpre hjx hmk hK
      gi_wp2
      obtain ⟨hpre, hjx, hmk, hD, hK⟩ := HS.out
      refine Marks.leave (B := W.heap.size) _ (D + 1) V ⟨D, rfl, by omega, by omega, hK, Marks.up ds _ _ hmk hD⟩ ?_
      intro W' hn
      refine ⟨.tuple #[], ?_, ⟨_, rfl⟩, .inr ⟨pre, hpre, HJX.out _ _ _ hjx hn⟩⟩
      simp [results, Try.f52, go_sem]
  · have hkk : k = l1.length := by omega
    obtain ⟨p0, hp0, hj0⟩ := HC.out.j
    have HPJ := Aside0.mk (And.intro hp0 hj0)
    clear hci hp0 hj0
    gi_wp2
    obtain ⟨hp0, hj0⟩ := HPJ.out
    have hwe : wantGo ins 0 l1 = p0 := by rw [hp0, List.drop_of_length_le (by omega), wantGo, List.append_nil]
    refine Marks.leave (B := W.heap.size) _ _ wr HC.out.mks ?_
    intro W' hn
    refine ⟨.tuple #[], ?_, ⟨_, rfl⟩, .inl (by rw [hwe]; exact HJ.out _ _ _ hj0 hn)⟩
    simp [results, Try.f52, go_sem]
end Go.Proofs.Ytjkjpmfenillcaa.P
/- The law's 'calls': what is gone over, up to some; no statement of the seat. -/
set_option linter.unusedVariables false
set_option linter.unusedSimpArgs false
namespace Go.Proofs.Ytjkjpmfenillcaa.P
open Go.RowKit Go.Shelf Go.Proofs.YtjkjpmfenillcaaW.PrintWords Go.Proofs.YtjkjpmfenillcaaW.PrintLast Go.Proofs.YtjkjpmfenillcaaW.PrintMore
attribute [local go_sem] Oper.semAt_some
abbrev kI2 : Kd (Int × Int) := Kd.pair (Kd.int .i64) (Kd.int .i64)
/-- What comes: all, or the first of them. -/
def resC (xs : List (Int × Int)) (most : Int) : List (Int × Int) := if 1 ≤ most ∧ most ≤ (xs.length : Int) then xs.take most.toNat else xs
structure CO (w : World) (Bo B3 : Nat) (most : Int) (xs : List (Int × Int)) (pre : List (Int × Int)) (v : Value) (V : World) : Prop where
  bo : V.heap[Bo]? = some (.cells #[v] 45 (0, 0))
  b3 : V.heap[B3]? = some (.cells #[.int .i64 most] 3 (0, 0))
  rp : Kd.R kI2 48 V (Bo + 1) (fun _ => True) v pre
  lo : w.heap.size ≤ Bo
  hb : Below w.heap.size w V
  le : pre.length ≤ xs.length
def COI (w : World) (Bo B3 : Nat) (most : Int) (xs : List (Int × Int)) (pre : List (Int × Int)) (V : World) : Prop := ∃ v, CO w Bo B3 most xs pre v V ∧ ¬ (1 ≤ most ∧ most ≤ (pre.length : Int))
def COX (w : World) (Bo B3 : Nat) (most : Int) (xs : List (Int × Int)) (pre : List (Int × Int)) (V : World) : Prop := ∃ v, CO w Bo B3 most xs pre v V ∧ (pre.length : Int) = most ∧ 1 ≤ most
theorem CO.nc {w : World} {Bo B3 : Nat} {most : Int} {xs pre : List (Int × Int)} {v : Value} {B : Nat} {X Y : World} (h : CO w Bo B3 most xs pre v X) (hn : NC B X Y) (hB : w.heap.size ≤ B) : CO w Bo B3 most xs pre v Y := by
  refine ⟨hn.same _ _ h.bo (.inr rfl), hn.same _ _ h.b3 (.inr rfl), ?_, h.lo, h.hb.trans (hn.under hB h.hb.size), h.le⟩
  exact Kd.R_mono (Kd.R_step (Kd.R_bound h.rp) (fun k hk hlt => by obtain ⟨_, _, _, q, _, cs, hc⟩ := hk; exact (hn.same _ _ hc (.inr rfl)).trans hc.symm)) (fun _ hk => hk.1)
/-- One pair more. -/
theorem CO.out_step {w V w4 : World} {Bo B3 : Nat} {most : Int} {xs pre : List (Int × Int)} {v v' : Value} {y : Int × Int} (h : CO w Bo B3 most xs pre v V)
    (hty : ∀ k, v.ownBlock = some k → Bo + 1 ≤ k ∧ k < (V.alloc (.cells #[.int .i64 y.1, .int .i64 y.2] 48)).heap.size ∧ ∃ cs, (V.alloc (.cells #[.int .i64 y.1, .int .i64 y.2] 48)).heap[k]? = some (.cells cs 48 (0, 0)))
    (hR : Kd.R kI2 48 w4 (Bo + 1) (fun _ => True) v' (pre ++ [y])) (hg : (V.alloc (.cells #[.int .i64 y.1, .int .i64 y.2] 48)).grownBy w4 v.ownBlock) (hp : w4.heap[Bo]? = some (.cells #[v] 45 (0, 0))) (hq : w4.heap[B3]? = some (.cells #[.int .i64 most] 3 (0, 0))) (hl : pre.length + 1 ≤ xs.length) :
    KP w.heap.size V (w4.setCell ⟨Bo, 0, none⟩ v') ∧ CO w Bo B3 most xs (pre ++ [y]) v' (w4.setCell ⟨Bo, 0, none⟩ v') := by
  have h1 := h.lo
  have hbo := blk_lt h.bo
  have hne : B3 ≠ Bo := by
    intro e
    have e1 := h.b3
    rw [e, h.bo] at e1
    cases e1
  have hbw : Below w.heap.size V (w4.setCell ⟨Bo, 0, none⟩ v') := (((Below.refl w.heap.size V).alloc h.hb.size _).grown hg (by rw [World.size_alloc]; have := h.hb.size; omega) (fun r e => by have := (hty r e).1; omega)).setCell (p := ⟨Bo, 0, none⟩) h1 _
  refine ⟨⟨hbw, fun k o hk hc => ?_⟩, blk_set hp 0 v', blk_far hq (p := ⟨Bo, 0, none⟩) hne v', ?_, h1, h.hb.trans hbw, by rw [List.length_append, List.length_singleton]; exact hl⟩
  · have hk1 : (V.alloc (.cells #[.int .i64 y.1, .int .i64 y.2] 48)).heap[k]? = some o := blk_alloc hk _
    have hkr : some k ≠ v.ownBlock := fun e => by
      obtain ⟨_, _, cs, h2⟩ := hty k e.symm
      rw [hk1] at h2
      cases h2
      exact (hc _ _).2 rfl
    have hkb : k ≠ Bo := fun e => by
      rw [e, h.bo] at hk
      cases hk
      exact (hc _ _).1 rfl
    exact (Below.heap_setCell w4 ⟨Bo, 0, none⟩ _ k hkb).trans ((hg.block k (Array.getElem?_eq_some_iff.1 hk1).1 hkr).trans hk1)
  · exact R_late hR (fun k hk _ => Below.heap_setCell w4 _ _ k (by show k ≠ Bo; omega))
set_option maxRecDepth 100000 in
set_option maxHeartbeats 4000000 in
theorem lcalls_run (ins : List Int → List Ins) (A0 : Option Addr) (n0 c0 : Nat) (A1 : Option Addr) (c1 : Nat) (l1 : List FnS) (most : Int) (w : World) (h1 : Kd.C k41 w A1 l1.length l1) (hins : ∀ x ∈ l1, ∃ fu, allF 200 x.f2 fu 0 = some (ins x.f2)) (hlen : (wantGo ins 0 l1).length ≤ 8796093022206) :
    Calls Try.prog 19 #[.agg #[.slice A0 n0 c0, .slice A1 l1.length c1], .int .i64 most] w fun e w' => ∃ v : Value, e = .returned (.tuple #[v, .bool true]) ∧ Kd.R kI2 48 w' w.heap.size (fun _ => True) v (resC (wantGo ins 0 l1) most) ∧ Below w.heap.size w w' := by
  obtain ⟨xs, hxs⟩ : ∃ xs, wantGo ins 0 l1 = xs := ⟨_, rfl⟩
  rw [hxs] at hlen ⊢
  have HXS := Aside0.mk hxs
  have HLEN := Aside0.mk hlen
  have H1 := Aside0.mk h1
  have HINS := Aside0.mk hins
  have hnil : ∀ (b : Nat) (W : World), (binOp .eql 59 (.func (.func 52) #[] #[.pointer (some ⟨b, 0, none⟩)]) .nilFunc).run Try.prog W = .ok (.bool false) W := fun _ _ => by kernel_rfl
  clear h1 hins hlen hxs
  refine (callsIn_wide (n := 8)).1 ?_
  refine callsIn_of_wp_marks Try.func19 rfl trivial ?_ rfl
  simp only [Try.ntmps19, List.size_toArray, List.length_cons, List.length_nil, Nat.reduceAdd, Nat.reduceSub, Array.replicate_succ, Array.replicate_zero, List.push_toArray, List.append_toArray, List.nil_append, List.cons_append]
  refine wpIn_wide.2 ?_
  go_wp2_with fail
  refine (calls_run A0 c0 n0 A1 c1 l1.length _).mono ?_
  rintro e w2 ⟨rfl, rfl⟩
  go_wp2_with fail
  obtain ⟨W6, hW6⟩ : ∃ W6, ((((w.alloc (.cells #[.slice A0 n0 c0, .slice A1 l1.length c1] 27)).alloc (.cells #[.int .i64 most] 3)).alloc (.cells #[.slice A0 n0 c0, .slice A1 l1.length c1] 27)).alloc (.cells #[.slice none 0 0] 45)) = W6 := ⟨_, rfl⟩
  have hb6 : Below w.heap.size w W6 := by rw [← hW6]; exact below_alloc (below_alloc (below_alloc (below_alloc (Below.refl _ _) _) _) _) _
  have hz6 : W6.heap.size = w.heap.size + 4 := by rw [← hW6]; simp only [World.size_alloc]
  have h63 : W6.heap[w.heap.size + 1]? = some (.cells #[.int .i64 most] 3 (0, 0)) := by
    rw [← hW6]
    have h := blk_new (w.alloc (.cells #[.slice A0 n0 c0, .slice A1 l1.length c1] 27)) (.cells #[.int .i64 most] 3)
    rw [World.size_alloc] at h
    exact blk_alloc (blk_alloc h _) _
  have h6s : W6.heap[w.heap.size + 1 + 1]? = some (.cells #[.slice A0 n0 c0, .slice A1 l1.length c1] 27 (0, 0)) := by
    rw [← hW6]
    have h := blk_new ((w.alloc (.cells #[.slice A0 n0 c0, .slice A1 l1.length c1] 27)).alloc (.cells #[.int .i64 most] 3)) (.cells #[.slice A0 n0 c0, .slice A1 l1.length c1] 27)
    rw [World.size_alloc, World.size_alloc] at h
    exact blk_alloc h _
  have h6o : W6.heap[w.heap.size + 1 + 1 + 1]? = some (.cells #[.slice none 0 0] 45 (0, 0)) := by
    rw [← hW6]
    have h := blk_new (((w.alloc (.cells #[.slice A0 n0 c0, .slice A1 l1.length c1] 27)).alloc (.cells #[.int .i64 most] 3)).alloc (.cells #[.slice A0 n0 c0, .slice A1 l1.length c1] 27)) (.cells #[.slice none 0 0] 45)
    rw [World.size_alloc, World.size_alloc, World.size_alloc] at h
    exact h
  rw [hW6]
  clear hW6
  have hgv := calls_gives (8 - 1) (by decide) ins A0 c0 n0 A1 c1 l1 w H1.out HINS.out W6 hb6 (w.heap.size + 1 + 1) h6s
  rw [HXS.out] at hgv
  have HGV := Aside0.mk hgv
  have hw6 : w.heap.size ≤ W6.heap.size := by omega
  have HZ6 := Aside0.mk hz6
  have HCO := Aside0.mk (show CO w (w.heap.size + 1 + 1 + 1) (w.heap.size + 1) most xs [] (.slice none 0 0) W6 from ⟨h6o, h63, Kd.R_nil _ _ _ _ _, by omega, hb6, Nat.zero_le _⟩)
  clear hgv hz6 h6o h63 h6s hb6
  refine (wpIn_wide (n := 8)).1 ?_
  refine range_gives (n := 8) (gf := 52) (lb := #[.pointer (some ⟨w.heap.size + 1 + 1, 0, none⟩)]) rfl (enters_of Try.func52 (by kernel_rfl) rfl) (encs := fun x : Int × Int => #[.int .i64 x.1, .int .i64 x.2]) (fun _ => rfl) (n0 := w.heap.size) hw6 xs HGV.out
    (COI w (w.heap.size + 1 + 1 + 1) (w.heap.size + 1) most xs) (COX w (w.heap.size + 1 + 1 + 1) (w.heap.size + 1) most xs)
    (fun p X Y h hn => h.elim (fun v hv => ⟨v, hv.1.nc hn hw6, hv.2⟩)) (fun p X Y h hn => h.elim (fun v hv => ⟨v, hv.1.nc hn hw6, hv.2⟩)) ⟨_, HCO.out, by simp; omega⟩ (.exit 0)
    (fun (y : Int × Int) (a' : Act) (V : World) => a' = { tmps := #[.agg #[.slice A0 n0 c0, .slice A1 l1.length c1], .int .i64 most, .pointer (some ⟨w.heap.size, 0, none⟩), .pointer (some ⟨w.heap.size + 1, 0, none⟩), .slice none 0 0, .bool false, .func (.func 52) #[] #[.pointer (some ⟨w.heap.size + 1 + 1, 0, none⟩)], .pointer (some ⟨w.heap.size + 1 + 1 + 1, 0, none⟩), .int .i64 y.1, .int .i64 y.2, .agg #[.slice A0 n0 c0, .slice A1 l1.length c1], .func (.func 52) #[] #[.pointer (some ⟨w.heap.size + 1 + 1, 0, none⟩)], .func (.func 52) #[] #[.pointer (some ⟨w.heap.size + 1 + 1, 0, none⟩)], .bool false, .func (.func 52) #[] #[.pointer (some ⟨w.heap.size + 1 + 1, 0, none⟩)], .int .i64 y.1, .int .i64 y.2, undef, undef, undef, undef, undef, undef, undef, undef, undef, undef, undef], defers := [] })
    (fun y a' u X Y h hn => h) ?assign ?body ?done ?stop
  case assign =>
    intro l' q y V K hI hK
    gi_wp2
    exact hK _ _ (KP.refl _ _) hI rfl
  case body =>
    rintro l' pre y a' V ⟨v, hco, hno⟩ rfl ⟨r, hr⟩
    have hpl : pre.length + 1 ≤ xs.length := by rw [hr, List.length_append, List.length_cons]; omega
    obtain ⟨Av, cv, hv⟩ := Kd.R_slice hco.rp
    have b0 : V.cell? ⟨w.heap.size + 1 + 1 + 1, 0, none⟩ = some v := blk_cell hco.bo 0
    have hlo := blk_lt hco.bo
    obtain ⟨i0, hi0, hi1, hi2, hi3⟩ := info_parts (show (Try.prog.info? 48).map (fun i => (i.zero, i.size, i.bytes)) = some (some (.agg #[.int .i64 0, .int .i64 0]), 2, 16) by kernel_rfl)
    have hty := R_own_ty (Kd.R_alloc hco.rp (.cells #[.int .i64 y.1, .int .i64 y.2] 48))
    obtain ⟨hk0, inner, hown, hreps⟩ := Kd.R_alloc hco.rp (.cells #[.int .i64 y.1, .int .i64 y.2] 48)
    have HCO := Aside0.mk hco
    have HK0 := Aside0.mk hk0
    have HREPS := Aside0.mk hreps
    have HOWN := Aside0.mk hown
    have HI := Aside0.mk hi0
    have HI1 := Aside0.mk hi1
    have HI2 := Aside0.mk hi2
    have HI3 := Aside0.mk hi3
    have HTY := Aside0.mk hty
    have HPL := Aside0.mk hpl
    have HR := Aside0.mk hr
    have HNO := Aside0.mk hno
    clear hco hk0 hreps hown hi0 hi1 hi2 hi3 hty hpl hr hno
    have t1 : pre.length + 1 ≤ maxLen := by have := HPL.out; have := HLEN.out; simp [maxLen]; omega
    have t2 : (pre.length + 1) * 16 ≤ 140737488355328 := by have := HPL.out; have := HLEN.out; omega
    have t3 : w.heap.size + 1 + 1 + 1 + 1 ≤ (V.alloc (.cells #[.int .i64 y.1, .int .i64 y.2] 48)).heap.size := by rw [World.size_alloc]; omega
    have t4 : ∀ u ∈ [Value.int .i64 y.1, Value.int .i64 y.2], u.oneCell' = true := by simp [Value.oneCell']
    have t5 : ∀ j u, [Value.int .i64 y.1, Value.int .i64 y.2][j]? = some u → (V.alloc (.cells #[.int .i64 y.1, .int .i64 y.2] 48)).cell? ((⟨V.heap.size, 0, none⟩ : Addr).add j) = some u := by
      intro j u hj
      have hn := blk_new V (.cells #[.int .i64 y.1, .int .i64 y.2] 48)
      match j, hj with
      | 0, hj => simp at hj; subst hj; exact blk_cell hn 0
      | 1, hj => simp at hj; subst hj; exact blk_cell hn 1
    have b3 : V.cell? ⟨w.heap.size + 1, 0, none⟩ = some (.int .i64 most) := blk_cell HCO.out.b3 0
    subst hv
    have HLO := Aside0.mk (show w.heap.size + 1 + 1 + 1 < V.heap.size from hlo)
    by_cases he : (pre.length : Int) + 1 = most
    · have he2 : ((pre.length : Int) + 1 == most) = true := by simpa using he
      have HE := Aside0.mk he
      clear he hlo
      gi_wp2_with (gi_at_builtin; go_loud (refine wpListIn_append_own_at _ rfl _ _ 45 rfl (w.heap.size + 1 + 1 + 1 + 1) 48 i0 (.agg #[.int .i64 0, .int .i64 0]) 2 16 Try.underlying45 HI.out HI1.out HI2.out HI3.out rfl (by decide) (.slice Av pre.length cv) _ inner rfl HOWN.out ⟨V.heap.size, 0, none⟩ 1 1 [.int .i64 y.1, .int .i64 y.2] rfl rfl t5 t4 t1 t2 t3 ?_; intro v' w4 hown' hg _ hat; have hat' : v'.ownBlock = (Value.slice Av pre.length cv).ownBlock ∨ ∃ b, v'.ownBlock = some b ∧ (V.alloc (.cells #[.int .i64 y.1, .int .i64 y.2] 48)).heap.size ≤ b := (hat.elim .inl (fun e => .inr ⟨_, e, Nat.le_refl _⟩)); have hR1 := Kd.R_appended (d := kI2) (okp := fun _ => False) HK0.out HREPS.out (show kI2.M (V.alloc (.cells #[.int .i64 y.1, .int .i64 y.2] 48)) (w.heap.size + 1 + 1 + 1 + 1) (fun _ => False) y [.int .i64 y.1, .int .i64 y.2] from ⟨[_], [_], rfl, rfl, rfl⟩) (fun _ hk => hk.elim) (fun _ _ => trivial) hown' hg hat'; obtain ⟨g', cap', hv'⟩ := ownsRow_succ hown'; subst hv'; have hp4 := blk_other (fun r e => (HTY.out r e).2.2) hg (blk_alloc HCO.out.bo (.cells #[.int .i64 y.1, .int .i64 y.2] 48)) (by decide); have hq4 := blk_other (fun r e => (HTY.out r e).2.2) hg (blk_alloc HCO.out.b3 (.cells #[.int .i64 y.1, .int .i64 y.2] 48)) (by decide); have z0 := blk_cell hp4 0; have y0 := blk_frozen hp4 0; have z3 : w4.cell? ⟨w.heap.size + 1, 0, none⟩ = some (.int .i64 most) := blk_cell hq4 0; have HX := Aside0.mk (And.intro hR1 (And.intro hg (And.intro hp4 hq4))); clear hown' hg hat hat' hR1 hp4 hq4))
      obtain ⟨hR1, hg, hp4, hq4⟩ := HX.out
      have hst := CO.out_step HCO.out HTY.out hR1 hg hp4 hq4 HPL.out
      exact ⟨rfl, hst.1.from _, _, hst.2, by rw [List.length_append, List.length_singleton]; have := HE.out; omega, by have := HE.out; omega⟩
    · have he2 : ((pre.length : Int) + 1 == most) = false := by simpa using he
      have HE := Aside0.mk he
      clear he hlo
      gi_wp2_with (gi_at_builtin; go_loud (refine wpListIn_append_own_at _ rfl _ _ 45 rfl (w.heap.size + 1 + 1 + 1 + 1) 48 i0 (.agg #[.int .i64 0, .int .i64 0]) 2 16 Try.underlying45 HI.out HI1.out HI2.out HI3.out rfl (by decide) (.slice Av pre.length cv) _ inner rfl HOWN.out ⟨V.heap.size, 0, none⟩ 1 1 [.int .i64 y.1, .int .i64 y.2] rfl rfl t5 t4 t1 t2 t3 ?_; intro v' w4 hown' hg _ hat; have hat' : v'.ownBlock = (Value.slice Av pre.length cv).ownBlock ∨ ∃ b, v'.ownBlock = some b ∧ (V.alloc (.cells #[.int .i64 y.1, .int .i64 y.2] 48)).heap.size ≤ b := (hat.elim .inl (fun e => .inr ⟨_, e, Nat.le_refl _⟩)); have hR1 := Kd.R_appended (d := kI2) (okp := fun _ => False) HK0.out HREPS.out (show kI2.M (V.alloc (.cells #[.int .i64 y.1, .int .i64 y.2] 48)) (w.heap.size + 1 + 1 + 1 + 1) (fun _ => False) y [.int .i64 y.1, .int .i64 y.2] from ⟨[_], [_], rfl, rfl, rfl⟩) (fun _ hk => hk.elim) (fun _ _ => trivial) hown' hg hat'; obtain ⟨g', cap', hv'⟩ := ownsRow_succ hown'; subst hv'; have hp4 := blk_other (fun r e => (HTY.out r e).2.2) hg (blk_alloc HCO.out.bo (.cells #[.int .i64 y.1, .int .i64 y.2] 48)) (by decide); have hq4 := blk_other (fun r e => (HTY.out r e).2.2) hg (blk_alloc HCO.out.b3 (.cells #[.int .i64 y.1, .int .i64 y.2] 48)) (by decide); have z0 := blk_cell hp4 0; have y0 := blk_frozen hp4 0; have z3 : w4.cell? ⟨w.heap.size + 1, 0, none⟩ = some (.int .i64 most) := blk_cell hq4 0; have HX := Aside0.mk (And.intro hR1 (And.intro hg (And.intro hp4 hq4))); clear hown' hg hat hat' hR1 hp4 hq4))
      obtain ⟨hR1, hg, hp4, hq4⟩ := HX.out
      have hst := CO.out_step HCO.out HTY.out hR1 hg hp4 hq4 HPL.out
      exact ⟨hst.1, _, hst.2, by rw [List.length_append, List.length_singleton]; have := HE.out; have := HNO.out; omega⟩
  case done =>
    rintro D V hD ⟨v, hco, hno⟩ hK
    obtain ⟨Av, cv, hv⟩ := Kd.R_slice hco.rp
    subst hv
    have b0 : V.cell? ⟨w.heap.size + 1 + 1 + 1, 0, none⟩ = some (.slice Av xs.length cv) := blk_cell hco.bo 0
    have HC := Aside0.mk (And.intro hco (And.intro hno (And.intro hD hK)))
    clear hco hno hD hK
    gi_wp2
    go_wp2_with fail
    obtain ⟨hco, hno, hD, hK⟩ := HC.out
    have hn : NC w.heap.size V (V.putObj D (.deferred none)) := NC.putObj _ (by omega) hK rfl
    refine ⟨by simp, .inl ⟨_, _, rfl, run_takeDeferred hK, ?_⟩⟩
    refine ⟨.tuple #[.slice Av xs.length cv, .bool true], ?_, _, rfl, ?_, (hco.nc hn (Nat.le_refl _)).hb⟩
    · simp [results, Try.f19, go_sem]
    · rw [show resC xs most = xs from if_neg hno]
      exact Kd.R_lower (hco.nc hn (Nat.le_refl _)).rp (by omega)
  case stop =>
    rintro D pre V hD hpre ⟨v, hco, hl, hm⟩ hK
    obtain ⟨Av, cv, hv⟩ := Kd.R_slice hco.rp
    subst hv
    have b0 : V.cell? ⟨w.heap.size + 1 + 1 + 1, 0, none⟩ = some (.slice Av pre.length cv) := blk_cell hco.bo 0
    have HC := Aside0.mk (And.intro hco (And.intro hpre (And.intro hl (And.intro hm (And.intro hD hK)))))
    clear hco hpre hl hm hD hK
    gi_wp2
    go_wp2_with fail
    obtain ⟨hco, hpre, hl, hm, hD, hK⟩ := HC.out
    have hn : NC w.heap.size V (V.putObj D (.deferred none)) := NC.putObj _ (by omega) hK rfl
    refine ⟨by simp, .inl ⟨_, _, rfl, run_takeDeferred hK, ?_⟩⟩
    refine ⟨.tuple #[.slice Av pre.length cv, .bool true], ?_, _, rfl, ?_, (hco.nc hn (Nat.le_refl _)).hb⟩
    · simp [results, Try.f19, go_sem]
    · rw [show resC xs most = pre from (by
        have h1 := hco.le
        unfold resC
        rw [if_pos ⟨hm, by omega⟩, show most.toNat = pre.length by omega]
        exact (List.prefix_iff_eq_take.1 hpre).symm)]
      exact Kd.R_lower (hco.nc hn (Nat.le_refl _)).rp (by omega)
end Go.Proofs.Ytjkjpmfenillcaa.P
/- Where instructions begin, and which calls there are: plain; no statement of the seat. -/
set_option linter.unusedVariables false
set_option linter.unusedSimpArgs false
namespace Go.Proofs.Ytjkjpmfenillcaa.P
open Go.RowKit Go.Proofs.YtjkjpmfenillcaaW.PrintWords Go.Proofs.YtjkjpmfenillcaaW.PrintLast Go.Proofs.YtjkjpmfenillcaaW.PrintMore
def insB (b : List Int) : List Ins := (Pl.gone b (b.length + 1) 0).1
theorem insB_all (b : List Int) (h : okB b) : allF 200 b (b.length + 1) 0 = some (insB b) := Pl.allF_gone b h (b.length + 1) 0 (by omega)
theorem insB_len (b : List Int) (h : okB b) : (insB b).length ≤ b.length := by
  have := Pl.gone_le b h (b.length + 1) 0 (Nat.zero_le _)
  unfold insB
  omega
theorem starts_l0 (b : List Int) (h : okB b) (hl : b.length ≤ 1048576) : ∀ (n at_ : Nat) (k : Nat) (acc : List InS) (pl : List Int), at_ ≤ b.length → b.length - at_ < n → acc.length ≤ at_ → pl.length ≤ at_ →
    pianolaref06_Starts.l0 (k + 6 + n) b acc pl (at_ : Int) = some (acc ++ (Pl.gone b n at_).1.map (·.2), pl ++ (Pl.gone b n at_).1.map (·.1))
  | 0, _, _, _, _, _, hn, _, _ => absurd hn (by omega)
  | n + 1, at_, k, acc, pl, ha, hn, hacc, hpl => by
    rw [show k + 6 + (n + 1) = (k + 6 + n) + 1 by omega, pianolaref06_Starts.l0, Pl.gone]
    by_cases c : at_ < b.length
    · rw [if_pos (by omega), if_pos (by omega), if_pos (by omega), if_pos c, Int.toNat_natCast, show k + 6 + n = (k + 1 + n) + 5 by omega, Pl.rfirst_is _ _ (Pl.ok_drop h at_)]
      simp only [Option.bind_some]
      rcases Pl.gone_step b h at_ c with e | ⟨x, s, e, h1, h2, h3, h4, h5, h6⟩
      · rw [e, if_pos rfl, if_pos rfl]
        simp
      · rw [e, if_neg (by simp only []; omega), if_pos (by omega), if_pos (by omega)]
        simp only [Int.toNat_natCast, show ¬ ((s : Int) = 0) by omega, if_false]
        rw [show wrap64 ((at_ : Int) + (s : Int)) = ((at_ + s : Nat) : Int) by unfold wrap64; omega, show k + 1 + n + 5 = k + 6 + n by omega, starts_l0 b h hl n (at_ + s) k (acc ++ [x]) (pl ++ [(at_ : Int)]) h4 (by omega) (by rw [List.length_append, List.length_singleton]; omega) (by rw [List.length_append, List.length_singleton]; omega)]
        simp only [List.append_assoc, List.singleton_append, List.map_cons]
    · rw [if_neg (by omega), if_neg c]
      simp
theorem starts_is (b : List Int) (h : okB b) (hl : b.length ≤ 1048576) : pianolaref06_Starts.f (6 + (b.length + 1)) b = some ((insB b).map (·.2), (insB b).map (·.1)) := by
  have := starts_l0 b h hl (b.length + 1) 0 0 [] [] (Nat.zero_le _) (by omega) (by simp) (by simp)
  rw [Nat.zero_add, List.nil_append, List.nil_append] at this
  exact this
theorem wantP_len (k : Nat) (q : List Ins) : (wantP k q).length ≤ q.length := by
  unfold wantP
  rw [List.length_map]
  exact List.length_filter_le _ _
theorem wants_len : ∀ (l1 : List FnS) (k : Nat), (∀ x ∈ l1, okB x.f2 ∧ x.f2.length ≤ 1048576) → (wantGo insB k l1).length ≤ l1.length * 1048576
  | [], _, _ => Nat.zero_le _
  | x :: xs, k, h => by
    have h1 := h x (by simp)
    have h2 := insB_len x.f2 h1.1
    have h3 := wantP_len k (insB x.f2)
    have h4 := wants_len xs (k + 1) (fun y hy => h y (by simp [hy]))
    have h5 := h1.2
    rw [wantGo, List.length_append, List.length_cons]
    omega
theorem decR_err {b : List Int} (h : (Pl.decR b).2.1 ≠ 0) : (Pl.decR b).1 = [] := by
  unfold Pl.decR at h ⊢
  split
  · rfl
  · rename_i c
    rw [if_neg c] at h
    split
    · rfl
    · rename_i c2
      rw [if_neg c2] at h
      exact absurd rfl h
theorem code_out (l1 : List FnS) (f : Int) (h : f < 0 ∨ f ≥ (l1.length : Int)) : codeM l1 f = ([], [], 4) := by
  unfold codeM
  rw [if_pos h]
theorem code_at (l1 : List FnS) (n : Nat) (h : n < l1.length) (b : List Int) (hb : l1[n].f2 = b) : codeM l1 (n : Int) = ((Pl.decR b).1, if (Pl.decR b).2.1 = 0 then (insB b).map (·.1) else [], (Pl.decR b).2.1) := by
  have hx : rd_T41 l1 (n : Int) = l1[n] := by
    unfold rd_T41
    rw [Int.toNat_natCast, List.getD_eq_getElem?_getD, List.getElem?_eq_getElem h]
    rfl
  unfold codeM
  rw [if_neg (by omega), hx, hb]
  by_cases c : (Pl.decR b).2.1 = 0
  · rw [if_neg (by simpa using c), if_pos c, c]
    rfl
  · rw [if_pos c, if_neg c, decR_err c]
theorem eq48 (a b p q : Int) (W : World) : (Op.equalIn 10000 48 (.agg #[.int .i64 a, .int .i64 b]) (.agg #[.int .i64 p, .int .i64 q])).run Try.prog W = .ok (decide (a = p ∧ b = q)) W := by
  obtain ⟨i0, hi0, _, hs0, _⟩ := info_parts (show (Try.prog.info? 3).map (fun i => (i.zero, i.size, i.bytes)) = some (some (.int .i64 0), 1, 8) by kernel_rfl)
  have hc : Try.prog.cellsOf 3 = 1 := by kernel_rfl
  rw [run_equalIn_array W 9999 _ _ Try.underlying48 hi0, hc]
  have p0 : ∀ x y : Int, (part 3 #[.int .i64 x, .int .i64 y] 0).run Try.prog W = .ok (.int .i64 x) W := fun x y => by
    simp [part, isAgg, run_underlying Try.underlying3]
  have p1 : ∀ x y : Int, (part 3 #[.int .i64 x, .int .i64 y] 1).run Try.prog W = .ok (.int .i64 y) W := fun x y => by
    simp [part, isAgg, run_underlying Try.underlying3]
  have hr : List.range 2 = [0, 1] := rfl
  rw [hr]
  simp only [Op.eqItems, Sem.run_bind, p0, p1, Result.andThen_ok, Nat.zero_mul, Nat.one_mul, run_equalIn_int W 9998 3 .i64 .i64 _ _ Try.underlying3]
  by_cases h1 : a = p <;> by_cases h2 : b = q <;> simp [h1, h2, p1, run_equalIn_int W 9998 3 .i64 .i64 _ _ Try.underlying3]
theorem at_I2 {w : World} {A : Option Addr} {n : Nat} {xs : List (Int × Int)} (h : Kd.C kI2 w A n xs) (k : Nat) (hk : k < n) : ∃ ad, A = some ad ∧ w.cell? (ad.add (k * 2)) = some (.int .i64 (xs.getD k (0, 0)).1) ∧ w.cell? ⟨(ad.add (k * 2)).block, (ad.add (k * 2)).off + 1, none⟩ = some (.int .i64 (xs.getD k (0, 0)).2) := by
  obtain ⟨ad, cc, hA, hcl, hK, hcc⟩ := Kd.C_get h ((0, 0) : Int × Int) (k : Int) (by omega) (by omega)
  rw [Int.toNat_natCast] at hK hcc
  obtain ⟨_, _, hce2, hK0, hK1⟩ := hK
  have hK0 : _ = [Value.int .i64 (xs.getD k (0, 0)).1] := hK0
  have hK1 : _ = [Value.int .i64 (xs.getD k (0, 0)).2] := hK1
  subst hK0 hK1 hce2
  have hc := hcc 0 _ rfl
  have hc1 := hcc 1 _ rfl
  rw [show kI2.sz = 2 from rfl] at hc hc1
  rw [Nat.add_zero] at hc
  rw [add_field ad (k * 2) 1 (by decide)] at hc1
  exact ⟨ad, hA, hc, hc1⟩
theorem ins_take (b : List Int) (k : Nat) (h : k < (insB b).length) (i : Nat) : wantP i ((insB b).take (k + 1)) = wantP i ((insB b).take k) ++ (if (insB b)[k].2.f0 = 31 then [((i : Int), (insB b)[k].2.f1)] else []) := by
  rw [List.take_add_one, List.getElem?_eq_getElem h, wantP_app]
  congr 1
  by_cases c : (insB b)[k].2.f0 = 31
  · rw [if_pos c]; exact wantP_one c
  · rw [if_neg c]; exact wantP_no c
theorem want_next (l1 : List FnS) (i : Nat) (h : i < l1.length) (x : FnS) (hx : l1[i] = x) : wantGo insB i (l1.drop i) = wantP i (insB x.f2) ++ wantGo insB (i + 1) (l1.drop (i + 1)) := by
  rw [← List.getElem_cons_drop h, hx, wantGo]
/-- A row of another type stays where one grows. -/
theorem R_typed {α β : Type} {d : Kd α} {d' : Kd β} {e e' base base' : Nat} {W W1 : World} {v u : Value} {xs : List α} {ys : List β} {ok ok' : Nat → Prop} (h : d.R e W base ok v xs) (hu : d'.R e' W base' ok' u ys) (hg : W.grownBy W1 u.ownBlock) (hne : e ≠ e') (hE : ∀ q ∈ d.E, q ≠ e') : d.R e W1 base ok v xs := by
  refine Kd.R_mono (Kd.R_grown (Kd.R_bound h) hg (fun k hk he => ?_)) (fun _ hk => hk.1)
  obtain ⟨_, _, _, q, hq, cs, hc⟩ := hk
  obtain ⟨_, _, cs', hc'⟩ := R_own_ty hu k he.symm
  rw [hc] at hc'
  cases hc'
  rcases List.mem_cons.1 hq with rfl | hq
  · exact hne rfl
  · exact hE _ hq rfl
end Go.Proofs.Ytjkjpmfenillcaa.P
