import Derived.OrdersIn
import Derived.OrdersHeld
import Derived.Deep.RegionHeld
import Derived.Test.YtpfbfnbffglbkaaWWords
import Derived.Test.YtpfbfnbffglbkaaFlowD
import Derived.Test.YtpfbfnbffglbkaaPF21
import Derived.Test.YtpfbfnbffglbkaaPF42
import Derived.Test.YtpfbfnbffglbkaaPF43
/- Regions that call nobody, inside a round of a range over a function, in whatever order: by the orders outside of one; no statement of the seat. -/
namespace Go.Proofs.Ytpfbfnbffglbkaa.P
open Go Go.RowKit
/-- Operations that call nobody. -/
def calmOp : Op → Bool
  | .move _ => true
  | .assign _ => true
  | .alloc _ => true
  | .box _ _ => true
  | .build _ _ => true
  | .buildSlice _ _ _ => true
  | .load _ _ => true
  | .store _ _ _ => true
  | .binOp _ _ _ _ _ => true
  | .unOp _ _ _ => true
  | .convert _ _ _ => true
  | .makeSlice _ _ _ => true
  | .slice _ _ _ _ _ => true
  | .fieldAddr _ _ _ => true
  | .field _ _ _ => true
  | .indexAddr _ _ _ => true
  | .index _ _ _ => true
  | .pick _ _ _ => true
  | .call c => match c.callee with
    | .builtin .append => true
    | .builtin .len => true
    | .builtin .cap => true
    | .builtin .copy => true
    | .builtin .min => true
    | .builtin .max => true
    | _ => false
  | _ => false
def plainNext : Result Next → Prop
  | .ok (.value _) _ => True
  | .ok .skip _ => True
  | .ok _ _ => False
  | .halt _ _ => True
theorem plain_v (P : Program) (s : Sem Value) (w : World) : plainNext ((do pure (Next.value (← s)) : Sem Next).run P w) := by
  simp
  cases s.run P w <;> simp [Result.andThen, plainNext]
theorem plain_u (P : Program) (s : Sem Unit) (w : World) : plainNext ((do s; pure Next.skip : Sem Next).run P w) := by
  simp
  cases s.run P w <;> simp [Result.andThen, plainNext]
theorem calm_run (P : Program) (ρ : Operand → Value) (o : Oper) (w : World) (h : calmOp o.op = true) : plainNext ((execOp ρ o).run P w) := by
  unfold execOp
  cases ho : o.op <;> simp only [ho, calmOp, Bool.false_eq_true] at h <;> first | exact plain_v P _ w | exact plain_u P _ w | trivial | skip
  case pick a b c =>
    simp
    cases (asBool (ρ a)).run P w <;> simp [Result.andThen, plainNext]
  rename_i c
  show plainNext ((do let d ← resolve ρ c o.type; invoke d.target d.args : Sem Next).run P w)
  unfold resolve
  cases hc : c.callee with
  | builtin b =>
    simp only [hc] at h
    cases b <;> simp only [Bool.false_eq_true] at h <;> simp only [pure_bind, invoke, builtin] <;> exact plain_v P _ w
  | invoke r n => simp [hc] at h
  | value f => simp [hc] at h
theorem calm_defer (o : Oper) (h : calmOp o.op = true) : ∀ c, o.op ≠ .defer c := by
  intro c hc
  rw [hc] at h
  simp [calmOp] at h
/-- .. and nothing else comes of it than what follows. -/
def NoOut (Q : Exit → Act → World → Prop) : Exit → Act → World → Prop
  | .normal, a, w => Q .normal a w
  | _, _, _ => False
theorem NoOut.normal {Q : Exit → Act → World → Prop} {a : Act} {w : World} (h : Q .normal a w) : NoOut Q .normal a w := h
theorem NoOut.not {Q : Exit → Act → World → Prop} : ¬ LetsOut (NoOut Q) := fun ⟨_, _, h⟩ => h
theorem calm_wp {F : Fence} {n : Nat} {P : Program} (hF : ∀ f, F.fn f) {o : Oper} (h : calmOp o.op = true) {a : Act} {w : World} {K : Act → World → Prop} {Q : Exit → Act → World → Prop} (hw : o.wp P a w K (NoOut Q)) : o.wpIn F n P a w K Q := by
  refine ⟨fun f _ => hF f, ?_⟩
  rw [Oper.semAt_eq _ _ _ (calm_defer o h)]
  unfold Oper.wp at hw
  have hp := calm_run P a.eval o w h
  generalize (execOp a.eval o).run P w = r at hw hp ⊢
  cases r with
  | ok x w' => cases x <;> first | exact hw | exact absurd hp (fun h => h)
  | halt x w' => cases x <;> first | exact absurd hw (fun h => h) | exact hw
theorem calm_op {F : Fence} {n : Nat} {P : Program} (hF : ∀ f, F.fn f) {ops : Array Oper} (hc : ∀ (i : Nat) (o : Oper), ops[i]? = some o → calmOp o.op = true) {Q : Exit → Act → World → Prop} {i : Nat} {K : Act → World → Prop} {a : Act} {w : World} (h : wpOp P ops (NoOut Q) i K a w) : wpOpIn F n P ops Q i K a w := by
  unfold wpOp at h
  unfold wpOpIn
  split at h
  · rename_i ho
    simp only [ho]
    exact h
  · rename_i o ho
    simp only [ho]
    split at h
    · rename_i hw
      simp only [hw, if_true]
      rcases h with h | h
      · exact calm_wp hF (hc i o ho) h
      · exact absurd h.2 NoOut.not
    · rename_i hw
      simp only [hw]
      exact ⟨fun f _ => hF f, h⟩
theorem calm_any {F : Fence} {n : Nat} {P : Program} (hF : ∀ f, F.fn f) {md : Region.Mode} {ops : Array Oper} (hc : ∀ (i : Nat) (o : Oper), ops[i]? = some o → calmOp o.op = true) {Q : Exit → Act → World → Prop} : ∀ (fuel : Nat) (listed : Array Bool) (a : Act) (w : World), wpAny P md ops (NoOut Q) fuel listed a w → wpAnyIn F n P md ops Q fuel listed a w
  | 0, _, _, _, h => h
  | fuel + 1, _, _, _, h => ⟨h.1, fun i hi => wpOpIn_mono (fun a' w' h' => calm_any hF hc fuel _ a' w' h') (calm_op hF hc (h.2 i hi))⟩
/-- A region that draws, of operations that call nobody: in a round as outside of one. -/
theorem wpIn_region_calm {F : Fence} {n : Nat} {P : Program} (hF : ∀ f, F.fn f) (hm : P.follows .mixedOrders = true) {id : Nat} {l : List Oper} (hc : (l.all fun o => calmOp o.op) = true) {S : World → Prop} {Q : Exit → Act → World → Prop} {a : Act} {w : World} (hS : S w.drew)
    (h : S w.drew → wpAnyH P .any l.toArray (NoOut Q) S l.toArray.size (Array.replicate l.toArray.size false) a w.drew) : (Code.region id l.toArray true).wpIn F n P Q a w :=
  wpIn_region_any hm (calm_any hF (fun i o ho => by
    rw [List.all_eq_true] at hc
    rw [List.getElem?_toArray] at ho
    exact hc o (List.mem_of_getElem? ho)) _ _ _ _ (wpAny_of_held _ _ _ _ (h hS)))
end Go.Proofs.Ytpfbfnbffglbkaa.P
/- What flow.Over reckons, and what lies in memory meanwhile: plain; no statement of the seat. -/
set_option linter.unusedVariables false
set_option linter.unusedSimpArgs false
namespace Go.Proofs.Ytpfbfnbffglbkaa.P
open Go.RowKit Go.Proofs.YtpfbfnbffglbkaaW.PrintWords Go.Proofs.YtpfbfnbffglbkaaW.PrintLast Go.Proofs.YtpfbfnbffglbkaaW.PrintMore
/-- A block more that stands ahead of one. -/
def addP (rows : List (List Int)) (p : Int × Int) : List (List Int) := rows.set p.2.toNat (rows.getD p.2.toNat [] ++ [p.1])
def aheadB (b : List S30) : List (List Int) := (behR b b.length b.length 0).foldl addP (List.replicate b.length [])
/-- Three rows of one's own, apart. -/
structure OV (w W : World) (v3 v4 v5 : Value) (ord over pl : List Int) : Prop where
  o3 : W.ownsRow w.heap.size 3 1 v3 ord.length (nums .i64 ord)
  o4 : W.ownsRow w.heap.size 3 1 v4 over.length (nums .i64 over)
  o5 : W.ownsRow w.heap.size 3 1 v5 pl.length (nums .i64 pl)
  d34 : ∀ k, v3.ownBlock = some k → v4.ownBlock ≠ some k
  d35 : ∀ k, v3.ownBlock = some k → v5.ownBlock ≠ some k
  d45 : ∀ k, v4.ownBlock = some k → v5.ownBlock ≠ some k
  hb : Below w.heap.size w W
theorem OV.move {w W W1 : World} {v3 v4 v5 : Value} {ord over pl : List Int} (h : OV w W v3 v4 v5 ord over pl) (E : Nat) (hE : ∀ v k, v = v3 ∨ v = v4 ∨ v = v5 → v.ownBlock = some k → k < E) (hm : ∀ k, k < E → (∃ cs, W.heap[k]? = some (.cells cs 3 (0, 0))) → W1.heap[k]? = W.heap[k]?) (hb : Below w.heap.size w W1) : OV w W1 v3 v4 v5 ord over pl :=
  ⟨own_move h.o3 (fun k hk => hm k (hE _ k (.inl rfl) hk) (own_typed h.o3 k hk)), own_move h.o4 (fun k hk => hm k (hE _ k (.inr (.inl rfl)) hk) (own_typed h.o4 k hk)), own_move h.o5 (fun k hk => hm k (hE _ k (.inr (.inr rfl)) hk) (own_typed h.o5 k hk)), h.d34, h.d35, h.d45, hb⟩
theorem own_block_slice {w : World} {base : Nat} {e : TypeId} {size n : Nat} {v : Value} {xs : List Value} (h : w.ownsRow base e size v n xs) (hn : 0 < n) : ∃ g c, v = .slice (some ⟨g, 0, none⟩) n c ∧ base ≤ g ∧ g < w.heap.size := by
  rcases h.2 with ⟨_, h0⟩ | ⟨g, cap, cur, rfl, hb, hg, _⟩
  · omega
  · exact ⟨g, cap, rfl, hb, blk_lt hg⟩
/-- Rows by block, each apart from the others. -/
structure AH (W : World) (g6 ga E n : Nat) (rows : List (List Int)) : Prop where
  box : W.heap[g6]? = some (.cells #[.slice (some ⟨ga, 0, none⟩) n n] 65 (0, 0))
  l6 : g6 < E
  la : ga < E
  arr : ∃ vs : List Value, W.heap[ga]? = some (.cells vs.toArray 23 (0, 0)) ∧ vs.length = n ∧ (∀ j, j < n → W.ownsRow E 3 1 (vs.getD j undef) (rows.getD j []).length (nums .i64 (rows.getD j []))) ∧
    (∀ j k x, j < n → k < n → j ≠ k → (vs.getD j undef).ownBlock = some x → (vs.getD k undef).ownBlock ≠ some x)
  rl : rows.length = n
theorem own_lower {w : World} {base base' : Nat} {e : TypeId} {size n : Nat} {v : Value} {xs : List Value} (h : w.ownsRow base e size v n xs) (hb : base' ≤ base) : w.ownsRow base' e size v n xs := by
  refine ⟨h.1, ?_⟩
  rcases h.2 with hn | ⟨g, cap, cur, rfl, hg, rest⟩
  · exact .inl hn
  · exact .inr ⟨g, cap, cur, rfl, Nat.le_trans hb hg, rest⟩
theorem OV.mk1 {w W1 wx : World} {v3 v4 v5 : Value} {ord over pl : List Int} (h3 : Kd.R (Kd.int .i64) 3 W1 w.heap.size (fun _ => True) v3 ord) (hb1 : Below w.heap.size w W1) (hb : Below W1.heap.size W1 wx)
    (o4 : wx.ownsRow W1.heap.size 3 1 v4 over.length (nums .i64 over)) (o5 : wx.ownsRow W1.heap.size 3 1 v5 pl.length (nums .i64 pl)) (d45 : ∀ k, v4.ownBlock = some k → v5.ownBlock ≠ some k) : OV w wx v3 v4 v5 ord over pl := by
  have o3 : W1.ownsRow w.heap.size 3 1 v3 ord.length (nums .i64 ord) := Kd.own_of_R h3
  exact ⟨pw_own_below o3 hb, own_lower o4 hb1.size, own_lower o5 hb1.size, fun k hk e => by have h1 := own_lt o3 k hk; have h2 := own_base o4 k e; omega, fun k hk e => by have h1 := own_lt o3 k hk; have h2 := own_base o5 k e; omega, d45, hb1.trans (hb.mono hb1.size)⟩
theorem C_newI (w : World) (xs : List Int) (hn : xs.length ≤ 100) : Kd.C (Kd.int .i64) (w.alloc (.cells (nums .i64 xs).toArray 3)) (some ⟨w.heap.size, 0, none⟩) xs.length xs := by
  have h := own_lit_of (enc := Value.int .i64) w w.heap.size 3 xs (Nat.le_refl _) (by omega)
  obtain ⟨A, c, he, hr⟩ := own_reads_of (d := (0 : Int)) h
  simp only [Value.slice.injEq] at he
  obtain ⟨rfl, _, _⟩ := he
  exact Kd.C_of_reads (h1 := fun _ => rfl) hr
theorem OV.place {w W : World} {v3 : Value} {A4 A5 : Option Addr} {n4 c4 c5 n : Nat} {ord over pl : List Int} (h : OV w W v3 (.slice A4 n4 c4) (.slice A5 n c5) ord over pl) (hn : pl.length = n) (hp : 0 < n) (j : Nat) (hj : j < n) (x : Int) :
    ∃ g, A5 = some ⟨g, 0, none⟩ ∧ w.heap.size ≤ g ∧ g < W.heap.size ∧ (∃ cs, W.heap[g]? = some (.cells cs 3 (0, 0))) ∧ W.cell? ⟨g, j, none⟩ = some (.int .i64 (rd pl (j : Int))) ∧ W.frozen? ⟨g, j, none⟩ = false ∧ OV w (W.setCell ⟨g, j, none⟩ (.int .i64 x)) v3 (.slice A4 n4 c4) (.slice A5 n c5) ord over (pl.set j x) := by
  obtain ⟨g, c, he, hb, hlt⟩ := own_block_slice h.o5 (by omega)
  simp only [Value.slice.injEq] at he
  obtain ⟨rfl, _, rfl⟩ := he
  subst hn
  have ho := h.o5
  have hat := own_at ho (j : Int) (by omega) (by omega)
  have hst := own_put ho (j : Int) x
  rw [Int.toNat_natCast] at hat hst
  have hty := own_typed ho g rfl
  refine ⟨g, rfl, hb, hlt, hty, hat.1, hat.2, own_setCell h.o3 (fun e => h.d35 g e.symm rfl) _, own_setCell h.o4 (fun e => h.d45 g e.symm rfl) _, hst, h.d34, h.d35, h.d45, Below.setCell (p := ⟨g, j, none⟩) h.hb hb _⟩
theorem OV.cover {w W : World} {v3 : Value} {A4 A5 : Option Addr} {n5 c4 c5 n : Nat} {ord over pl : List Int} (h : OV w W v3 (.slice A4 n c4) (.slice A5 n5 c5) ord over pl) (hn : over.length = n) (hp : 0 < n) (j : Nat) (hj : j < n) (x : Int) :
    ∃ g, A4 = some ⟨g, 0, none⟩ ∧ w.heap.size ≤ g ∧ g < W.heap.size ∧ (∃ cs, W.heap[g]? = some (.cells cs 3 (0, 0))) ∧ W.cell? ⟨g, j, none⟩ = some (.int .i64 (rd over (j : Int))) ∧ W.frozen? ⟨g, j, none⟩ = false ∧ OV w (W.setCell ⟨g, j, none⟩ (.int .i64 x)) v3 (.slice A4 n c4) (.slice A5 n5 c5) ord (over.set j x) pl := by
  obtain ⟨g, c, he, hb, hlt⟩ := own_block_slice h.o4 (by omega)
  simp only [Value.slice.injEq] at he
  obtain ⟨rfl, _, rfl⟩ := he
  subst hn
  have ho := h.o4
  have hat := own_at ho (j : Int) (by omega) (by omega)
  have hst := own_put ho (j : Int) x
  rw [Int.toNat_natCast] at hat hst
  have hty := own_typed ho g rfl
  refine ⟨g, rfl, hb, hlt, hty, hat.1, hat.2, own_setCell h.o3 (fun e => h.d34 g e.symm rfl) _, hst, own_setCell h.o5 (fun e => h.d45 g rfl e.symm) _, h.d34, h.d35, h.d45, Below.setCell (p := ⟨g, j, none⟩) h.hb hb _⟩
theorem OV.below {w W W1 : World} {v3 v4 v5 : Value} {ord over pl : List Int} (h : OV w W v3 v4 v5 ord over pl) (hb : Below W.heap.size W W1) : OV w W1 v3 v4 v5 ord over pl :=
  ⟨pw_own_below h.o3 hb, pw_own_below h.o4 hb, pw_own_below h.o5 hb, h.d34, h.d35, h.d45, h.hb.trans (hb.mono h.hb.size)⟩
theorem OV.at3 {w W : World} {v4 v5 : Value} {A3 : Option Addr} {c3 n : Nat} {ord over pl : List Int} (h : OV w W (.slice A3 n c3) v4 v5 ord over pl) (hn : ord.length = n) (k : Nat) (hk : k < n) : ∃ ad, A3 = some ad ∧ W.cell? (ad.add k) = some (.int .i64 (rd ord (k : Int))) := by
  obtain ⟨A, c, he, hr⟩ := own_reads h.o3
  simp only [Value.slice.injEq] at he
  obtain ⟨rfl, _, _⟩ := he
  obtain ⟨ad, ha, hc⟩ := hr.at_ (k : Int) (by omega) (by omega)
  exact ⟨ad, ha, by rw [Int.toNat_natCast] at hc; exact hc⟩
theorem own_len3 {w W : World} {v4 v5 : Value} {A3 : Option Addr} {c3 n : Nat} {ord over pl : List Int} (h : OV w W (.slice A3 n c3) v4 v5 ord over pl) : ord.length ≤ 9223372036854775807 := by
  have h1 := h.o3.1
  rcases h.o3.2 with ⟨_, h0⟩ | ⟨g, cap, cur, _, _, _, h2, h3, _⟩
  · omega
  · unfold maxLen at h3; omega
/-- The rows' blocks are old ones. -/
theorem OV.blocks {w W : World} {v3 v4 v5 : Value} {ord over pl : List Int} (h : OV w W v3 v4 v5 ord over pl) : ∀ v k, v = v3 ∨ v = v4 ∨ v = v5 → v.ownBlock = some k → k < W.heap.size := by
  rintro v k (rfl | rfl | rfl) hk
  · exact own_lt h.o3 k hk
  · exact own_lt h.o4 k hk
  · exact own_lt h.o5 k hk
/-- All that is left is a block. -/
theorem vis_in (nx : Nat → List Int) (n : Nat) : ∀ f i (st : List Bool × List Int), i < n → (∀ x ∈ st.2, 0 ≤ x ∧ x < (n : Int)) → ∀ x ∈ (vis nx n f i st).2, 0 ≤ x ∧ x < (n : Int)
  | 0, i, st, hi, h => h
  | f + 1, i, st, hi, h => by
    have hgo : ∀ (l : List Int) (a : List Bool × List Int), (∀ x ∈ a.2, 0 ≤ x ∧ x < (n : Int)) → ∀ x ∈ (l.foldl (goV nx n f) a).2, 0 ≤ x ∧ x < (n : Int) := by
      intro l
      induction l with
      | nil => intro a ha; exact ha
      | cons t l ih =>
        intro a ha
        rw [List.foldl_cons]
        refine ih _ ?_
        unfold goV
        split
        · rename_i hc
          rw [Bool.and_eq_true] at hc
          obtain ⟨j, rfl, hj⟩ := isN_nat hc.1
          rw [Int.toNat_natCast]
          exact vis_in nx n f j a hj ha
        · exact ha
    rw [vis_succ]
    intro x hx
    rcases List.mem_append.1 hx with hx | hx
    · exact hgo (nx i) (st.1.set i true, st.2) h x hx
    · rw [List.mem_singleton.1 hx]
      omega
theorem ord_in (b : List S30) : ∀ x ∈ ordB b, 0 ≤ x ∧ x < (b.length : Int) := by
  unfold ordB
  split
  · intro x hx; exact absurd hx List.not_mem_nil
  · intro x hx
    exact vis_in (nxB b) b.length b.length 0 _ (by omega) (by intro y hy; exact absurd hy List.not_mem_nil) x (List.mem_reverse.1 hx)
/-! ### What keeps all cells -/
def KC (W W' : World) : Prop := ∀ (k : Nat) (cs : Array Value) (t : TypeId) (z : Nat × Nat), W.heap[k]? = some (.cells cs t z) → W'.heap[k]? = some (.cells cs t z)
theorem KC.of_grown {W W' : World} {row : Option Nat} (hg : W.grownBy W' row) (hr : ∀ r, row = some r → ∃ o : Obj, W.heap[r]? = some o ∧ o.isCells = false) : KC W W' := fun k cs t z hk =>
  (hg.block k (Array.getElem?_eq_some_iff.1 hk).1 (fun e => by obtain ⟨o, ho, hc⟩ := hr k e.symm; rw [hk] at ho; cases ho; cases hc)).trans hk
theorem own_keepC {W W' : World} {base : Nat} {e : TypeId} {size n : Nat} {v : Value} {xs : List Value} (h : W.ownsRow base e size v n xs) (hk : KC W W') : W'.ownsRow base e size v n xs :=
  own_move h (fun k hb => by obtain ⟨cs, hcs⟩ := own_typed h k hb; rw [hcs]; exact hk _ _ _ _ hcs)
theorem OV.keepC {w W W1 : World} {v3 v4 v5 : Value} {ord over pl : List Int} (h : OV w W v3 v4 v5 ord over pl) (hk : KC W W1) (hb : Below w.heap.size w W1) : OV w W1 v3 v4 v5 ord over pl :=
  ⟨own_keepC h.o3 hk, own_keepC h.o4 hk, own_keepC h.o5 hk, h.d34, h.d35, h.d45, hb⟩
theorem AH.keepC {W W1 : World} {g6 ga E n : Nat} {rows : List (List Int)} (h : AH W g6 ga E n rows) (hk : KC W W1) : AH W1 g6 ga E n rows := by
  obtain ⟨vs, h1, h2, h3, h4⟩ := h.arr
  exact ⟨hk _ _ _ _ h.box, h.l6, h.la, ⟨vs, hk _ _ _ _ h1, h2, fun j hj => own_keepC (h3 j hj) hk, h4⟩, h.rl⟩
theorem AH.below {W W1 : World} {g6 ga E n : Nat} {rows : List (List Int)} (h : AH W g6 ga E n rows) (hb : Below W.heap.size W W1) : AH W1 g6 ga E n rows := h.keepC (fun k cs t z hk => blk_below hk hb)
theorem getD_set_self {l : List Value} {t : Nat} (h : t < l.length) (v d : Value) : (l.set t v).getD t d = v := by rw [List.getD_eq_getElem?_getD, List.getElem?_set_self h]; rfl
theorem getD_set_ne {α : Type} {l : List α} {t j : Nat} (h : t ≠ j) (v d : α) : (l.set t v).getD j d = l.getD j d := by rw [List.getD_eq_getElem?_getD, List.getElem?_set_ne h, ← List.getD_eq_getElem?_getD]
/-- A row grew, and lies in its place. -/
theorem AH.grow {W w1 : World} {g6 ga E n : Nat} {rows : List (List Int)} {vs : List Value} (h6 : W.heap[g6]? = some (.cells #[.slice (some ⟨ga, 0, none⟩) n n] 65 (0, 0))) (l6 : g6 < E) (la : ga < E) (h1 : W.heap[ga]? = some (.cells vs.toArray 23 (0, 0))) (h2 : vs.length = n)
    (h3 : ∀ j, j < n → W.ownsRow E 3 1 (vs.getD j undef) (rows.getD j []).length (nums .i64 (rows.getD j []))) (h4 : ∀ j k x, j < n → k < n → j ≠ k → (vs.getD j undef).ownBlock = some x → (vs.getD k undef).ownBlock ≠ some x) (hrl : rows.length = n)
    (t : Nat) (ht : t < n) (i : Int) (v1 : Value) (ho : w1.ownsRow E 3 1 v1 (rows.getD t [] ++ [i]).length (nums .i64 (rows.getD t [] ++ [i]))) (hb : Below E W w1) (hg : W.grownBy w1 (vs.getD t undef).ownBlock) (hat : v1.ownBlock = (vs.getD t undef).ownBlock ∨ ∃ b, v1.ownBlock = some b ∧ W.heap.size ≤ b) :
    AH (w1.setCell ⟨ga, t, none⟩ v1) g6 ga E n (addP rows (i, (t : Int))) := by
  have hne : g6 ≠ ga := by
    intro e
    rw [e, h1] at h6
    simp at h6
  refine ⟨?_, l6, la, ⟨vs.set t v1, ?_, by rw [List.length_set]; exact h2, ?_, ?_⟩, by unfold addP; rw [List.length_set]; exact hrl⟩
  · exact (Below.heap_setCell w1 ⟨ga, t, none⟩ v1 g6 hne).trans ((hb.block g6 l6).trans h6)
  · have := blk_set ((hb.block ga la).trans h1) t v1
    rw [List.setIfInBounds_toArray] at this
    exact this
  · intro j hj
    unfold addP
    rw [Int.toNat_natCast]
    by_cases hjt : t = j
    · subst hjt
      rw [getD_set_self (by omega), List.getD_eq_getElem?_getD (l := rows.set t _), List.getElem?_set_self (by omega)]
      exact own_setCell ho (p := ⟨ga, t, none⟩) (fun e => by have := own_base ho ga e.symm; omega) _
    · rw [getD_set_ne hjt, getD_set_ne hjt]
      have hj3 := h3 j hj
      refine own_setCell (own_other hj3 hg ?_) (p := ⟨ga, t, none⟩) (fun e => by have := own_base hj3 ga e.symm; omega) _
      cases hx : (vs.getD j undef).ownBlock with
      | none => exact .inl rfl
      | some x => exact .inr (fun e => h4 j t x hj ht (Ne.symm hjt) hx e.symm)
  · intro j k x hj hk hjk hx e
    by_cases hjt : t = j
    · subst hjt
      rw [getD_set_self (by omega)] at hx
      rw [getD_set_ne hjk] at e
      rcases hat with ha | ⟨b, ha, hbz⟩
      · rw [ha] at hx
        exact h4 t k x hj hk hjk hx e
      · rw [ha] at hx
        have h5 := own_lt (h3 k hk) x e
        have h6 : b = x := Option.some.inj hx
        omega
    · by_cases hkt : t = k
      · subst hkt
        rw [getD_set_ne hjt] at hx
        rw [getD_set_self (by omega)] at e
        rcases hat with ha | ⟨b, ha, hbz⟩
        · rw [ha] at e
          exact h4 j t x hj hk hjk hx e
        · rw [ha] at e
          have h5 := own_lt (h3 j hj) x hx
          have h6 : b = x := Option.some.inj e
          omega
      · rw [getD_set_ne hjt] at hx
        rw [getD_set_ne hkt] at e
        exact h4 j k x hj hk hjk hx e
/-- What the rounds of the pairs have done. -/
def AhI (w : World) (g6 ga E Bs : Nat) (A0 : Option Addr) (n c0 : Nat) (v3 v4 v5 : Value) (ord over pl : List Int) (xs : List (Int × Int)) (pre : List { x : Int × Int // x ∈ xs }) (W : World) : Prop :=
  AH W g6 ga E n ((pre.map (·.1)).foldl addP (List.replicate n [])) ∧ OV w W v3 v4 v5 ord over pl ∧ Boxed W Bs 25 (.slice A0 n c0) ∧ E ≤ W.heap.size
theorem AhI.kept (w : World) (g6 ga E Bs : Nat) (A0 : Option Addr) (n c0 : Nat) (v3 v4 v5 : Value) (ord over pl : List Int) (xs : List (Int × Int)) {B : Nat} (hB : w.heap.size ≤ B) : OwnFrom B (AhI w g6 ga E Bs A0 n c0 v3 v4 v5 ord over pl xs) := by
  rintro pre W W' row ⟨h1, h2, h3, h4⟩ hg hr
  have hk : KC W W' := KC.of_grown hg (fun r e => (hr r e).2)
  exact ⟨h1.keepC hk, h2.keepC hk (h2.hb.grown hg h2.hb.size (fun k e => Nat.le_trans hB (hr k e).1)), hk _ _ _ _ h3, Nat.le_trans h4 hg.size⟩
theorem AH.start (W : World) (g6 ga E n : Nat) (h6 : W.heap[g6]? = some (.cells #[.slice (some ⟨ga, 0, none⟩) n n] 65 (0, 0))) (l6 : g6 < E) (la : ga < E) (h1 : W.heap[ga]? = some (.cells (madeCells #[Value.slice none 0 0] n) 23 (0, 0))) : AH W g6 ga E n (List.replicate n []) := by
  have e : madeCells #[Value.slice none 0 0] n = (List.replicate n (Value.slice none 0 0)).toArray := by
    apply Array.ext'
    show (madeCells #[Value.slice none 0 0] n).toList = List.replicate n (Value.slice none 0 0)
    rw [toList_madeCells_one]
  rw [e] at h1
  have hv : ∀ j, j < n → (List.replicate n (Value.slice none 0 0)).getD j undef = .slice none 0 0 := by
    intro j hj
    rw [List.getD_eq_getElem?_getD, List.getElem?_replicate, if_pos hj]
    rfl
  refine ⟨h6, l6, la, ⟨List.replicate n (.slice none 0 0), h1, List.length_replicate, ?_, ?_⟩, List.length_replicate⟩
  · intro j hj
    have hr : (List.replicate n ([] : List Int)).getD j [] = [] := by rw [List.getD_eq_getElem?_getD, List.getElem?_replicate, if_pos hj]; rfl
    rw [hv j hj, hr]
    exact own_nil _ _ _ _
  · intro j k x hj hk _ hx
    rw [hv j hj] at hx
    simp [Value.ownBlock] at hx
end Go.Proofs.Ytpfbfnbffglbkaa.P
/- The pairs' rounds of flow.Over: plain; no statement of the seat. -/
set_option linter.unusedVariables false
set_option linter.unusedSimpArgs false
namespace Go.Proofs.Ytpfbfnbffglbkaa.P
open Go.RowKit Go.Proofs.YtpfbfnbffglbkaaW.PrintWords Go.Proofs.YtpfbfnbffglbkaaW.PrintLast Go.Proofs.YtpfbfnbffglbkaaW.PrintMore
theorem rowP_in (n i : Nat) : ∀ (l : List Int) (p : Int × Int), p ∈ rowP n i l → p.1 = (i : Int) ∧ isN n p.2 = true
  | [], p, h => absurd h List.not_mem_nil
  | t :: l, p, h => by
    unfold rowP at h
    split at h
    · rename_i hc
      rcases List.mem_cons.1 h with rfl | h
      · exact ⟨rfl, hc⟩
      · exact rowP_in n i l p h
    · exact rowP_in n i l p h
theorem behR_in (b : List S30) (n : Nat) : ∀ (d i : Nat) (p : Int × Int), p ∈ behR b n d i → (i : Int) ≤ p.1 ∧ p.1 < ((i + d : Nat) : Int) ∧ isN n p.2 = true
  | 0, i, p, h => absurd h List.not_mem_nil
  | d + 1, i, p, h => by
    unfold behR at h
    rcases List.mem_append.1 h with h | h
    · obtain ⟨h1, h2⟩ := rowP_in n i _ p h
      exact ⟨by omega, by omega, h2⟩
    · obtain ⟨h1, h2, h3⟩ := behR_in b n d (i + 1) p h
      exact ⟨by omega, by omega, h3⟩
theorem addP_len (t : Nat) : ∀ (xs : List (Int × Int)) (rows : List (List Int)), ((xs.foldl addP rows).getD t []).length ≤ (rows.getD t []).length + xs.length
  | [], rows => Nat.le_refl _
  | p :: xs, rows => by
    rw [List.foldl_cons]
    refine Nat.le_trans (addP_len t xs (addP rows p)) ?_
    have : ((addP rows p).getD t []).length ≤ (rows.getD t []).length + 1 := by
      unfold addP
      by_cases h : p.2.toNat = t
      · subst h
        rcases Nat.lt_or_ge p.2.toNat rows.length with hl | hl
        · rw [List.getD_eq_getElem?_getD (l := rows.set _ _), List.getElem?_set_self hl]
          show (rows.getD p.2.toNat [] ++ [p.1]).length ≤ _
          rw [List.length_append, List.length_singleton]
          exact Nat.le_refl _
        · rw [List.set_eq_of_length_le hl]
          omega
      · rw [getD_set_ne h]
        omega
    rw [List.length_cons]
    omega
theorem addP_size : ∀ (xs : List (Int × Int)) (rows : List (List Int)), (xs.foldl addP rows).length = rows.length
  | [], rows => rfl
  | p :: xs, rows => by
    rw [List.foldl_cons, addP_size xs]
    unfold addP
    rw [List.length_set]
theorem AhI.drew {w : World} {g6 ga E Bs : Nat} {A0 : Option Addr} {n c0 : Nat} {v3 v4 v5 : Value} {ord over pl : List Int} {xs : List (Int × Int)} {pre : List { x : Int × Int // x ∈ xs }} {W : World} (h : AhI w g6 ga E Bs A0 n c0 v3 v4 v5 ord over pl xs pre W) : AhI w g6 ga E Bs A0 n c0 v3 v4 v5 ord over pl xs pre W.drew :=
  ⟨h.1.keepC (fun _ _ _ _ h => h), h.2.1.keepC (fun _ _ _ _ h => h) (below_drew h.2.1.hb), h.2.2.1, h.2.2.2⟩
theorem arr_cell {W : World} {ga t : Nat} {vs : List Value} {ty : TypeId} (h : W.heap[ga]? = some (.cells vs.toArray ty (0, 0))) (ht : t < vs.length) : W.cell? ⟨ga, t, none⟩ = some (vs.getD t undef) := by
  rw [blk_cell h t, List.getElem?_toArray, List.getElem?_eq_getElem ht, List.getD_eq_getElem?_getD, List.getElem?_eq_getElem ht]
  rfl
/-- A round of the pairs. -/
theorem AhI.step {w : World} {g6 ga E Bs : Nat} {A0 : Option Addr} {n c0 : Nat} {v3 v4 v5 : Value} {ord over pl : List Int} {xs : List (Int × Int)} {pre : List { x : Int × Int // x ∈ xs }} {W : World} (h : AhI w g6 ga E Bs A0 n c0 v3 v4 v5 ord over pl xs pre W) (hwE : w.heap.size ≤ ga) (hBs : Bs < E) (hd : ∀ v k, v = v3 ∨ v = v4 ∨ v = v5 → v.ownBlock = some k → k < E ∧ k ≠ ga)
    {vs : List Value} (h1 : W.heap[ga]? = some (.cells vs.toArray 23 (0, 0))) (h2 : vs.length = n)
    (h3 : ∀ j, j < n → W.ownsRow E 3 1 (vs.getD j undef) ((((pre.map (·.1)).foldl addP (List.replicate n [])).getD j []).length) (nums .i64 (((pre.map (·.1)).foldl addP (List.replicate n [])).getD j [])))
    (h4 : ∀ j k x, j < n → k < n → j ≠ k → (vs.getD j undef).ownBlock = some x → (vs.getD k undef).ownBlock ≠ some x)
    (p : Int) (t : Nat) (ht : t < n) (hp : (p, (t : Int)) ∈ xs) (v1 : Value) (w1 : World)
    (ho : w1.ownsRow E 3 1 v1 ((((pre.map (·.1)).foldl addP (List.replicate n [])).getD t []).length + 1) (nums .i64 (((pre.map (·.1)).foldl addP (List.replicate n [])).getD t []) ++ [.int .i64 p])) (hb : Below E W w1) (hg : W.grownBy w1 (vs.getD t undef).ownBlock) (hat : v1.ownBlock = (vs.getD t undef).ownBlock ∨ ∃ b, v1.ownBlock = some b ∧ W.heap.size ≤ b) :
    KeepsOthers W (w1.setCell ⟨ga, t, none⟩ v1) ∧ KeepBox w.heap.size Bs W (w1.setCell ⟨ga, t, none⟩ v1) ∧ AhI w g6 ga E Bs A0 n c0 v3 v4 v5 ord over pl xs (pre ++ [⟨(p, (t : Int)), hp⟩]) (w1.setCell ⟨ga, t, none⟩ v1) := by
  obtain ⟨hA, hO, hB, hz⟩ := h
  have hbw : Below w.heap.size W w1 := hb.mono (by have := hA.la; omega)
  have hb1 : Below w.heap.size W (w1.setCell ⟨ga, t, none⟩ v1) := hbw.setCell (p := ⟨ga, t, none⟩) hwE v1
  have hnB : Bs ≠ ga := by
    intro e
    have hB' : W.heap[Bs]? = _ := hB
    rw [e, h1] at hB'
    simp at hB'
  have hbx : (w1.setCell ⟨ga, t, none⟩ v1).heap[Bs]? = W.heap[Bs]? := (Below.heap_setCell w1 ⟨ga, t, none⟩ v1 Bs hnB).trans (hb.block Bs hBs)
  refine ⟨(KeepsOthers.of_grownBy hg (fun j o hj ho' => ?_)).trans (KeepsOthers.setCell _ _ _), ⟨hb1, hbx⟩, ?_, ?_, hbx.trans hB, ?_⟩
  · obtain ⟨cs, hcs⟩ := own_typed (h3 t ht) j hj
    rw [hcs] at ho'
    cases ho'
    rfl
  · rw [List.map_append, List.foldl_append]
    refine AH.grow hA.box hA.l6 hA.la h1 h2 h3 h4 hA.rl t ht p v1 ?_ hb hg hat
    have e : nums .i64 (((pre.map (·.1)).foldl addP (List.replicate n [])).getD t [] ++ [p]) = nums .i64 (((pre.map (·.1)).foldl addP (List.replicate n [])).getD t []) ++ [.int .i64 p] := by simp [nums]
    rw [e, List.length_append, List.length_singleton]
    exact ho
  · refine OV.move hO E (fun v k hv hk => (hd v k hv hk).1) (fun k hk hc => ?_) (hO.hb.trans hb1)
    by_cases hkg : k = ga
    · subst hkg
      obtain ⟨cs, hcs⟩ := hc
      rw [h1] at hcs
      simp at hcs
    · exact (Below.heap_setCell w1 ⟨ga, t, none⟩ v1 k hkg).trans (hb.block k hk)
  · rw [World.size_setCell]
    exact Nat.le_trans hz hb.size
end Go.Proofs.Ytpfbfnbffglbkaa.P
/- The rounds of flow.Over that change: plain; no statement of the seat. -/
set_option linter.unusedVariables false
set_option linter.unusedSimpArgs false
namespace Go.Proofs.Ytpfbfnbffglbkaa.P
open Go.RowKit Go.Proofs.YtpfbfnbffglbkaaW.PrintWords Go.Proofs.YtpfbfnbffglbkaaW.PrintLast Go.Proofs.YtpfbfnbffglbkaaW.PrintMore
/-- One that stands ahead. -/
def dStep (k : Nat) (over pl : List Int) (d p : Int) : Option Int :=
  if 0 ≤ p ∧ p < (over.length : Int) then (if rd over p = -1 then some d else if d = -1 then some p else flow_meet.f k over pl d p) else none
def dRow (k : Nat) (over pl : List Int) : List Int → Int → Option Int
  | [], d => some d
  | p :: l, d => (dStep k over pl d p).bind (dRow k over pl l)
def passO (k : Nat) (pl : List Int) (rows : List (List Int)) : List Int → List Int → Bool → Option (List Int × Bool)
  | [], over, ch => some (over, ch)
  | x :: l, over, ch => (dRow k over pl (rows.getD x.toNat []) (-1)).bind fun d => passO k pl rows l (over.set x.toNat d) (ch || (rd over x != d))
def loopO (k : Nat) (pl : List Int) (rows : List (List Int)) (o1 : List Int) : Nat → List Int → Option (List Int)
  | 0, _ => none
  | f + 1, over => (passO k pl rows o1 over false).bind fun r => if r.2 = true then loopO k pl rows o1 f r.1 else some r.1
/-- What flow.Over reckons. -/
def overF (k : Nat) (l0 : List S30) : Option (List Int) :=
  if l0.length ≤ 3600000000000 ∧ (behR l0 l0.length l0.length 0).length ≤ 1000000000000 then
    (loopO k (placeG (ordB l0) 0 (List.replicate l0.length 0)) (aheadB l0) ((ordB l0).drop 1) k (if 0 < (ordB l0).length then (List.replicate l0.length (-1)).set 0 0 else List.replicate l0.length (-1))).map fun o => if 0 < (ordB l0).length then o.set 0 (-1) else o
  else none
theorem dRow_snoc (k : Nat) (over pl : List Int) : ∀ (l : List Int) (d p : Int), dRow k over pl (l ++ [p]) d = (dRow k over pl l d).bind (fun d => dStep k over pl d p)
  | [], d, p => by
    show (dStep k over pl d p).bind (dRow k over pl []) = some d >>= _
    cases h : dStep k over pl d p <;> simp [dRow, h]
  | q :: l, d, p => by
    show (dStep k over pl d q).bind (dRow k over pl (l ++ [p])) = ((dStep k over pl d q).bind (dRow k over pl l)).bind _
    cases h : dStep k over pl d q with
    | none => rfl
    | some d1 => exact dRow_snoc k over pl l d1 p
/-- All that lies in memory. -/
structure LP (w W : World) (A3 A4 A5 : Option Addr) (c3 c4 c5 n ga E D : Nat) (ord over pl : List Int) (rows : List (List Int)) : Prop where
  ov : OV w W (.slice A3 ord.length c3) (.slice A4 n c4) (.slice A5 n c5) ord over pl
  ah : AH W (ga + 1) ga E n rows
  dd : W.heap[D]? = some (.deferred (some []))
  lo : over.length = n
  lp : pl.length = n
  l4 : ∀ k, (Value.slice A4 n c4).ownBlock = some k → k < ga
variable {w W : World} {A3 A4 A5 : Option Addr} {c3 c4 c5 n ga E D : Nat} {ord over pl : List Int} {rows : List (List Int)}
theorem LP.drewN (h : LP w W A3 A4 A5 c3 c4 c5 n ga E D ord over pl rows) (m : Nat) : LP w (W.drewN m) A3 A4 A5 c3 c4 c5 n ga E D ord over pl rows :=
  ⟨h.ov.keepC (fun _ _ _ _ h => h) (pw_below_drewN h.ov.hb m), h.ah.keepC (fun _ _ _ _ h => h), h.dd, h.lo, h.lp, h.l4⟩
theorem AH.setCell {W : World} {g6 ga E n : Nat} {rows : List (List Int)} (h : AH W g6 ga E n rows) (p : Addr) (v : Value) (h6 : p.block ≠ g6) (ha : p.block ≠ ga) (hE : p.block < E) : AH (W.setCell p v) g6 ga E n rows := by
  obtain ⟨vs, h1, h2, h3, h4⟩ := h.arr
  exact ⟨(Below.heap_setCell W p v g6 (Ne.symm h6)).trans h.box, h.l6, h.la, ⟨vs, (Below.heap_setCell W p v ga (Ne.symm ha)).trans h1, h2, fun j hj => own_setCell (h3 j hj) (p := p) (fun e => by have := own_base (h3 j hj) p.block e.symm; omega) v, h4⟩, h.rl⟩
theorem LP.cover (h : LP w W A3 A4 A5 c3 c4 c5 n ga E D ord over pl rows) (j : Nat) (hj : j < n) :
    ∃ g, A4 = some ⟨g, 0, none⟩ ∧ W.cell? ⟨g, j, none⟩ = some (.int .i64 (rd over (j : Int))) ∧ W.frozen? ⟨g, j, none⟩ = false ∧ ∀ x : Int, LP w (W.setCell ⟨g, j, none⟩ (.int .i64 x)) A3 A4 A5 c3 c4 c5 n ga E D ord (over.set j x) pl rows := by
  obtain ⟨g, hA, hb, hlt, ⟨cs, hty⟩, hc, hf, _⟩ := h.ov.cover h.lo (by omega) j hj 0
  refine ⟨g, hA, hc, hf, fun x => ?_⟩
  obtain ⟨g', hA', _, _, _, _, _, hov⟩ := h.ov.cover h.lo (by omega) j hj x
  have hgg : g' = g := by rw [hA] at hA'; simpa using hA'.symm
  subst hgg
  have hl := h.l4 g' (by rw [hA]; rfl)
  refine ⟨hov, h.ah.setCell _ _ (by show g' ≠ ga + 1; omega) (by show g' ≠ ga; omega) (by show g' < E; have := h.ah.la; omega), (Below.heap_setCell W _ _ D ?_).trans h.dd, by rw [List.length_set]; exact h.lo, h.lp, h.l4⟩
  show D ≠ g'
  intro e
  have := h.dd
  rw [e, hty] at this
  cases this
theorem C_row {W : World} {base n c : Nat} {A : Option Addr} {xs : List Int} (h : W.ownsRow base 3 1 (.slice A n c) xs.length (nums .i64 xs)) (hn : xs.length = n) : Kd.C (Kd.int .i64) W A n xs ∧ n ≤ c := by
  obtain ⟨A', c', he, hr⟩ := own_reads_of (enc := Value.int .i64) (d := (0 : Int)) h
  simp only [Value.slice.injEq] at he
  obtain ⟨rfl, rfl, rfl⟩ := he
  refine ⟨Kd.C_of_reads (h1 := fun _ => rfl) hr, ?_⟩
  rcases h.2 with ⟨hn, h0⟩ | ⟨g, cap, cur, he, _, _, h2, _⟩
  · omega
  · simp only [Value.slice.injEq] at he
    obtain ⟨_, _, rfl⟩ := he
    exact h2
theorem LP.C4 (h : LP w W A3 A4 A5 c3 c4 c5 n ga E D ord over pl rows) : Kd.C (Kd.int .i64) W A4 n over ∧ n ≤ c4 := C_row (by have := h.ov.o4; exact this) h.lo
theorem LP.C5 (h : LP w W A3 A4 A5 c3 c4 c5 n ga E D ord over pl rows) : Kd.C (Kd.int .i64) W A5 n pl ∧ n ≤ c5 := C_row (by have := h.ov.o5; exact this) h.lp
theorem LP.C3 (h : LP w W A3 A4 A5 c3 c4 c5 n ga E D ord over pl rows) : Kd.C (Kd.int .i64) W A3 ord.length ord ∧ ord.length ≤ c3 := C_row (by have := h.ov.o3; exact this) rfl
theorem LP.box (h : LP w W A3 A4 A5 c3 c4 c5 n ga E D ord over pl rows) : W.cell? ⟨ga + 1, 0, none⟩ = some (.slice (some ⟨ga, 0, none⟩) n n) := blk_cell h.ah.box 0
theorem LP.row (h : LP w W A3 A4 A5 c3 c4 c5 n ga E D ord over pl rows) (t : Nat) (ht : t < n) : ∃ At ct, W.cell? ⟨ga, t, none⟩ = some (.slice At (rows.getD t []).length ct) ∧ Kd.C (Kd.int .i64) W At (rows.getD t []).length (rows.getD t []) ∧ (rows.getD t []).length ≤ ct := by
  obtain ⟨vs, h1, h2, h3, h4⟩ := h.ah.arr
  obtain ⟨At, ct, he⟩ := own_slice (h3 t ht)
  have ho := h3 t ht
  rw [he] at ho
  obtain ⟨hc, hl⟩ := C_row ho rfl
  exact ⟨At, ct, by rw [arr_cell h1 (by omega), he], hc, hl⟩
theorem LP.coverAt {g : Nat} (h : LP w W A3 (some ⟨g, 0, none⟩) A5 c3 c4 c5 n ga E D ord over pl rows) (j : Nat) (hj : j < n) :
    W.cell? ⟨g, j, none⟩ = some (.int .i64 (rd over (j : Int))) ∧ W.frozen? ⟨g, j, none⟩ = false ∧ ∀ x : Int, LP w (W.setCell ⟨g, j, none⟩ (.int .i64 x)) A3 (some ⟨g, 0, none⟩) A5 c3 c4 c5 n ga E D ord (over.set j x) pl rows := by
  obtain ⟨g', hA, h1, h2, h3⟩ := h.cover j hj
  simp only [Option.some.injEq, Addr.mk.injEq, and_true, true_and] at hA
  subst hA
  exact ⟨h1, h2, h3⟩
theorem LP.tail {A6 : Option Addr} (h : LP w W A3 A4 A5 c3 c4 c5 n ga E D ord over pl rows) (hrd : ∀ w : World, ReadsOf (Value.int .i64) 0 w A3 ord.length ord → ReadsOf (Value.int .i64) 0 w A6 (ord.drop 1).length (ord.drop 1)) (i : Nat) (hi : i < (ord.drop 1).length) :
    ∃ ad, A6 = some ad ∧ W.cell? (ad.add i) = some (.int .i64 (rd (ord.drop 1) (i : Int))) := by
  obtain ⟨A', c', he, hr⟩ := own_reads_of (enc := Value.int .i64) (d := (0 : Int)) (by have := h.ov.o3; exact this)
  simp only [Value.slice.injEq] at he
  obtain ⟨rfl, _, rfl⟩ := he
  obtain ⟨ad, ha, hc⟩ := (hrd W hr).at_ (i : Int) (by omega) (by omega)
  exact ⟨ad, ha, by rw [Int.toNat_natCast] at hc; exact hc⟩
theorem LP.ends (h : LP w W A3 A4 A5 c3 c4 c5 n ga E D ord over pl rows) (hD : w.heap.size ≤ D) : Kd.R (Kd.int .i64) 3 (W.putObj D (.deferred none)) w.heap.size (fun _ => True) (.slice A4 n c4) over ∧ Below w.heap.size w (W.putObj D (.deferred none)) := by
  have hg := grownBy_putObj' W D (.deferred none)
  have hk : KC W (W.putObj D (.deferred none)) := KC.of_grown hg (fun r e => by cases e; exact ⟨_, h.dd, rfl⟩)
  exact ⟨Kd.R_of_own (own_keepC h.ov.o4 hk) (fun _ _ => trivial), h.ov.hb.grown hg h.ov.hb.size (fun k e => by cases e; exact hD)⟩
theorem passO_cons (k : Nat) (pl : List Int) (rows : List (List Int)) (l : List Int) (i : Nat) (h : i < l.length) (over : List Int) (ch : Bool) (r : List Int × Bool) (hp : passO k pl rows (l.drop i) over ch = some r) :
    ∃ d, dRow k over pl (rows.getD (rd l (i : Int)).toNat []) (-1) = some d ∧ passO k pl rows (l.drop (i + 1)) (over.set (rd l (i : Int)).toNat d) (ch || (rd over (rd l (i : Int)) != d)) = some r := by
  have e : l[i] = rd l (i : Int) := by
    unfold rd
    rw [Int.toNat_natCast, List.getD_eq_getElem?_getD, List.getElem?_eq_getElem h]
    rfl
  rw [List.drop_eq_getElem_cons h, passO, e] at hp
  exact Option.bind_eq_some_iff.1 hp
theorem dRow_cons (k : Nat) (over pl : List Int) (l : List Int) (i : Nat) (h : i < l.length) (d r : Int) (hp : dRow k over pl (l.drop i) d = some r) :
    ∃ d1, dStep k over pl d (rd l (i : Int)) = some d1 ∧ dRow k over pl (l.drop (i + 1)) d1 = some r := by
  have e : l[i] = rd l (i : Int) := by
    unfold rd
    rw [Int.toNat_natCast, List.getD_eq_getElem?_getD, List.getElem?_eq_getElem h]
    rfl
  rw [List.drop_eq_getElem_cons h, dRow, e] at hp
  exact Option.bind_eq_some_iff.1 hp
end Go.Proofs.Ytpfbfnbffglbkaa.P
