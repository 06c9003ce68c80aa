import Derived.OrdersIn
import Derived.OrdersHeld
import Derived.Deep.RegionHeld
import Derived.Deep.Quiet
import Derived.Test.YtdcjbkhfopdgnaaWWords
/- Regions that call nobody, inside a round of a range over a function, in whatever order: by the orders outside of one; no statement of the seat. -/
namespace Go.Proofs.Ytdcjbkhfopdgnaa.P
open Go Go.RowKit
/-- Operations that call nobody. -/
def calmOp : Op → Bool
  | .move _ => true
  | .assign _ => true
  | .alloc _ => true
  | .box _ _ => true
  | .build _ _ => true
  | .buildSlice _ _ _ => true
  | .load _ _ => true
  | .store _ _ _ => true
  | .binOp _ _ _ _ _ => true
  | .unOp _ _ _ => true
  | .convert _ _ _ => true
  | .makeSlice _ _ _ => true
  | .slice _ _ _ _ _ => true
  | .fieldAddr _ _ _ => true
  | .field _ _ _ => true
  | .indexAddr _ _ _ => true
  | .index _ _ _ => true
  | .pick _ _ _ => true
  | .call c => match c.callee with
    | .builtin .append => true
    | .builtin .len => true
    | .builtin .cap => true
    | .builtin .copy => true
    | .builtin .min => true
    | .builtin .max => true
    | _ => false
  | _ => false
def plainNext : Result Next → Prop
  | .ok (.value _) _ => True
  | .ok .skip _ => True
  | .ok _ _ => False
  | .halt _ _ => True
theorem plain_v (P : Program) (s : Sem Value) (w : World) : plainNext ((do pure (Next.value (← s)) : Sem Next).run P w) := by
  simp
  cases s.run P w <;> simp [Result.andThen, plainNext]
theorem plain_u (P : Program) (s : Sem Unit) (w : World) : plainNext ((do s; pure Next.skip : Sem Next).run P w) := by
  simp
  cases s.run P w <;> simp [Result.andThen, plainNext]
theorem calm_run (P : Program) (ρ : Operand → Value) (o : Oper) (w : World) (h : calmOp o.op = true) : plainNext ((execOp ρ o).run P w) := by
  unfold execOp
  cases ho : o.op <;> simp only [ho, calmOp, Bool.false_eq_true] at h <;> first | exact plain_v P _ w | exact plain_u P _ w | trivial | skip
  case pick a b c =>
    simp
    cases (asBool (ρ a)).run P w <;> simp [Result.andThen, plainNext]
  rename_i c
  show plainNext ((do let d ← resolve ρ c o.type; invoke d.target d.args : Sem Next).run P w)
  unfold resolve
  cases hc : c.callee with
  | builtin b =>
    simp only [hc] at h
    cases b <;> simp only [Bool.false_eq_true] at h <;> simp only [pure_bind, invoke, builtin] <;> exact plain_v P _ w
  | invoke r n => simp [hc] at h
  | value f => simp [hc] at h
theorem calm_defer (o : Oper) (h : calmOp o.op = true) : ∀ c, o.op ≠ .defer c := by
  intro c hc
  rw [hc] at h
  simp [calmOp] at h
/-- .. and nothing else comes of it than what follows. -/
def NoOut (Q : Exit → Act → World → Prop) : Exit → Act → World → Prop
  | .normal, a, w => Q .normal a w
  | _, _, _ => False
theorem NoOut.normal {Q : Exit → Act → World → Prop} {a : Act} {w : World} (h : Q .normal a w) : NoOut Q .normal a w := h
theorem NoOut.not {Q : Exit → Act → World → Prop} : ¬ LetsOut (NoOut Q) := fun ⟨_, _, h⟩ => h
theorem calm_wp {F : Fence} {n : Nat} {P : Program} (hF : ∀ f, F.fn f) {o : Oper} (h : calmOp o.op = true) {a : Act} {w : World} {K : Act → World → Prop} {Q : Exit → Act → World → Prop} (hw : o.wp P a w K (NoOut Q)) : o.wpIn F n P a w K Q := by
  refine ⟨fun f _ => hF f, ?_⟩
  rw [Oper.semAt_eq _ _ _ (calm_defer o h)]
  unfold Oper.wp at hw
  have hp := calm_run P a.eval o w h
  generalize (execOp a.eval o).run P w = r at hw hp ⊢
  cases r with
  | ok x w' => cases x <;> first | exact hw | exact absurd hp (fun h => h)
  | halt x w' => cases x <;> first | exact absurd hw (fun h => h) | exact hw
theorem calm_op {F : Fence} {n : Nat} {P : Program} (hF : ∀ f, F.fn f) {ops : Array Oper} (hc : ∀ (i : Nat) (o : Oper), ops[i]? = some o → calmOp o.op = true) {Q : Exit → Act → World → Prop} {i : Nat} {K : Act → World → Prop} {a : Act} {w : World} (h : wpOp P ops (NoOut Q) i K a w) : wpOpIn F n P ops Q i K a w := by
  unfold wpOp at h
  unfold wpOpIn
  split at h
  · rename_i ho
    simp only [ho]
    exact h
  · rename_i o ho
    simp only [ho]
    split at h
    · rename_i hw
      simp only [hw, if_true]
      rcases h with h | h
      · exact calm_wp hF (hc i o ho) h
      · exact absurd h.2 NoOut.not
    · rename_i hw
      simp only [hw]
      exact ⟨fun f _ => hF f, h⟩
theorem calm_any {F : Fence} {n : Nat} {P : Program} (hF : ∀ f, F.fn f) {md : Region.Mode} {ops : Array Oper} (hc : ∀ (i : Nat) (o : Oper), ops[i]? = some o → calmOp o.op = true) {Q : Exit → Act → World → Prop} : ∀ (fuel : Nat) (listed : Array Bool) (a : Act) (w : World), wpAny P md ops (NoOut Q) fuel listed a w → wpAnyIn F n P md ops Q fuel listed a w
  | 0, _, _, _, h => h
  | fuel + 1, _, _, _, h => ⟨h.1, fun i hi => wpOpIn_mono (fun a' w' h' => calm_any hF hc fuel _ a' w' h') (calm_op hF hc (h.2 i hi))⟩
/-- A region that draws, of operations that call nobody: in a round as outside of one. -/
theorem wpIn_region_calm {F : Fence} {n : Nat} {P : Program} (hF : ∀ f, F.fn f) (hm : P.follows .mixedOrders = true) {id : Nat} {l : List Oper} (hc : (l.all fun o => calmOp o.op) = true) {S : World → Prop} {Q : Exit → Act → World → Prop} {a : Act} {w : World} (hS : S w.drew)
    (h : S w.drew → wpAnyH P .any l.toArray (NoOut Q) S l.toArray.size (Array.replicate l.toArray.size false) a w.drew) : (Code.region id l.toArray true).wpIn F n P Q a w :=
  wpIn_region_any hm (calm_any hF (fun i o ho => by
    rw [List.all_eq_true] at hc
    rw [List.getElem?_toArray] at ho
    exact hc o (List.mem_of_getElem? ho)) _ _ _ _ (wpAny_of_held _ _ _ _ (h hS)))
/-- .. and that leave the world alone: one walk serves every order. -/
theorem wpIn_region_calm_lit {F : Fence} {n : Nat} {P : Program} (hF : ∀ f, F.fn f) (hm : P.follows .mixedOrders = true) {id : Nat} {l : List Oper} (hc : (l.all fun o => calmOp o.op) = true) (hB : Region.lexB .any l.toArray = true) {Q : Exit → Act → World → Prop} {a : Act} {w : World}
    (h : wpQuiet P l.toArray (fun w' => ∃ n, w' = w.drewN n) (fun a' => ∀ w', (∃ n, w' = w.drewN n) → Q .normal a' w') l a) : (Code.region id l.toArray true).wpIn F n P Q a w := by
  simp only [Region.lexB, Bool.and_eq_true] at hB
  refine wpIn_region_any hm (calm_any hF (fun i o ho => by
    rw [List.all_eq_true] at hc
    rw [List.getElem?_toArray] at ho
    exact hc o (List.mem_of_getElem? ho)) _ _ _ _ (wpAny_of_quiet (Q' := NoOut Q) (C := fun w' => ∃ n, w' = w.drewN n) (Q := fun a' => ∀ w', (∃ n, w' = w.drewN n) → Q .normal a' w') (fun _ w' hw' h => h w' hw') _ _ _ _ ⟨1, rfl⟩ ?_))
  have := wpAnyQ_lex (C := fun w' => ∃ n, w' = w.drewN n) (md := .any) hB.1 l 0 (Array.replicate l.toArray.size false) a (by simp) (by simpa using hB.2) h
  simpa using this
end Go.Proofs.Ytdcjbkhfopdgnaa.P
