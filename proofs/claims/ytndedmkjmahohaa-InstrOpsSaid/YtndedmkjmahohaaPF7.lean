/- Ytndedmkjmahohaa: what Go functions come to, and that they do: walks, printed by a program of this session or typed by hand; no statement of the seat stands here. -/
import Derived.Test.YtndedmkjmahohaaP0
import Derived.Test.YtndedmkjmahohaaPF15
import Derived.Test.YtndedmkjmahohaaPF14
import Derived.Test.YtndedmkjmahohaaPF16
import Derived.Test.YtndedmkjmahohaaPF25
import Derived.Test.YtndedmkjmahohaaPF13
import Derived.Test.YtndedmkjmahohaaPF27
import Derived.Test.YtndedmkjmahohaaPF28
import Derived.Test.YtndedmkjmahohaaPF30
import Derived.Test.YtndedmkjmahohaaPF26
import Derived.Test.YtndedmkjmahohaaPF29
import Derived.Test.YtndedmkjmahohaaPF31
import Derived.Test.YtndedmkjmahohaaPF32
import Derived.Test.YtndedmkjmahohaaPF33
namespace Go.Proofs.Ytndedmkjmahohaa.P
open Go.RowKit Go.Proofs.YtndedmkjmahohaaW.PrintWords Go.Proofs.YtndedmkjmahohaaW.PrintLast Go.Proofs.YtndedmkjmahohaaW.PrintMore
attribute [local go_sem] max2_int min2_int max_two min_two max_three min_three max_four min_four   -- for this text's walks alone
set_option linter.unusedVariables false
set_option linter.unusedSimpArgs false


/-! ### pianolalaw05_InstrOps: function 7 -/
theorem beq_res {a b r : Bool} (h : (a == b) = r) : a = (if r = true then b else !b) := by cases a <;> cases b <;> cases r <;> simp_all
theorem some_two {α : Type} {f : Option α} {a b : α} (h1 : f = some a) (h2 : f = some b) : a = b := Option.some.inj (h1.symm.trans h2)
def pianolalaw05_InstrOps.l0 : Nat → Int → ByteArray → ByteArray → ByteArray → Int → Bool → Int → Bool → Int → Option (Bool)
  | 0, _, _, _, _, _, _, _, _, _ => none
  | k + 1, x0, x1, x5, x6, x7, x8, x9, x10, x11 => if x11 < 51 then (if x1.toList = ([] : List UInt8) then (pianolalaw05_InstrOps.l0 k x0 x1 x5 x6 x7 x8 x9 x10 (wrap64 (x11 + 1))) else ((pianolaref05_Name.f k x11).bind fun t212 => (if t212.toList = x1.toList then (pianolalaw05_InstrOps.l0 k x0 x1 x5 x6 x7 x8 x11 true (wrap64 (x11 + 1))) else (pianolalaw05_InstrOps.l0 k x0 x1 x5 x6 x7 x8 x9 x10 (wrap64 (x11 + 1)))))) else ((pianolalaw05_lives.f).bind fun t213 => (if t213 = true then ((instr_Known.f x0).bind fun t214 => ((pianolaref05_Known.f k x0).bind fun t215 => (if (t214 == t215) = true then ((instr_Pure.f x0).bind fun t216 => ((pianolaref05_Known.f k x0).bind fun t217 => (if t217 = true then (if (t216 == (decide (x0 < 48))) = true then ((instr_Size.f k x0).bind fun t218 => ((pianolaref05_Size.f k x0).bind fun t219 => (if t218 = t219 then ((instr_Name.f x0).bind fun t220 => ((pianolaref05_Name.f k x0).bind fun t221 => (if t220.toList = t221.toList then ((instr_Takes.f k x0).bind fun t222 => ((pianolalaw05_sameKinds.f k t222 x5).bind fun t225 => (if t225 = true then ((instr_Gives.f k x0).bind fun t226 => ((pianolalaw05_sameKinds.f k t226 x6).bind fun t229 => (if t229 = true then (if x7 = x9 then (some (x8 == x10)) else (some false)) else (some false)))) else (some false)))) else (some false)))) else (some false)))) else (some false)) else (if (t216 == false) = true then ((instr_Size.f k x0).bind fun t230 => ((pianolaref05_Size.f k x0).bind fun t231 => (if t230 = t231 then ((instr_Name.f x0).bind fun t232 => ((pianolaref05_Name.f k x0).bind fun t233 => (if t232.toList = t233.toList then ((instr_Takes.f k x0).bind fun t234 => ((pianolalaw05_sameKinds.f k t234 x5).bind fun t237 => (if t237 = true then ((instr_Gives.f k x0).bind fun t238 => ((pianolalaw05_sameKinds.f k t238 x6).bind fun t241 => (if t241 = true then (if x7 = x9 then (some (x8 == x10)) else (some false)) else (some false)))) else (some false)))) else (some false)))) else (some false)))) else (some false))))) else (some false)))) else (some false)))
def pianolalaw05_InstrOps.f (k : Nat) (a0 : Int) (a1 : ByteArray) : Option (Bool) := (pianolaref05_Stack.f k a0).bind fun bt208 => ((instr_Named.f k a1).bind fun bt210 => (pianolalaw05_InstrOps.l0 k a0 a1 bt208.1 bt208.2 bt210.1 bt210.2 0 false 0))
theorem pianolalaw05_InstrOps.mono_l : ∀ k, (∀ y0 y1 y2 y3 y4 y5 y6 y7 y8, LeO (pianolalaw05_InstrOps.l0 k y0 y1 y2 y3 y4 y5 y6 y7 y8) (pianolalaw05_InstrOps.l0 (k + 1) y0 y1 y2 y3 y4 y5 y6 y7 y8))
  | 0 => fun _ _ _ _ _ _ _ _ _ r h => by simp [pianolalaw05_InstrOps.l0] at h
  | k + 1 => by
    have ih0 := pianolalaw05_InstrOps.mono_l k
    · intro y0 y1 y2 y3 y4 y5 y6 y7 y8
      unfold pianolalaw05_InstrOps.l0
      repeat' first
      | (with_reducible exact ih0 _ _ _ _ _ _ _ _ _)
      | (with_reducible exact instr_Gives.mono _ _)
      | (with_reducible exact instr_Named.mono _ _)
      | (with_reducible exact instr_Size.mono _ _)
      | (with_reducible exact instr_Takes.mono _ _)
      | (with_reducible exact pianolalaw05_sameKinds.mono _ _ _)
      | (with_reducible exact pianolaref05_Known.mono _ _)
      | (with_reducible exact pianolaref05_Name.mono _ _)
      | (with_reducible exact pianolaref05_Size.mono _ _)
      | (with_reducible exact pianolaref05_Stack.mono _ _)
      | (with_reducible exact LeO.refl _)
      | (with_reducible exact LeO.none _)
      | (with_reducible refine LeO.ite ?_ ?_)
      | (with_reducible refine LeO.bind ?_ (fun _ => ?_))
      | exact ih0 _ _ _ _ _ _ _ _ _
      | exact instr_Gives.mono _ _
      | exact instr_Named.mono _ _
      | exact instr_Size.mono _ _
      | exact instr_Takes.mono _ _
      | exact pianolalaw05_sameKinds.mono _ _ _
      | exact pianolaref05_Known.mono _ _
      | exact pianolaref05_Name.mono _ _
      | exact pianolaref05_Size.mono _ _
      | exact pianolaref05_Stack.mono _ _
      | exact LeO.none _
      | refine LeO.ite ?_ ?_
      | refine LeO.bind ?_ (fun _ => ?_)
theorem pianolalaw05_InstrOps.mono : ∀ a0 a1 k, LeO (pianolalaw05_InstrOps.f k a0 a1) (pianolalaw05_InstrOps.f (k + 1) a0 a1) := by
  intro a0 a1 k
  have ih0 := pianolalaw05_InstrOps.mono_l k
  unfold pianolalaw05_InstrOps.f
  repeat' first
      | (with_reducible exact ih0 _ _ _ _ _ _ _ _ _)
      | (with_reducible exact instr_Gives.mono _ _)
      | (with_reducible exact instr_Named.mono _ _)
      | (with_reducible exact instr_Size.mono _ _)
      | (with_reducible exact instr_Takes.mono _ _)
      | (with_reducible exact pianolalaw05_sameKinds.mono _ _ _)
      | (with_reducible exact pianolaref05_Known.mono _ _)
      | (with_reducible exact pianolaref05_Name.mono _ _)
      | (with_reducible exact pianolaref05_Size.mono _ _)
      | (with_reducible exact pianolaref05_Stack.mono _ _)
      | (with_reducible exact LeO.refl _)
      | (with_reducible exact LeO.none _)
      | (with_reducible refine LeO.ite ?_ ?_)
      | (with_reducible refine LeO.bind ?_ (fun _ => ?_))
      | exact ih0 _ _ _ _ _ _ _ _ _
      | exact instr_Gives.mono _ _
      | exact instr_Named.mono _ _
      | exact instr_Size.mono _ _
      | exact instr_Takes.mono _ _
      | exact pianolalaw05_sameKinds.mono _ _ _
      | exact pianolaref05_Known.mono _ _
      | exact pianolaref05_Name.mono _ _
      | exact pianolaref05_Size.mono _ _
      | exact pianolaref05_Stack.mono _ _
      | exact LeO.none _
      | refine LeO.ite ?_ ?_
      | refine LeO.bind ?_ (fun _ => ?_)
set_option maxHeartbeats 8000000 in
set_option maxRecDepth 100000 in
theorem pianolalaw05_InstrOps.calls (k : Nat) (a0 : Int) (a1 : ByteArray) (r : Bool) (w : World) (h : pianolalaw05_InstrOps.f k a0 a1 = some r) :
    Calls Try.prog 7 #[.int .i64 a0, .string a1] w fun e w' => e = .returned (.bool r) ∧ Below w.heap.size w w' := by
  have HB := Aside0.mk (Below.refl w.heap.size w)
  have H : ((pianolaref05_Stack.f k a0).bind fun bt208 => ((instr_Named.f k a1).bind fun bt210 => (pianolalaw05_InstrOps.l0 k a0 a1 bt208.1 bt208.2 bt210.1 bt210.2 0 false 0))) = some r := h
  clear h
  replace H := Option.bind_eq_some_iff.mp H
  obtain ⟨⟨t208, t209⟩, A30, H⟩ := H
  replace H : ((instr_Named.f k a1).bind fun bt210 => (pianolalaw05_InstrOps.l0 k a0 a1 t208 t209 bt210.1 bt210.2 0 false 0)) = some r := H
  have A3 := Aside0.mk A30
  clear A30
  replace H := Option.bind_eq_some_iff.mp H
  obtain ⟨⟨t210, t211⟩, A40, H⟩ := H
  replace H : (pianolalaw05_InstrOps.l0 k a0 a1 t208 t209 t210 t211 0 false 0) = some r := H
  have A4 := Aside0.mk A40
  clear A40
  have H' := Aside0.mk H
  clear H
  go_enter Try.func7, Try.ntmps7
  go_wp2_with (first | ((with_reducible refine gate_callee (f := 26) rfl ?_); refine goesL_ (some 14) rfl rfl Try.func26 (by kernel_rfl) rfl #[.int .i64 a0] rfl (by (try simp only [List.map_toArray, List.map_cons, List.map_nil]); first | done | rfl | (simp only [List.length_drop, List.length_take]; rfl)) ?_; (with_reducible refine (pianolaref05_Stack.calls k a0 t208 t209 _ A3.out).mono ?_); rintro e w' ⟨rfl, ⟨nd, rfl⟩⟩; refine ⟨_, rfl, ?_⟩) | ((with_reducible refine gate_callee (f := 14) rfl ?_); refine goesL_ (some 19) rfl rfl Try.func14 (by kernel_rfl) rfl #[.string a1] rfl (by (try simp only [List.map_toArray, List.map_cons, List.map_nil]); first | done | rfl | (simp only [List.length_drop, List.length_take]; rfl)) ?_; (with_reducible refine (instr_Named.calls k a1 t210 t211 _ A4.out).mono ?_); rintro e w' ⟨rfl, ⟨nd, rfl⟩⟩; refine ⟨_, rfl, ?_⟩))
  go_loopg [9, 10, 11] k (fun kq v9 v10 v11 w' => ∃ (x9_1 : Int) (x10_1 : Bool) (x11_1 : Int), v9 = .int .i64 x9_1 ∧ v10 = .bool x10_1 ∧ v11 = .int .i64 x11_1 ∧ Aside0 (pianolalaw05_InstrOps.l0 kq a0 a1 t208 t209 t210 t211 x9_1 x10_1 x11_1 = some r) ∧ Aside0 (kq ≤ k) ∧ Aside0 (Below w.heap.size w w'))
  case atStart => exact ⟨(0), (false), (0), (by first | rfl | (simp; done) | (simp [*]; done)), (by first | rfl | (simp; done) | (simp [*]; done)), (by first | rfl | (simp; done) | (simp [*]; done)), H', ⟨Nat.le_refl _⟩, ⟨by repeat (first | (with_reducible first | exact HB.out | apply below_alloc | apply pw_below_drewN | apply below_drew1) | exact HB.out)⟩⟩
  case round =>
    clear H'
    try clear c1
    try clear c2
    try clear p2
    obtain ⟨x9_1, x10_1, x11_1, rfl, rfl, rfl, HA, HK1, HB⟩ := hrel
    cases gk with
    | zero => exact absurd HA.out (by simp [pianolalaw05_InstrOps.l0])
    | succ k1 =>
      have H := HA.out
      clear HA
      simp only [pianolalaw05_InstrOps.l0] at H
      by_cases c5 : x11_1 < 51
      · rw [if_pos c5] at H
        have c5b0 : decide (x11_1 < 51) = true := decide_eq_true c5
        clear c5
        by_cases c6 : a1.toList = ([] : List UInt8)
        · rw [if_pos c6] at H
          have c6b0 : (a1.toList).isEmpty = true := List.isEmpty_iff.mpr c6
          clear c6
          have H' := Aside0.mk H
          clear H
          go_wp2
          go_roundg k1
          case measure => have := HK1.out; omega
          case rel => exact ⟨(x9_1), (x10_1), (wrap64 (x11_1 + 1)), (by first | rfl | (simp; done) | (simp [*]; done)), (by first | rfl | (simp; done) | (simp [*]; done)), (by first | rfl | (simp; done) | (simp [*]; done)), H', ⟨by have := HK1.out; omega⟩, ⟨by repeat (first | (with_reducible first | exact HB.out | apply below_alloc | apply pw_below_drewN | apply below_drew1) | exact HB.out)⟩⟩
        · rw [if_neg c6] at H
          have c6b0 : (a1.toList).isEmpty = false := List.isEmpty_eq_false_iff.mpr c6
          replace H := Option.bind_eq_some_iff.mp H
          obtain ⟨t212, A70, H⟩ := H
          replace H : (if t212.toList = a1.toList then (pianolalaw05_InstrOps.l0 k1 a0 a1 t208 t209 t210 t211 x11_1 true (wrap64 (x11_1 + 1))) else (pianolalaw05_InstrOps.l0 k1 a0 a1 t208 t209 t210 t211 x9_1 x10_1 (wrap64 (x11_1 + 1)))) = some r := H
          have A7 := Aside0.mk A70
          clear A70
          by_cases c8 : t212.toList = a1.toList
          · rw [if_pos c8] at H
            have c8b0 : (t212.toList == a1.toList) = true := beq_iff_eq.mpr c8
            have c8b1 : (t212.toList != a1.toList) = false := bne_eq_false_iff_eq.mpr c8
            clear c8
            have H' := Aside0.mk H
            clear H
            go_wp2_with (first | (go_at_call 27; (with_reducible refine (pianolaref05_Name.calls k1 x11_1 t212 _ A7.out).mono ?_); rintro e w9 ⟨rfl, hb⟩; have n0_ := Aside0.mk (below_step (by repeat (first | (with_reducible first | exact HB.out | apply below_alloc | apply pw_below_drewN | apply below_drew1) | exact HB.out)) hb); clear HB; have HB := n0_; clear n0_; (try clear hb); (try clear hb2); (try clear hk); (try clear hi)))
            go_roundg k1
            case measure => have := HK1.out; omega
            case rel => exact ⟨(x11_1), (true), (wrap64 (x11_1 + 1)), (by first | rfl | (simp; done) | (simp [*]; done)), (by first | rfl | (simp; done) | (simp [*]; done)), (by first | rfl | (simp; done) | (simp [*]; done)), H', ⟨by have := HK1.out; omega⟩, ⟨by repeat (first | (with_reducible first | exact HB.out | apply below_alloc | apply pw_below_drewN | apply below_drew1) | exact HB.out)⟩⟩
          · rw [if_neg c8] at H
            have c8b0 : (t212.toList == a1.toList) = false := beq_eq_false_iff_ne.mpr c8
            have c8b1 : (t212.toList != a1.toList) = true := bne_iff_ne.mpr c8
            have H' := Aside0.mk H
            clear H
            go_wp2_with (first | (go_at_call 27; (with_reducible refine (pianolaref05_Name.calls k1 x11_1 t212 _ A7.out).mono ?_); rintro e w10 ⟨rfl, hb⟩; have n0_ := Aside0.mk (below_step (by repeat (first | (with_reducible first | exact HB.out | apply below_alloc | apply pw_below_drewN | apply below_drew1) | exact HB.out)) hb); clear HB; have HB := n0_; clear n0_; (try clear hb); (try clear hb2); (try clear hk); (try clear hi)))
            go_roundg k1
            case measure => have := HK1.out; omega
            case rel => exact ⟨(x9_1), (x10_1), (wrap64 (x11_1 + 1)), (by first | rfl | (simp; done) | (simp [*]; done)), (by first | rfl | (simp; done) | (simp [*]; done)), (by first | rfl | (simp; done) | (simp [*]; done)), H', ⟨by have := HK1.out; omega⟩, ⟨by repeat (first | (with_reducible first | exact HB.out | apply below_alloc | apply pw_below_drewN | apply below_drew1) | exact HB.out)⟩⟩
      · rw [if_neg c5] at H
        have c5b0 : decide (x11_1 < 51) = false := decide_eq_false c5
        clear c5
        replace H := Option.bind_eq_some_iff.mp H
        obtain ⟨t213, A110, H⟩ := H
        replace H : (if t213 = true then ((instr_Known.f a0).bind fun t214 => ((pianolaref05_Known.f k1 a0).bind fun t215 => (if (t214 == t215) = true then ((instr_Pure.f a0).bind fun t216 => ((pianolaref05_Known.f k1 a0).bind fun t217 => (if t217 = true then (if (t216 == (decide (a0 < 48))) = true then ((instr_Size.f k1 a0).bind fun t218 => ((pianolaref05_Size.f k1 a0).bind fun t219 => (if t218 = t219 then ((instr_Name.f a0).bind fun t220 => ((pianolaref05_Name.f k1 a0).bind fun t221 => (if t220.toList = t221.toList then ((instr_Takes.f k1 a0).bind fun t222 => ((pianolalaw05_sameKinds.f k1 t222 t208).bind fun t225 => (if t225 = true then ((instr_Gives.f k1 a0).bind fun t226 => ((pianolalaw05_sameKinds.f k1 t226 t209).bind fun t229 => (if t229 = true then (if t210 = x9_1 then (some (t211 == x10_1)) else (some false)) else (some false)))) else (some false)))) else (some false)))) else (some false)))) else (some false)) else (if (t216 == false) = true then ((instr_Size.f k1 a0).bind fun t230 => ((pianolaref05_Size.f k1 a0).bind fun t231 => (if t230 = t231 then ((instr_Name.f a0).bind fun t232 => ((pianolaref05_Name.f k1 a0).bind fun t233 => (if t232.toList = t233.toList then ((instr_Takes.f k1 a0).bind fun t234 => ((pianolalaw05_sameKinds.f k1 t234 t208).bind fun t237 => (if t237 = true then ((instr_Gives.f k1 a0).bind fun t238 => ((pianolalaw05_sameKinds.f k1 t238 t209).bind fun t241 => (if t241 = true then (if t210 = x9_1 then (some (t211 == x10_1)) else (some false)) else (some false)))) else (some false)))) else (some false)))) else (some false)))) else (some false))))) else (some false)))) else (some false)) = some r := H
        have A11 := Aside0.mk A110
        clear A110
        by_cases c12 : t213 = true
        · subst c12
          have H1 : ((instr_Known.f a0).bind fun t214 => ((pianolaref05_Known.f k1 a0).bind fun t215 => (if (t214 == t215) = true then ((instr_Pure.f a0).bind fun t216 => ((pianolaref05_Known.f k1 a0).bind fun t217 => (if t217 = true then (if (t216 == (decide (a0 < 48))) = true then ((instr_Size.f k1 a0).bind fun t218 => ((pianolaref05_Size.f k1 a0).bind fun t219 => (if t218 = t219 then ((instr_Name.f a0).bind fun t220 => ((pianolaref05_Name.f k1 a0).bind fun t221 => (if t220.toList = t221.toList then ((instr_Takes.f k1 a0).bind fun t222 => ((pianolalaw05_sameKinds.f k1 t222 t208).bind fun t225 => (if t225 = true then ((instr_Gives.f k1 a0).bind fun t226 => ((pianolalaw05_sameKinds.f k1 t226 t209).bind fun t229 => (if t229 = true then (if t210 = x9_1 then (some (t211 == x10_1)) else (some false)) else (some false)))) else (some false)))) else (some false)))) else (some false)))) else (some false)) else (if (t216 == false) = true then ((instr_Size.f k1 a0).bind fun t230 => ((pianolaref05_Size.f k1 a0).bind fun t231 => (if t230 = t231 then ((instr_Name.f a0).bind fun t232 => ((pianolaref05_Name.f k1 a0).bind fun t233 => (if t232.toList = t233.toList then ((instr_Takes.f k1 a0).bind fun t234 => ((pianolalaw05_sameKinds.f k1 t234 t208).bind fun t237 => (if t237 = true then ((instr_Gives.f k1 a0).bind fun t238 => ((pianolalaw05_sameKinds.f k1 t238 t209).bind fun t241 => (if t241 = true then (if t210 = x9_1 then (some (t211 == x10_1)) else (some false)) else (some false)))) else (some false)))) else (some false)))) else (some false)))) else (some false))))) else (some false)))) = some r := by rw [if_pos rfl] at H; exact H
          clear H
          have H := H1
          clear H1
          replace H := Option.bind_eq_some_iff.mp H
          obtain ⟨t214, A130, H⟩ := H
          replace H : ((pianolaref05_Known.f k1 a0).bind fun t215 => (if (t214 == t215) = true then ((instr_Pure.f a0).bind fun t216 => ((pianolaref05_Known.f k1 a0).bind fun t217 => (if t217 = true then (if (t216 == (decide (a0 < 48))) = true then ((instr_Size.f k1 a0).bind fun t218 => ((pianolaref05_Size.f k1 a0).bind fun t219 => (if t218 = t219 then ((instr_Name.f a0).bind fun t220 => ((pianolaref05_Name.f k1 a0).bind fun t221 => (if t220.toList = t221.toList then ((instr_Takes.f k1 a0).bind fun t222 => ((pianolalaw05_sameKinds.f k1 t222 t208).bind fun t225 => (if t225 = true then ((instr_Gives.f k1 a0).bind fun t226 => ((pianolalaw05_sameKinds.f k1 t226 t209).bind fun t229 => (if t229 = true then (if t210 = x9_1 then (some (t211 == x10_1)) else (some false)) else (some false)))) else (some false)))) else (some false)))) else (some false)))) else (some false)) else (if (t216 == false) = true then ((instr_Size.f k1 a0).bind fun t230 => ((pianolaref05_Size.f k1 a0).bind fun t231 => (if t230 = t231 then ((instr_Name.f a0).bind fun t232 => ((pianolaref05_Name.f k1 a0).bind fun t233 => (if t232.toList = t233.toList then ((instr_Takes.f k1 a0).bind fun t234 => ((pianolalaw05_sameKinds.f k1 t234 t208).bind fun t237 => (if t237 = true then ((instr_Gives.f k1 a0).bind fun t238 => ((pianolalaw05_sameKinds.f k1 t238 t209).bind fun t241 => (if t241 = true then (if t210 = x9_1 then (some (t211 == x10_1)) else (some false)) else (some false)))) else (some false)))) else (some false)))) else (some false)))) else (some false))))) else (some false))) = some r := H
          have A13 := Aside0.mk A130
          clear A130
          replace H := Option.bind_eq_some_iff.mp H
          obtain ⟨t215, A140, H⟩ := H
          replace H : (if (t214 == t215) = true then ((instr_Pure.f a0).bind fun t216 => ((pianolaref05_Known.f k1 a0).bind fun t217 => (if t217 = true then (if (t216 == (decide (a0 < 48))) = true then ((instr_Size.f k1 a0).bind fun t218 => ((pianolaref05_Size.f k1 a0).bind fun t219 => (if t218 = t219 then ((instr_Name.f a0).bind fun t220 => ((pianolaref05_Name.f k1 a0).bind fun t221 => (if t220.toList = t221.toList then ((instr_Takes.f k1 a0).bind fun t222 => ((pianolalaw05_sameKinds.f k1 t222 t208).bind fun t225 => (if t225 = true then ((instr_Gives.f k1 a0).bind fun t226 => ((pianolalaw05_sameKinds.f k1 t226 t209).bind fun t229 => (if t229 = true then (if t210 = x9_1 then (some (t211 == x10_1)) else (some false)) else (some false)))) else (some false)))) else (some false)))) else (some false)))) else (some false)) else (if (t216 == false) = true then ((instr_Size.f k1 a0).bind fun t230 => ((pianolaref05_Size.f k1 a0).bind fun t231 => (if t230 = t231 then ((instr_Name.f a0).bind fun t232 => ((pianolaref05_Name.f k1 a0).bind fun t233 => (if t232.toList = t233.toList then ((instr_Takes.f k1 a0).bind fun t234 => ((pianolalaw05_sameKinds.f k1 t234 t208).bind fun t237 => (if t237 = true then ((instr_Gives.f k1 a0).bind fun t238 => ((pianolalaw05_sameKinds.f k1 t238 t209).bind fun t241 => (if t241 = true then (if t210 = x9_1 then (some (t211 == x10_1)) else (some false)) else (some false)))) else (some false)))) else (some false)))) else (some false)))) else (some false))))) else (some false)) = some r := H
          have A14 := Aside0.mk A140
          clear A140
          by_cases c15 : (t214 == t215) = true
          · rw [if_pos c15] at H
            have c15b0 : (t214 == t215) = true := c15
            (try (have c15b1 : decide (t214 = t215) = true := by simpa using c15))
            (try (have c15b2 : (t214 == t215) = true := by simpa using c15))
            clear c15
            replace H := Option.bind_eq_some_iff.mp H
            obtain ⟨t216, A160, H⟩ := H
            replace H : ((pianolaref05_Known.f k1 a0).bind fun t217 => (if t217 = true then (if (t216 == (decide (a0 < 48))) = true then ((instr_Size.f k1 a0).bind fun t218 => ((pianolaref05_Size.f k1 a0).bind fun t219 => (if t218 = t219 then ((instr_Name.f a0).bind fun t220 => ((pianolaref05_Name.f k1 a0).bind fun t221 => (if t220.toList = t221.toList then ((instr_Takes.f k1 a0).bind fun t222 => ((pianolalaw05_sameKinds.f k1 t222 t208).bind fun t225 => (if t225 = true then ((instr_Gives.f k1 a0).bind fun t226 => ((pianolalaw05_sameKinds.f k1 t226 t209).bind fun t229 => (if t229 = true then (if t210 = x9_1 then (some (t211 == x10_1)) else (some false)) else (some false)))) else (some false)))) else (some false)))) else (some false)))) else (some false)) else (if (t216 == false) = true then ((instr_Size.f k1 a0).bind fun t230 => ((pianolaref05_Size.f k1 a0).bind fun t231 => (if t230 = t231 then ((instr_Name.f a0).bind fun t232 => ((pianolaref05_Name.f k1 a0).bind fun t233 => (if t232.toList = t233.toList then ((instr_Takes.f k1 a0).bind fun t234 => ((pianolalaw05_sameKinds.f k1 t234 t208).bind fun t237 => (if t237 = true then ((instr_Gives.f k1 a0).bind fun t238 => ((pianolalaw05_sameKinds.f k1 t238 t209).bind fun t241 => (if t241 = true then (if t210 = x9_1 then (some (t211 == x10_1)) else (some false)) else (some false)))) else (some false)))) else (some false)))) else (some false)))) else (some false)))) = some r := H
            have A16 := Aside0.mk A160
            clear A160
            replace H := Option.bind_eq_some_iff.mp H
            obtain ⟨t217, A170, H⟩ := H
            replace H : (if t217 = true then (if (t216 == (decide (a0 < 48))) = true then ((instr_Size.f k1 a0).bind fun t218 => ((pianolaref05_Size.f k1 a0).bind fun t219 => (if t218 = t219 then ((instr_Name.f a0).bind fun t220 => ((pianolaref05_Name.f k1 a0).bind fun t221 => (if t220.toList = t221.toList then ((instr_Takes.f k1 a0).bind fun t222 => ((pianolalaw05_sameKinds.f k1 t222 t208).bind fun t225 => (if t225 = true then ((instr_Gives.f k1 a0).bind fun t226 => ((pianolalaw05_sameKinds.f k1 t226 t209).bind fun t229 => (if t229 = true then (if t210 = x9_1 then (some (t211 == x10_1)) else (some false)) else (some false)))) else (some false)))) else (some false)))) else (some false)))) else (some false)) else (if (t216 == false) = true then ((instr_Size.f k1 a0).bind fun t230 => ((pianolaref05_Size.f k1 a0).bind fun t231 => (if t230 = t231 then ((instr_Name.f a0).bind fun t232 => ((pianolaref05_Name.f k1 a0).bind fun t233 => (if t232.toList = t233.toList then ((instr_Takes.f k1 a0).bind fun t234 => ((pianolalaw05_sameKinds.f k1 t234 t208).bind fun t237 => (if t237 = true then ((instr_Gives.f k1 a0).bind fun t238 => ((pianolalaw05_sameKinds.f k1 t238 t209).bind fun t241 => (if t241 = true then (if t210 = x9_1 then (some (t211 == x10_1)) else (some false)) else (some false)))) else (some false)))) else (some false)))) else (some false)))) else (some false))) = some r := H
            have A17 := Aside0.mk A170
            clear A170
            by_cases c18 : t217 = true
            · subst c18
              have H1 : (if (t216 == (decide (a0 < 48))) = true then ((instr_Size.f k1 a0).bind fun t218 => ((pianolaref05_Size.f k1 a0).bind fun t219 => (if t218 = t219 then ((instr_Name.f a0).bind fun t220 => ((pianolaref05_Name.f k1 a0).bind fun t221 => (if t220.toList = t221.toList then ((instr_Takes.f k1 a0).bind fun t222 => ((pianolalaw05_sameKinds.f k1 t222 t208).bind fun t225 => (if t225 = true then ((instr_Gives.f k1 a0).bind fun t226 => ((pianolalaw05_sameKinds.f k1 t226 t209).bind fun t229 => (if t229 = true then (if t210 = x9_1 then (some (t211 == x10_1)) else (some false)) else (some false)))) else (some false)))) else (some false)))) else (some false)))) else (some false)) = some r := by rw [if_pos rfl] at H; exact H
              clear H
              have H := H1
              clear H1
              by_cases c19 : (t216 == (decide (a0 < 48))) = true
              · rw [if_pos c19] at H
                have c19b0 : (t216 == (decide (a0 < 48))) = true := c19
                (try (have c19b1 : decide (t216 = (decide (a0 < 48))) = true := by simpa using c19))
                (try (have c19b2 : (t216 == (decide (a0 < 48))) = true := by simpa using c19))
                clear c19
                replace H := Option.bind_eq_some_iff.mp H
                obtain ⟨t218, A200, H⟩ := H
                replace H : ((pianolaref05_Size.f k1 a0).bind fun t219 => (if t218 = t219 then ((instr_Name.f a0).bind fun t220 => ((pianolaref05_Name.f k1 a0).bind fun t221 => (if t220.toList = t221.toList then ((instr_Takes.f k1 a0).bind fun t222 => ((pianolalaw05_sameKinds.f k1 t222 t208).bind fun t225 => (if t225 = true then ((instr_Gives.f k1 a0).bind fun t226 => ((pianolalaw05_sameKinds.f k1 t226 t209).bind fun t229 => (if t229 = true then (if t210 = x9_1 then (some (t211 == x10_1)) else (some false)) else (some false)))) else (some false)))) else (some false)))) else (some false))) = some r := H
                have A20 := Aside0.mk A200
                clear A200
                replace H := Option.bind_eq_some_iff.mp H
                obtain ⟨t219, A210, H⟩ := H
                replace H : (if t218 = t219 then ((instr_Name.f a0).bind fun t220 => ((pianolaref05_Name.f k1 a0).bind fun t221 => (if t220.toList = t221.toList then ((instr_Takes.f k1 a0).bind fun t222 => ((pianolalaw05_sameKinds.f k1 t222 t208).bind fun t225 => (if t225 = true then ((instr_Gives.f k1 a0).bind fun t226 => ((pianolalaw05_sameKinds.f k1 t226 t209).bind fun t229 => (if t229 = true then (if t210 = x9_1 then (some (t211 == x10_1)) else (some false)) else (some false)))) else (some false)))) else (some false)))) else (some false)) = some r := H
                have A21 := Aside0.mk A210
                clear A210
                by_cases c22 : t218 = t219
                · rw [if_pos c22] at H
                  have c22b0 : (t218 == t219) = true := beq_iff_eq.mpr c22
                  have c22b1 : (t218 != t219) = false := bne_eq_false_iff_eq.mpr c22
                  clear c22
                  replace H := Option.bind_eq_some_iff.mp H
                  obtain ⟨t220, A230, H⟩ := H
                  replace H : ((pianolaref05_Name.f k1 a0).bind fun t221 => (if t220.toList = t221.toList then ((instr_Takes.f k1 a0).bind fun t222 => ((pianolalaw05_sameKinds.f k1 t222 t208).bind fun t225 => (if t225 = true then ((instr_Gives.f k1 a0).bind fun t226 => ((pianolalaw05_sameKinds.f k1 t226 t209).bind fun t229 => (if t229 = true then (if t210 = x9_1 then (some (t211 == x10_1)) else (some false)) else (some false)))) else (some false)))) else (some false))) = some r := H
                  have A23 := Aside0.mk A230
                  clear A230
                  replace H := Option.bind_eq_some_iff.mp H
                  obtain ⟨t221, A240, H⟩ := H
                  replace H : (if t220.toList = t221.toList then ((instr_Takes.f k1 a0).bind fun t222 => ((pianolalaw05_sameKinds.f k1 t222 t208).bind fun t225 => (if t225 = true then ((instr_Gives.f k1 a0).bind fun t226 => ((pianolalaw05_sameKinds.f k1 t226 t209).bind fun t229 => (if t229 = true then (if t210 = x9_1 then (some (t211 == x10_1)) else (some false)) else (some false)))) else (some false)))) else (some false)) = some r := H
                  have A24 := Aside0.mk A240
                  clear A240
                  by_cases c25 : t220.toList = t221.toList
                  · rw [if_pos c25] at H
                    have c25b0 : (t220.toList == t221.toList) = true := beq_iff_eq.mpr c25
                    have c25b1 : (t220.toList != t221.toList) = false := bne_eq_false_iff_eq.mpr c25
                    clear c25
                    replace H := Option.bind_eq_some_iff.mp H
                    obtain ⟨t222, A260, H⟩ := H
                    replace H : ((pianolalaw05_sameKinds.f k1 t222 t208).bind fun t225 => (if t225 = true then ((instr_Gives.f k1 a0).bind fun t226 => ((pianolalaw05_sameKinds.f k1 t226 t209).bind fun t229 => (if t229 = true then (if t210 = x9_1 then (some (t211 == x10_1)) else (some false)) else (some false)))) else (some false))) = some r := H
                    have A26 := Aside0.mk A260
                    clear A260
                    replace H := Option.bind_eq_some_iff.mp H
                    obtain ⟨t225, A270, H⟩ := H
                    replace H : (if t225 = true then ((instr_Gives.f k1 a0).bind fun t226 => ((pianolalaw05_sameKinds.f k1 t226 t209).bind fun t229 => (if t229 = true then (if t210 = x9_1 then (some (t211 == x10_1)) else (some false)) else (some false)))) else (some false)) = some r := H
                    have A27 := Aside0.mk A270
                    clear A270
                    by_cases c28 : t225 = true
                    · subst c28
                      have H1 : ((instr_Gives.f k1 a0).bind fun t226 => ((pianolalaw05_sameKinds.f k1 t226 t209).bind fun t229 => (if t229 = true then (if t210 = x9_1 then (some (t211 == x10_1)) else (some false)) else (some false)))) = some r := by rw [if_pos rfl] at H; exact H
                      clear H
                      have H := H1
                      clear H1
                      replace H := Option.bind_eq_some_iff.mp H
                      obtain ⟨t226, A290, H⟩ := H
                      replace H : ((pianolalaw05_sameKinds.f k1 t226 t209).bind fun t229 => (if t229 = true then (if t210 = x9_1 then (some (t211 == x10_1)) else (some false)) else (some false))) = some r := H
                      have A29 := Aside0.mk A290
                      clear A290
                      replace H := Option.bind_eq_some_iff.mp H
                      obtain ⟨t229, A300, H⟩ := H
                      replace H : (if t229 = true then (if t210 = x9_1 then (some (t211 == x10_1)) else (some false)) else (some false)) = some r := H
                      have A30 := Aside0.mk A300
                      clear A300
                      by_cases c31 : t229 = true
                      · subst c31
                        have H1 : (if t210 = x9_1 then (some (t211 == x10_1)) else (some false)) = some r := by rw [if_pos rfl] at H; exact H
                        clear H
                        have H := H1
                        clear H1
                        by_cases c32 : t210 = x9_1
                        · rw [if_pos c32] at H
                          have c32b0 : (t210 == x9_1) = true := beq_iff_eq.mpr c32
                          have c32b1 : (t210 != x9_1) = false := bne_eq_false_iff_eq.mpr c32
                          clear c32
                          obtain rfl := Option.some.inj H
                          (try (have e_ := some_two A14.out A17.out; subst e_))
                          (try (have e_ := beq_res c15b0; subst e_))
                          (try (have e_ := beq_res c19b0; subst e_))
                          (try (have e_ := beq_res c79b0; subst e_))
                          go_wp2_with (first | ((with_reducible refine gate_callee (f := 13) rfl ?_); refine goesL_ (some 35) rfl rfl Try.func13 (by kernel_rfl) rfl #[] rfl (by (try simp only [List.map_toArray, List.map_cons, List.map_nil]); first | done | rfl | (simp only [List.length_drop, List.length_take]; rfl)) ?_; (with_reducible refine (pianolalaw05_lives.calls  true _ A11.out).mono ?_); rintro e w33 ⟨rfl, hb⟩; refine ⟨_, rfl, ?_⟩; have n0_ := Aside0.mk (below_step (by repeat (first | (with_reducible first | exact HB.out | apply below_alloc | apply pw_below_drewN | apply below_drew1) | exact HB.out)) hb); clear HB; have HB := n0_; clear n0_; (try clear hb); (try clear hb2); (try clear hk); (try clear hi)) | (go_at_call 16; (with_reducible refine (instr_Known.calls a0 _ _ A13.out).mono ?_); rintro e w' ⟨rfl, ⟨nd, rfl⟩⟩) | (go_at_call 28; (with_reducible refine (pianolaref05_Known.calls k1 a0 _ _ A14.out).mono ?_); rintro e w34 ⟨rfl, hb⟩; have n0_ := Aside0.mk (below_step (by repeat (first | (with_reducible first | exact HB.out | apply below_alloc | apply pw_below_drewN | apply below_drew1) | exact HB.out)) hb); clear HB; have HB := n0_; clear n0_; (try clear hb); (try clear hb2); (try clear hk); (try clear hi)) | (go_at_call 29; (with_reducible refine (instr_Pure.calls a0 _ _ A16.out).mono ?_); rintro e w' ⟨rfl, ⟨nd, rfl⟩⟩) | (go_at_call 28; (with_reducible refine (pianolaref05_Known.calls k1 a0 true _ A17.out).mono ?_); rintro e w35 ⟨rfl, hb⟩; have n0_ := Aside0.mk (below_step (by repeat (first | (with_reducible first | exact HB.out | apply below_alloc | apply pw_below_drewN | apply below_drew1) | exact HB.out)) hb); clear HB; have HB := n0_; clear n0_; (try clear hb); (try clear hb2); (try clear hk); (try clear hi)) | (go_at_call 25; (with_reducible refine (instr_Size.calls k1 a0 t218 _ A20.out).mono ?_); rintro e w' ⟨rfl, ⟨nd, rfl⟩⟩) | (go_at_call 30; (with_reducible refine (pianolaref05_Size.calls k1 a0 t219 _ A21.out).mono ?_); rintro e w36 ⟨rfl, hb⟩; have n0_ := Aside0.mk (below_step (by repeat (first | (with_reducible first | exact HB.out | apply below_alloc | apply pw_below_drewN | apply below_drew1) | exact HB.out)) hb); clear HB; have HB := n0_; clear n0_; (try clear hb); (try clear hb2); (try clear hk); (try clear hi)) | (go_at_call 15; (with_reducible refine (instr_Name.calls a0 t220 _ A23.out).mono ?_); rintro e w' ⟨rfl, ⟨nd, rfl⟩⟩) | (go_at_call 27; (with_reducible refine (pianolaref05_Name.calls k1 a0 t221 _ A24.out).mono ?_); rintro e w37 ⟨rfl, hb⟩; have n0_ := Aside0.mk (below_step (by repeat (first | (with_reducible first | exact HB.out | apply below_alloc | apply pw_below_drewN | apply below_drew1) | exact HB.out)) hb); clear HB; have HB := n0_; clear n0_; (try clear hb); (try clear hb2); (try clear hk); (try clear hi)) | (go_at_call 32; (with_reducible refine (instr_Takes.calls k1 a0 t222 _ A26.out).mono ?_); rintro e w38 ⟨v223, rfl, ho0, hb⟩; have n0_ := Aside0.mk (Kd.R_lower ho0 (below_size (by repeat (first | (with_reducible first | exact HB.out | apply below_alloc | apply pw_below_drewN | apply below_drew1) | exact HB.out)))); have n1_ := Aside0.mk (below_step (by repeat (first | (with_reducible first | exact HB.out | apply below_alloc | apply pw_below_drewN | apply below_drew1) | exact HB.out)) hb); clear HB; have HO224 := n0_; have HB := n1_; clear n0_ n1_; (try clear hb); (try clear hb2); (try clear hk); (try clear hi); (try clear ho0); obtain ⟨Ao39, co39, eo39⟩ := Kd.R_slice HO224.out; subst eo39) | (go_at_call 31; (with_reducible refine (pianolalaw05_sameKinds.calls k1 _ _ t222 t208 true _ ?side1 ?side2 A27.out).mono ?_); (case side1 => repeat (first | exact (Kd.R_reads' HO224.out).2.2 | (with_reducible refine Kd.C_alloc ?_ _) | (with_reducible refine Kd.C_drewN ?_ _) | (with_reducible refine Kd.C_drew ?_))); (case side2 => exact (Kd.R_reads' HO224.out).2.1); rintro e w' ⟨rfl, ⟨nd, rfl⟩⟩) | (go_at_call 33; (with_reducible refine (instr_Gives.calls k1 a0 t226 _ A29.out).mono ?_); rintro e w40 ⟨v227, rfl, ho0, hb⟩; have n0_ := Aside0.mk (Kd.R_elder' (by (with_reducible repeat (first | apply Kd.R_alloc | apply Kd.R_drewN | apply Kd.R_drew)); exact HO224.out) (Kd.R_base ho0) hb); have n1_ := Aside0.mk (Kd.R_lower (Kd.R_new' ho0 (Kd.R_lt (by (with_reducible repeat (first | apply Kd.R_alloc | apply Kd.R_drewN | apply Kd.R_drew)); exact HO224.out))) (below_size (by repeat (first | (with_reducible first | exact HB.out | apply below_alloc | apply pw_below_drewN | apply below_drew1) | exact HB.out)))); have n2_ := Aside0.mk (below_step (by repeat (first | (with_reducible first | exact HB.out | apply below_alloc | apply pw_below_drewN | apply below_drew1) | exact HB.out)) hb); clear HO224; clear HB; have HO224 := n0_; have HO228 := n1_; have HB := n2_; clear n0_ n1_ n2_; (try clear hb); (try clear hb2); (try clear hk); (try clear hi); (try clear ho0); obtain ⟨Ao41, co41, eo41⟩ := Kd.R_slice HO228.out; subst eo41) | (go_at_call 31; (with_reducible refine (pianolalaw05_sameKinds.calls k1 _ _ t226 t209 true _ ?side1 ?side2 A30.out).mono ?_); (case side1 => repeat (first | exact (Kd.R_reads' HO228.out).2.2 | (with_reducible refine Kd.C_alloc ?_ _) | (with_reducible refine Kd.C_drewN ?_ _) | (with_reducible refine Kd.C_drew ?_))); (case side2 => exact (Kd.R_reads' HO228.out).2.1); rintro e w' ⟨rfl, ⟨nd, rfl⟩⟩))
                          go_ret
                          exact ⟨by first | rfl | (simp [errW_none, errW_some] <;> rfl) | (simp [*, errW_none, errW_some] <;> rfl), by repeat (first | (with_reducible first | exact HB.out | apply below_alloc | apply pw_below_drewN | apply below_drew1) | exact HB.out)⟩
                        · rw [if_neg c32] at H
                          have c32b0 : (t210 == x9_1) = false := beq_eq_false_iff_ne.mpr c32
                          have c32b1 : (t210 != x9_1) = true := bne_iff_ne.mpr c32
                          obtain rfl := Option.some.inj H
                          (try (have e_ := some_two A14.out A17.out; subst e_))
                          (try (have e_ := beq_res c15b0; subst e_))
                          (try (have e_ := beq_res c19b0; subst e_))
                          (try (have e_ := beq_res c79b0; subst e_))
                          go_wp2_with (first | ((with_reducible refine gate_callee (f := 13) rfl ?_); refine goesL_ (some 35) rfl rfl Try.func13 (by kernel_rfl) rfl #[] rfl (by (try simp only [List.map_toArray, List.map_cons, List.map_nil]); first | done | rfl | (simp only [List.length_drop, List.length_take]; rfl)) ?_; (with_reducible refine (pianolalaw05_lives.calls  true _ A11.out).mono ?_); rintro e w42 ⟨rfl, hb⟩; refine ⟨_, rfl, ?_⟩; have n0_ := Aside0.mk (below_step (by repeat (first | (with_reducible first | exact HB.out | apply below_alloc | apply pw_below_drewN | apply below_drew1) | exact HB.out)) hb); clear HB; have HB := n0_; clear n0_; (try clear hb); (try clear hb2); (try clear hk); (try clear hi)) | (go_at_call 16; (with_reducible refine (instr_Known.calls a0 _ _ A13.out).mono ?_); rintro e w' ⟨rfl, ⟨nd, rfl⟩⟩) | (go_at_call 28; (with_reducible refine (pianolaref05_Known.calls k1 a0 _ _ A14.out).mono ?_); rintro e w43 ⟨rfl, hb⟩; have n0_ := Aside0.mk (below_step (by repeat (first | (with_reducible first | exact HB.out | apply below_alloc | apply pw_below_drewN | apply below_drew1) | exact HB.out)) hb); clear HB; have HB := n0_; clear n0_; (try clear hb); (try clear hb2); (try clear hk); (try clear hi)) | (go_at_call 29; (with_reducible refine (instr_Pure.calls a0 _ _ A16.out).mono ?_); rintro e w' ⟨rfl, ⟨nd, rfl⟩⟩) | (go_at_call 28; (with_reducible refine (pianolaref05_Known.calls k1 a0 true _ A17.out).mono ?_); rintro e w44 ⟨rfl, hb⟩; have n0_ := Aside0.mk (below_step (by repeat (first | (with_reducible first | exact HB.out | apply below_alloc | apply pw_below_drewN | apply below_drew1) | exact HB.out)) hb); clear HB; have HB := n0_; clear n0_; (try clear hb); (try clear hb2); (try clear hk); (try clear hi)) | (go_at_call 25; (with_reducible refine (instr_Size.calls k1 a0 t218 _ A20.out).mono ?_); rintro e w' ⟨rfl, ⟨nd, rfl⟩⟩) | (go_at_call 30; (with_reducible refine (pianolaref05_Size.calls k1 a0 t219 _ A21.out).mono ?_); rintro e w45 ⟨rfl, hb⟩; have n0_ := Aside0.mk (below_step (by repeat (first | (with_reducible first | exact HB.out | apply below_alloc | apply pw_below_drewN | apply below_drew1) | exact HB.out)) hb); clear HB; have HB := n0_; clear n0_; (try clear hb); (try clear hb2); (try clear hk); (try clear hi)) | (go_at_call 15; (with_reducible refine (instr_Name.calls a0 t220 _ A23.out).mono ?_); rintro e w' ⟨rfl, ⟨nd, rfl⟩⟩) | (go_at_call 27; (with_reducible refine (pianolaref05_Name.calls k1 a0 t221 _ A24.out).mono ?_); rintro e w46 ⟨rfl, hb⟩; have n0_ := Aside0.mk (below_step (by repeat (first | (with_reducible first | exact HB.out | apply below_alloc | apply pw_below_drewN | apply below_drew1) | exact HB.out)) hb); clear HB; have HB := n0_; clear n0_; (try clear hb); (try clear hb2); (try clear hk); (try clear hi)) | (go_at_call 32; (with_reducible refine (instr_Takes.calls k1 a0 t222 _ A26.out).mono ?_); rintro e w47 ⟨v223, rfl, ho0, hb⟩; have n0_ := Aside0.mk (Kd.R_lower ho0 (below_size (by repeat (first | (with_reducible first | exact HB.out | apply below_alloc | apply pw_below_drewN | apply below_drew1) | exact HB.out)))); have n1_ := Aside0.mk (below_step (by repeat (first | (with_reducible first | exact HB.out | apply below_alloc | apply pw_below_drewN | apply below_drew1) | exact HB.out)) hb); clear HB; have HO224 := n0_; have HB := n1_; clear n0_ n1_; (try clear hb); (try clear hb2); (try clear hk); (try clear hi); (try clear ho0); obtain ⟨Ao48, co48, eo48⟩ := Kd.R_slice HO224.out; subst eo48) | (go_at_call 31; (with_reducible refine (pianolalaw05_sameKinds.calls k1 _ _ t222 t208 true _ ?side1 ?side2 A27.out).mono ?_); (case side1 => repeat (first | exact (Kd.R_reads' HO224.out).2.2 | (with_reducible refine Kd.C_alloc ?_ _) | (with_reducible refine Kd.C_drewN ?_ _) | (with_reducible refine Kd.C_drew ?_))); (case side2 => exact (Kd.R_reads' HO224.out).2.1); rintro e w' ⟨rfl, ⟨nd, rfl⟩⟩) | (go_at_call 33; (with_reducible refine (instr_Gives.calls k1 a0 t226 _ A29.out).mono ?_); rintro e w49 ⟨v227, rfl, ho0, hb⟩; have n0_ := Aside0.mk (Kd.R_elder' (by (with_reducible repeat (first | apply Kd.R_alloc | apply Kd.R_drewN | apply Kd.R_drew)); exact HO224.out) (Kd.R_base ho0) hb); have n1_ := Aside0.mk (Kd.R_lower (Kd.R_new' ho0 (Kd.R_lt (by (with_reducible repeat (first | apply Kd.R_alloc | apply Kd.R_drewN | apply Kd.R_drew)); exact HO224.out))) (below_size (by repeat (first | (with_reducible first | exact HB.out | apply below_alloc | apply pw_below_drewN | apply below_drew1) | exact HB.out)))); have n2_ := Aside0.mk (below_step (by repeat (first | (with_reducible first | exact HB.out | apply below_alloc | apply pw_below_drewN | apply below_drew1) | exact HB.out)) hb); clear HO224; clear HB; have HO224 := n0_; have HO228 := n1_; have HB := n2_; clear n0_ n1_ n2_; (try clear hb); (try clear hb2); (try clear hk); (try clear hi); (try clear ho0); obtain ⟨Ao50, co50, eo50⟩ := Kd.R_slice HO228.out; subst eo50) | (go_at_call 31; (with_reducible refine (pianolalaw05_sameKinds.calls k1 _ _ t226 t209 true _ ?side1 ?side2 A30.out).mono ?_); (case side1 => repeat (first | exact (Kd.R_reads' HO228.out).2.2 | (with_reducible refine Kd.C_alloc ?_ _) | (with_reducible refine Kd.C_drewN ?_ _) | (with_reducible refine Kd.C_drew ?_))); (case side2 => exact (Kd.R_reads' HO228.out).2.1); rintro e w' ⟨rfl, ⟨nd, rfl⟩⟩))
                          go_ret
                          exact ⟨by first | rfl | (simp [errW_none, errW_some] <;> rfl) | (simp [*, errW_none, errW_some] <;> rfl), by repeat (first | (with_reducible first | exact HB.out | apply below_alloc | apply pw_below_drewN | apply below_drew1) | exact HB.out)⟩
                      · replace c31 := Bool.eq_false_iff.mpr c31
                        subst c31
                        have H1 : (some false) = some r := by rw [if_neg (show ¬ (false = true) by decide)] at H; exact H
                        clear H
                        have H := H1
                        clear H1
                        obtain rfl := Option.some.inj H
                        (try (have e_ := some_two A14.out A17.out; subst e_))
                        (try (have e_ := beq_res c15b0; subst e_))
                        (try (have e_ := beq_res c19b0; subst e_))
                        (try (have e_ := beq_res c79b0; subst e_))
                        go_wp2_with (first | ((with_reducible refine gate_callee (f := 13) rfl ?_); refine goesL_ (some 35) rfl rfl Try.func13 (by kernel_rfl) rfl #[] rfl (by (try simp only [List.map_toArray, List.map_cons, List.map_nil]); first | done | rfl | (simp only [List.length_drop, List.length_take]; rfl)) ?_; (with_reducible refine (pianolalaw05_lives.calls  true _ A11.out).mono ?_); rintro e w51 ⟨rfl, hb⟩; refine ⟨_, rfl, ?_⟩; have n0_ := Aside0.mk (below_step (by repeat (first | (with_reducible first | exact HB.out | apply below_alloc | apply pw_below_drewN | apply below_drew1) | exact HB.out)) hb); clear HB; have HB := n0_; clear n0_; (try clear hb); (try clear hb2); (try clear hk); (try clear hi)) | (go_at_call 16; (with_reducible refine (instr_Known.calls a0 _ _ A13.out).mono ?_); rintro e w' ⟨rfl, ⟨nd, rfl⟩⟩) | (go_at_call 28; (with_reducible refine (pianolaref05_Known.calls k1 a0 _ _ A14.out).mono ?_); rintro e w52 ⟨rfl, hb⟩; have n0_ := Aside0.mk (below_step (by repeat (first | (with_reducible first | exact HB.out | apply below_alloc | apply pw_below_drewN | apply below_drew1) | exact HB.out)) hb); clear HB; have HB := n0_; clear n0_; (try clear hb); (try clear hb2); (try clear hk); (try clear hi)) | (go_at_call 29; (with_reducible refine (instr_Pure.calls a0 _ _ A16.out).mono ?_); rintro e w' ⟨rfl, ⟨nd, rfl⟩⟩) | (go_at_call 28; (with_reducible refine (pianolaref05_Known.calls k1 a0 true _ A17.out).mono ?_); rintro e w53 ⟨rfl, hb⟩; have n0_ := Aside0.mk (below_step (by repeat (first | (with_reducible first | exact HB.out | apply below_alloc | apply pw_below_drewN | apply below_drew1) | exact HB.out)) hb); clear HB; have HB := n0_; clear n0_; (try clear hb); (try clear hb2); (try clear hk); (try clear hi)) | (go_at_call 25; (with_reducible refine (instr_Size.calls k1 a0 t218 _ A20.out).mono ?_); rintro e w' ⟨rfl, ⟨nd, rfl⟩⟩) | (go_at_call 30; (with_reducible refine (pianolaref05_Size.calls k1 a0 t219 _ A21.out).mono ?_); rintro e w54 ⟨rfl, hb⟩; have n0_ := Aside0.mk (below_step (by repeat (first | (with_reducible first | exact HB.out | apply below_alloc | apply pw_below_drewN | apply below_drew1) | exact HB.out)) hb); clear HB; have HB := n0_; clear n0_; (try clear hb); (try clear hb2); (try clear hk); (try clear hi)) | (go_at_call 15; (with_reducible refine (instr_Name.calls a0 t220 _ A23.out).mono ?_); rintro e w' ⟨rfl, ⟨nd, rfl⟩⟩) | (go_at_call 27; (with_reducible refine (pianolaref05_Name.calls k1 a0 t221 _ A24.out).mono ?_); rintro e w55 ⟨rfl, hb⟩; have n0_ := Aside0.mk (below_step (by repeat (first | (with_reducible first | exact HB.out | apply below_alloc | apply pw_below_drewN | apply below_drew1) | exact HB.out)) hb); clear HB; have HB := n0_; clear n0_; (try clear hb); (try clear hb2); (try clear hk); (try clear hi)) | (go_at_call 32; (with_reducible refine (instr_Takes.calls k1 a0 t222 _ A26.out).mono ?_); rintro e w56 ⟨v223, rfl, ho0, hb⟩; have n0_ := Aside0.mk (Kd.R_lower ho0 (below_size (by repeat (first | (with_reducible first | exact HB.out | apply below_alloc | apply pw_below_drewN | apply below_drew1) | exact HB.out)))); have n1_ := Aside0.mk (below_step (by repeat (first | (with_reducible first | exact HB.out | apply below_alloc | apply pw_below_drewN | apply below_drew1) | exact HB.out)) hb); clear HB; have HO224 := n0_; have HB := n1_; clear n0_ n1_; (try clear hb); (try clear hb2); (try clear hk); (try clear hi); (try clear ho0); obtain ⟨Ao57, co57, eo57⟩ := Kd.R_slice HO224.out; subst eo57) | (go_at_call 31; (with_reducible refine (pianolalaw05_sameKinds.calls k1 _ _ t222 t208 true _ ?side1 ?side2 A27.out).mono ?_); (case side1 => repeat (first | exact (Kd.R_reads' HO224.out).2.2 | (with_reducible refine Kd.C_alloc ?_ _) | (with_reducible refine Kd.C_drewN ?_ _) | (with_reducible refine Kd.C_drew ?_))); (case side2 => exact (Kd.R_reads' HO224.out).2.1); rintro e w' ⟨rfl, ⟨nd, rfl⟩⟩) | (go_at_call 33; (with_reducible refine (instr_Gives.calls k1 a0 t226 _ A29.out).mono ?_); rintro e w58 ⟨v227, rfl, ho0, hb⟩; have n0_ := Aside0.mk (Kd.R_elder' (by (with_reducible repeat (first | apply Kd.R_alloc | apply Kd.R_drewN | apply Kd.R_drew)); exact HO224.out) (Kd.R_base ho0) hb); have n1_ := Aside0.mk (Kd.R_lower (Kd.R_new' ho0 (Kd.R_lt (by (with_reducible repeat (first | apply Kd.R_alloc | apply Kd.R_drewN | apply Kd.R_drew)); exact HO224.out))) (below_size (by repeat (first | (with_reducible first | exact HB.out | apply below_alloc | apply pw_below_drewN | apply below_drew1) | exact HB.out)))); have n2_ := Aside0.mk (below_step (by repeat (first | (with_reducible first | exact HB.out | apply below_alloc | apply pw_below_drewN | apply below_drew1) | exact HB.out)) hb); clear HO224; clear HB; have HO224 := n0_; have HO228 := n1_; have HB := n2_; clear n0_ n1_ n2_; (try clear hb); (try clear hb2); (try clear hk); (try clear hi); (try clear ho0); obtain ⟨Ao59, co59, eo59⟩ := Kd.R_slice HO228.out; subst eo59) | (go_at_call 31; (with_reducible refine (pianolalaw05_sameKinds.calls k1 _ _ t226 t209 false _ ?side1 ?side2 A30.out).mono ?_); (case side1 => repeat (first | exact (Kd.R_reads' HO228.out).2.2 | (with_reducible refine Kd.C_alloc ?_ _) | (with_reducible refine Kd.C_drewN ?_ _) | (with_reducible refine Kd.C_drew ?_))); (case side2 => exact (Kd.R_reads' HO228.out).2.1); rintro e w' ⟨rfl, ⟨nd, rfl⟩⟩))
                        go_ret
                        exact ⟨by first | rfl | (simp [errW_none, errW_some] <;> rfl) | (simp [*, errW_none, errW_some] <;> rfl), by repeat (first | (with_reducible first | exact HB.out | apply below_alloc | apply pw_below_drewN | apply below_drew1) | exact HB.out)⟩
                    · replace c28 := Bool.eq_false_iff.mpr c28
                      subst c28
                      have H1 : (some false) = some r := by rw [if_neg (show ¬ (false = true) by decide)] at H; exact H
                      clear H
                      have H := H1
                      clear H1
                      obtain rfl := Option.some.inj H
                      (try (have e_ := some_two A14.out A17.out; subst e_))
                      (try (have e_ := beq_res c15b0; subst e_))
                      (try (have e_ := beq_res c19b0; subst e_))
                      (try (have e_ := beq_res c79b0; subst e_))
                      go_wp2_with (first | ((with_reducible refine gate_callee (f := 13) rfl ?_); refine goesL_ (some 35) rfl rfl Try.func13 (by kernel_rfl) rfl #[] rfl (by (try simp only [List.map_toArray, List.map_cons, List.map_nil]); first | done | rfl | (simp only [List.length_drop, List.length_take]; rfl)) ?_; (with_reducible refine (pianolalaw05_lives.calls  true _ A11.out).mono ?_); rintro e w60 ⟨rfl, hb⟩; refine ⟨_, rfl, ?_⟩; have n0_ := Aside0.mk (below_step (by repeat (first | (with_reducible first | exact HB.out | apply below_alloc | apply pw_below_drewN | apply below_drew1) | exact HB.out)) hb); clear HB; have HB := n0_; clear n0_; (try clear hb); (try clear hb2); (try clear hk); (try clear hi)) | (go_at_call 16; (with_reducible refine (instr_Known.calls a0 _ _ A13.out).mono ?_); rintro e w' ⟨rfl, ⟨nd, rfl⟩⟩) | (go_at_call 28; (with_reducible refine (pianolaref05_Known.calls k1 a0 _ _ A14.out).mono ?_); rintro e w61 ⟨rfl, hb⟩; have n0_ := Aside0.mk (below_step (by repeat (first | (with_reducible first | exact HB.out | apply below_alloc | apply pw_below_drewN | apply below_drew1) | exact HB.out)) hb); clear HB; have HB := n0_; clear n0_; (try clear hb); (try clear hb2); (try clear hk); (try clear hi)) | (go_at_call 29; (with_reducible refine (instr_Pure.calls a0 _ _ A16.out).mono ?_); rintro e w' ⟨rfl, ⟨nd, rfl⟩⟩) | (go_at_call 28; (with_reducible refine (pianolaref05_Known.calls k1 a0 true _ A17.out).mono ?_); rintro e w62 ⟨rfl, hb⟩; have n0_ := Aside0.mk (below_step (by repeat (first | (with_reducible first | exact HB.out | apply below_alloc | apply pw_below_drewN | apply below_drew1) | exact HB.out)) hb); clear HB; have HB := n0_; clear n0_; (try clear hb); (try clear hb2); (try clear hk); (try clear hi)) | (go_at_call 25; (with_reducible refine (instr_Size.calls k1 a0 t218 _ A20.out).mono ?_); rintro e w' ⟨rfl, ⟨nd, rfl⟩⟩) | (go_at_call 30; (with_reducible refine (pianolaref05_Size.calls k1 a0 t219 _ A21.out).mono ?_); rintro e w63 ⟨rfl, hb⟩; have n0_ := Aside0.mk (below_step (by repeat (first | (with_reducible first | exact HB.out | apply below_alloc | apply pw_below_drewN | apply below_drew1) | exact HB.out)) hb); clear HB; have HB := n0_; clear n0_; (try clear hb); (try clear hb2); (try clear hk); (try clear hi)) | (go_at_call 15; (with_reducible refine (instr_Name.calls a0 t220 _ A23.out).mono ?_); rintro e w' ⟨rfl, ⟨nd, rfl⟩⟩) | (go_at_call 27; (with_reducible refine (pianolaref05_Name.calls k1 a0 t221 _ A24.out).mono ?_); rintro e w64 ⟨rfl, hb⟩; have n0_ := Aside0.mk (below_step (by repeat (first | (with_reducible first | exact HB.out | apply below_alloc | apply pw_below_drewN | apply below_drew1) | exact HB.out)) hb); clear HB; have HB := n0_; clear n0_; (try clear hb); (try clear hb2); (try clear hk); (try clear hi)) | (go_at_call 32; (with_reducible refine (instr_Takes.calls k1 a0 t222 _ A26.out).mono ?_); rintro e w65 ⟨v223, rfl, ho0, hb⟩; have n0_ := Aside0.mk (Kd.R_lower ho0 (below_size (by repeat (first | (with_reducible first | exact HB.out | apply below_alloc | apply pw_below_drewN | apply below_drew1) | exact HB.out)))); have n1_ := Aside0.mk (below_step (by repeat (first | (with_reducible first | exact HB.out | apply below_alloc | apply pw_below_drewN | apply below_drew1) | exact HB.out)) hb); clear HB; have HO224 := n0_; have HB := n1_; clear n0_ n1_; (try clear hb); (try clear hb2); (try clear hk); (try clear hi); (try clear ho0); obtain ⟨Ao66, co66, eo66⟩ := Kd.R_slice HO224.out; subst eo66) | (go_at_call 31; (with_reducible refine (pianolalaw05_sameKinds.calls k1 _ _ t222 t208 false _ ?side1 ?side2 A27.out).mono ?_); (case side1 => repeat (first | exact (Kd.R_reads' HO224.out).2.2 | (with_reducible refine Kd.C_alloc ?_ _) | (with_reducible refine Kd.C_drewN ?_ _) | (with_reducible refine Kd.C_drew ?_))); (case side2 => exact (Kd.R_reads' HO224.out).2.1); rintro e w' ⟨rfl, ⟨nd, rfl⟩⟩))
                      go_ret
                      exact ⟨by first | rfl | (simp [errW_none, errW_some] <;> rfl) | (simp [*, errW_none, errW_some] <;> rfl), by repeat (first | (with_reducible first | exact HB.out | apply below_alloc | apply pw_below_drewN | apply below_drew1) | exact HB.out)⟩
                  · rw [if_neg c25] at H
                    have c25b0 : (t220.toList == t221.toList) = false := beq_eq_false_iff_ne.mpr c25
                    have c25b1 : (t220.toList != t221.toList) = true := bne_iff_ne.mpr c25
                    obtain rfl := Option.some.inj H
                    (try (have e_ := some_two A14.out A17.out; subst e_))
                    (try (have e_ := beq_res c15b0; subst e_))
                    (try (have e_ := beq_res c19b0; subst e_))
                    (try (have e_ := beq_res c79b0; subst e_))
                    go_wp2_with (first | ((with_reducible refine gate_callee (f := 13) rfl ?_); refine goesL_ (some 35) rfl rfl Try.func13 (by kernel_rfl) rfl #[] rfl (by (try simp only [List.map_toArray, List.map_cons, List.map_nil]); first | done | rfl | (simp only [List.length_drop, List.length_take]; rfl)) ?_; (with_reducible refine (pianolalaw05_lives.calls  true _ A11.out).mono ?_); rintro e w67 ⟨rfl, hb⟩; refine ⟨_, rfl, ?_⟩; have n0_ := Aside0.mk (below_step (by repeat (first | (with_reducible first | exact HB.out | apply below_alloc | apply pw_below_drewN | apply below_drew1) | exact HB.out)) hb); clear HB; have HB := n0_; clear n0_; (try clear hb); (try clear hb2); (try clear hk); (try clear hi)) | (go_at_call 16; (with_reducible refine (instr_Known.calls a0 _ _ A13.out).mono ?_); rintro e w' ⟨rfl, ⟨nd, rfl⟩⟩) | (go_at_call 28; (with_reducible refine (pianolaref05_Known.calls k1 a0 _ _ A14.out).mono ?_); rintro e w68 ⟨rfl, hb⟩; have n0_ := Aside0.mk (below_step (by repeat (first | (with_reducible first | exact HB.out | apply below_alloc | apply pw_below_drewN | apply below_drew1) | exact HB.out)) hb); clear HB; have HB := n0_; clear n0_; (try clear hb); (try clear hb2); (try clear hk); (try clear hi)) | (go_at_call 29; (with_reducible refine (instr_Pure.calls a0 _ _ A16.out).mono ?_); rintro e w' ⟨rfl, ⟨nd, rfl⟩⟩) | (go_at_call 28; (with_reducible refine (pianolaref05_Known.calls k1 a0 true _ A17.out).mono ?_); rintro e w69 ⟨rfl, hb⟩; have n0_ := Aside0.mk (below_step (by repeat (first | (with_reducible first | exact HB.out | apply below_alloc | apply pw_below_drewN | apply below_drew1) | exact HB.out)) hb); clear HB; have HB := n0_; clear n0_; (try clear hb); (try clear hb2); (try clear hk); (try clear hi)) | (go_at_call 25; (with_reducible refine (instr_Size.calls k1 a0 t218 _ A20.out).mono ?_); rintro e w' ⟨rfl, ⟨nd, rfl⟩⟩) | (go_at_call 30; (with_reducible refine (pianolaref05_Size.calls k1 a0 t219 _ A21.out).mono ?_); rintro e w70 ⟨rfl, hb⟩; have n0_ := Aside0.mk (below_step (by repeat (first | (with_reducible first | exact HB.out | apply below_alloc | apply pw_below_drewN | apply below_drew1) | exact HB.out)) hb); clear HB; have HB := n0_; clear n0_; (try clear hb); (try clear hb2); (try clear hk); (try clear hi)) | (go_at_call 15; (with_reducible refine (instr_Name.calls a0 t220 _ A23.out).mono ?_); rintro e w' ⟨rfl, ⟨nd, rfl⟩⟩) | (go_at_call 27; (with_reducible refine (pianolaref05_Name.calls k1 a0 t221 _ A24.out).mono ?_); rintro e w71 ⟨rfl, hb⟩; have n0_ := Aside0.mk (below_step (by repeat (first | (with_reducible first | exact HB.out | apply below_alloc | apply pw_below_drewN | apply below_drew1) | exact HB.out)) hb); clear HB; have HB := n0_; clear n0_; (try clear hb); (try clear hb2); (try clear hk); (try clear hi)))
                    go_ret
                    exact ⟨by first | rfl | (simp [errW_none, errW_some] <;> rfl) | (simp [*, errW_none, errW_some] <;> rfl), by repeat (first | (with_reducible first | exact HB.out | apply below_alloc | apply pw_below_drewN | apply below_drew1) | exact HB.out)⟩
                · rw [if_neg c22] at H
                  have c22b0 : (t218 == t219) = false := beq_eq_false_iff_ne.mpr c22
                  have c22b1 : (t218 != t219) = true := bne_iff_ne.mpr c22
                  obtain rfl := Option.some.inj H
                  (try (have e_ := some_two A14.out A17.out; subst e_))
                  (try (have e_ := beq_res c15b0; subst e_))
                  (try (have e_ := beq_res c19b0; subst e_))
                  (try (have e_ := beq_res c79b0; subst e_))
                  go_wp2_with (first | ((with_reducible refine gate_callee (f := 13) rfl ?_); refine goesL_ (some 35) rfl rfl Try.func13 (by kernel_rfl) rfl #[] rfl (by (try simp only [List.map_toArray, List.map_cons, List.map_nil]); first | done | rfl | (simp only [List.length_drop, List.length_take]; rfl)) ?_; (with_reducible refine (pianolalaw05_lives.calls  true _ A11.out).mono ?_); rintro e w72 ⟨rfl, hb⟩; refine ⟨_, rfl, ?_⟩; have n0_ := Aside0.mk (below_step (by repeat (first | (with_reducible first | exact HB.out | apply below_alloc | apply pw_below_drewN | apply below_drew1) | exact HB.out)) hb); clear HB; have HB := n0_; clear n0_; (try clear hb); (try clear hb2); (try clear hk); (try clear hi)) | (go_at_call 16; (with_reducible refine (instr_Known.calls a0 _ _ A13.out).mono ?_); rintro e w' ⟨rfl, ⟨nd, rfl⟩⟩) | (go_at_call 28; (with_reducible refine (pianolaref05_Known.calls k1 a0 _ _ A14.out).mono ?_); rintro e w73 ⟨rfl, hb⟩; have n0_ := Aside0.mk (below_step (by repeat (first | (with_reducible first | exact HB.out | apply below_alloc | apply pw_below_drewN | apply below_drew1) | exact HB.out)) hb); clear HB; have HB := n0_; clear n0_; (try clear hb); (try clear hb2); (try clear hk); (try clear hi)) | (go_at_call 29; (with_reducible refine (instr_Pure.calls a0 _ _ A16.out).mono ?_); rintro e w' ⟨rfl, ⟨nd, rfl⟩⟩) | (go_at_call 28; (with_reducible refine (pianolaref05_Known.calls k1 a0 true _ A17.out).mono ?_); rintro e w74 ⟨rfl, hb⟩; have n0_ := Aside0.mk (below_step (by repeat (first | (with_reducible first | exact HB.out | apply below_alloc | apply pw_below_drewN | apply below_drew1) | exact HB.out)) hb); clear HB; have HB := n0_; clear n0_; (try clear hb); (try clear hb2); (try clear hk); (try clear hi)) | (go_at_call 25; (with_reducible refine (instr_Size.calls k1 a0 t218 _ A20.out).mono ?_); rintro e w' ⟨rfl, ⟨nd, rfl⟩⟩) | (go_at_call 30; (with_reducible refine (pianolaref05_Size.calls k1 a0 t219 _ A21.out).mono ?_); rintro e w75 ⟨rfl, hb⟩; have n0_ := Aside0.mk (below_step (by repeat (first | (with_reducible first | exact HB.out | apply below_alloc | apply pw_below_drewN | apply below_drew1) | exact HB.out)) hb); clear HB; have HB := n0_; clear n0_; (try clear hb); (try clear hb2); (try clear hk); (try clear hi)))
                  go_ret
                  exact ⟨by first | rfl | (simp [errW_none, errW_some] <;> rfl) | (simp [*, errW_none, errW_some] <;> rfl), by repeat (first | (with_reducible first | exact HB.out | apply below_alloc | apply pw_below_drewN | apply below_drew1) | exact HB.out)⟩
              · rw [if_neg c19] at H
                have c19b0 : (t216 == (decide (a0 < 48))) = false := by simpa using c19
                (try (have c19b1 : decide (t216 = (decide (a0 < 48))) = false := by simpa using c19))
                (try (have c19b2 : (t216 == (decide (a0 < 48))) = false := by simpa using c19))
                (try (have c19b3 : ¬ (t216 = (decide (a0 < 48))) := by simpa using c19))
                clear c19
                obtain rfl := Option.some.inj H
                (try (have e_ := some_two A14.out A17.out; subst e_))
                (try (have e_ := beq_res c15b0; subst e_))
                (try (have e_ := beq_res c19b0; subst e_))
                (try (have e_ := beq_res c79b0; subst e_))
                go_wp2_with (first | ((with_reducible refine gate_callee (f := 13) rfl ?_); refine goesL_ (some 35) rfl rfl Try.func13 (by kernel_rfl) rfl #[] rfl (by (try simp only [List.map_toArray, List.map_cons, List.map_nil]); first | done | rfl | (simp only [List.length_drop, List.length_take]; rfl)) ?_; (with_reducible refine (pianolalaw05_lives.calls  true _ A11.out).mono ?_); rintro e w76 ⟨rfl, hb⟩; refine ⟨_, rfl, ?_⟩; have n0_ := Aside0.mk (below_step (by repeat (first | (with_reducible first | exact HB.out | apply below_alloc | apply pw_below_drewN | apply below_drew1) | exact HB.out)) hb); clear HB; have HB := n0_; clear n0_; (try clear hb); (try clear hb2); (try clear hk); (try clear hi)) | (go_at_call 16; (with_reducible refine (instr_Known.calls a0 _ _ A13.out).mono ?_); rintro e w' ⟨rfl, ⟨nd, rfl⟩⟩) | (go_at_call 28; (with_reducible refine (pianolaref05_Known.calls k1 a0 _ _ A14.out).mono ?_); rintro e w77 ⟨rfl, hb⟩; have n0_ := Aside0.mk (below_step (by repeat (first | (with_reducible first | exact HB.out | apply below_alloc | apply pw_below_drewN | apply below_drew1) | exact HB.out)) hb); clear HB; have HB := n0_; clear n0_; (try clear hb); (try clear hb2); (try clear hk); (try clear hi)) | (go_at_call 29; (with_reducible refine (instr_Pure.calls a0 _ _ A16.out).mono ?_); rintro e w' ⟨rfl, ⟨nd, rfl⟩⟩) | (go_at_call 28; (with_reducible refine (pianolaref05_Known.calls k1 a0 true _ A17.out).mono ?_); rintro e w78 ⟨rfl, hb⟩; have n0_ := Aside0.mk (below_step (by repeat (first | (with_reducible first | exact HB.out | apply below_alloc | apply pw_below_drewN | apply below_drew1) | exact HB.out)) hb); clear HB; have HB := n0_; clear n0_; (try clear hb); (try clear hb2); (try clear hk); (try clear hi)))
                go_ret
                exact ⟨by first | rfl | (simp [errW_none, errW_some] <;> rfl) | (simp [*, errW_none, errW_some] <;> rfl), by repeat (first | (with_reducible first | exact HB.out | apply below_alloc | apply pw_below_drewN | apply below_drew1) | exact HB.out)⟩
            · replace c18 := Bool.eq_false_iff.mpr c18
              subst c18
              have H1 : (if (t216 == false) = true then ((instr_Size.f k1 a0).bind fun t230 => ((pianolaref05_Size.f k1 a0).bind fun t231 => (if t230 = t231 then ((instr_Name.f a0).bind fun t232 => ((pianolaref05_Name.f k1 a0).bind fun t233 => (if t232.toList = t233.toList then ((instr_Takes.f k1 a0).bind fun t234 => ((pianolalaw05_sameKinds.f k1 t234 t208).bind fun t237 => (if t237 = true then ((instr_Gives.f k1 a0).bind fun t238 => ((pianolalaw05_sameKinds.f k1 t238 t209).bind fun t241 => (if t241 = true then (if t210 = x9_1 then (some (t211 == x10_1)) else (some false)) else (some false)))) else (some false)))) else (some false)))) else (some false)))) else (some false)) = some r := by rw [if_neg (show ¬ (false = true) by decide)] at H; exact H
              clear H
              have H := H1
              clear H1
              by_cases c79 : (t216 == false) = true
              · rw [if_pos c79] at H
                have c79b0 : (t216 == false) = true := c79
                (try (have c79b1 : decide (t216 = false) = true := by simpa using c79))
                (try (have c79b2 : (t216 == false) = true := by simpa using c79))
                clear c79
                replace H := Option.bind_eq_some_iff.mp H
                obtain ⟨t230, A800, H⟩ := H
                replace H : ((pianolaref05_Size.f k1 a0).bind fun t231 => (if t230 = t231 then ((instr_Name.f a0).bind fun t232 => ((pianolaref05_Name.f k1 a0).bind fun t233 => (if t232.toList = t233.toList then ((instr_Takes.f k1 a0).bind fun t234 => ((pianolalaw05_sameKinds.f k1 t234 t208).bind fun t237 => (if t237 = true then ((instr_Gives.f k1 a0).bind fun t238 => ((pianolalaw05_sameKinds.f k1 t238 t209).bind fun t241 => (if t241 = true then (if t210 = x9_1 then (some (t211 == x10_1)) else (some false)) else (some false)))) else (some false)))) else (some false)))) else (some false))) = some r := H
                have A80 := Aside0.mk A800
                clear A800
                replace H := Option.bind_eq_some_iff.mp H
                obtain ⟨t231, A810, H⟩ := H
                replace H : (if t230 = t231 then ((instr_Name.f a0).bind fun t232 => ((pianolaref05_Name.f k1 a0).bind fun t233 => (if t232.toList = t233.toList then ((instr_Takes.f k1 a0).bind fun t234 => ((pianolalaw05_sameKinds.f k1 t234 t208).bind fun t237 => (if t237 = true then ((instr_Gives.f k1 a0).bind fun t238 => ((pianolalaw05_sameKinds.f k1 t238 t209).bind fun t241 => (if t241 = true then (if t210 = x9_1 then (some (t211 == x10_1)) else (some false)) else (some false)))) else (some false)))) else (some false)))) else (some false)) = some r := H
                have A81 := Aside0.mk A810
                clear A810
                by_cases c82 : t230 = t231
                · rw [if_pos c82] at H
                  have c82b0 : (t230 == t231) = true := beq_iff_eq.mpr c82
                  have c82b1 : (t230 != t231) = false := bne_eq_false_iff_eq.mpr c82
                  clear c82
                  replace H := Option.bind_eq_some_iff.mp H
                  obtain ⟨t232, A830, H⟩ := H
                  replace H : ((pianolaref05_Name.f k1 a0).bind fun t233 => (if t232.toList = t233.toList then ((instr_Takes.f k1 a0).bind fun t234 => ((pianolalaw05_sameKinds.f k1 t234 t208).bind fun t237 => (if t237 = true then ((instr_Gives.f k1 a0).bind fun t238 => ((pianolalaw05_sameKinds.f k1 t238 t209).bind fun t241 => (if t241 = true then (if t210 = x9_1 then (some (t211 == x10_1)) else (some false)) else (some false)))) else (some false)))) else (some false))) = some r := H
                  have A83 := Aside0.mk A830
                  clear A830
                  replace H := Option.bind_eq_some_iff.mp H
                  obtain ⟨t233, A840, H⟩ := H
                  replace H : (if t232.toList = t233.toList then ((instr_Takes.f k1 a0).bind fun t234 => ((pianolalaw05_sameKinds.f k1 t234 t208).bind fun t237 => (if t237 = true then ((instr_Gives.f k1 a0).bind fun t238 => ((pianolalaw05_sameKinds.f k1 t238 t209).bind fun t241 => (if t241 = true then (if t210 = x9_1 then (some (t211 == x10_1)) else (some false)) else (some false)))) else (some false)))) else (some false)) = some r := H
                  have A84 := Aside0.mk A840
                  clear A840
                  by_cases c85 : t232.toList = t233.toList
                  · rw [if_pos c85] at H
                    have c85b0 : (t232.toList == t233.toList) = true := beq_iff_eq.mpr c85
                    have c85b1 : (t232.toList != t233.toList) = false := bne_eq_false_iff_eq.mpr c85
                    clear c85
                    replace H := Option.bind_eq_some_iff.mp H
                    obtain ⟨t234, A860, H⟩ := H
                    replace H : ((pianolalaw05_sameKinds.f k1 t234 t208).bind fun t237 => (if t237 = true then ((instr_Gives.f k1 a0).bind fun t238 => ((pianolalaw05_sameKinds.f k1 t238 t209).bind fun t241 => (if t241 = true then (if t210 = x9_1 then (some (t211 == x10_1)) else (some false)) else (some false)))) else (some false))) = some r := H
                    have A86 := Aside0.mk A860
                    clear A860
                    replace H := Option.bind_eq_some_iff.mp H
                    obtain ⟨t237, A870, H⟩ := H
                    replace H : (if t237 = true then ((instr_Gives.f k1 a0).bind fun t238 => ((pianolalaw05_sameKinds.f k1 t238 t209).bind fun t241 => (if t241 = true then (if t210 = x9_1 then (some (t211 == x10_1)) else (some false)) else (some false)))) else (some false)) = some r := H
                    have A87 := Aside0.mk A870
                    clear A870
                    by_cases c88 : t237 = true
                    · subst c88
                      have H1 : ((instr_Gives.f k1 a0).bind fun t238 => ((pianolalaw05_sameKinds.f k1 t238 t209).bind fun t241 => (if t241 = true then (if t210 = x9_1 then (some (t211 == x10_1)) else (some false)) else (some false)))) = some r := by rw [if_pos rfl] at H; exact H
                      clear H
                      have H := H1
                      clear H1
                      replace H := Option.bind_eq_some_iff.mp H
                      obtain ⟨t238, A890, H⟩ := H
                      replace H : ((pianolalaw05_sameKinds.f k1 t238 t209).bind fun t241 => (if t241 = true then (if t210 = x9_1 then (some (t211 == x10_1)) else (some false)) else (some false))) = some r := H
                      have A89 := Aside0.mk A890
                      clear A890
                      replace H := Option.bind_eq_some_iff.mp H
                      obtain ⟨t241, A900, H⟩ := H
                      replace H : (if t241 = true then (if t210 = x9_1 then (some (t211 == x10_1)) else (some false)) else (some false)) = some r := H
                      have A90 := Aside0.mk A900
                      clear A900
                      by_cases c91 : t241 = true
                      · subst c91
                        have H1 : (if t210 = x9_1 then (some (t211 == x10_1)) else (some false)) = some r := by rw [if_pos rfl] at H; exact H
                        clear H
                        have H := H1
                        clear H1
                        by_cases c92 : t210 = x9_1
                        · rw [if_pos c92] at H
                          have c92b0 : (t210 == x9_1) = true := beq_iff_eq.mpr c92
                          have c92b1 : (t210 != x9_1) = false := bne_eq_false_iff_eq.mpr c92
                          clear c92
                          obtain rfl := Option.some.inj H
                          (try (have e_ := some_two A14.out A17.out; subst e_))
                          (try (have e_ := beq_res c15b0; subst e_))
                          (try (have e_ := beq_res c19b0; subst e_))
                          (try (have e_ := beq_res c79b0; subst e_))
                          go_wp2_with (first | ((with_reducible refine gate_callee (f := 13) rfl ?_); refine goesL_ (some 35) rfl rfl Try.func13 (by kernel_rfl) rfl #[] rfl (by (try simp only [List.map_toArray, List.map_cons, List.map_nil]); first | done | rfl | (simp only [List.length_drop, List.length_take]; rfl)) ?_; (with_reducible refine (pianolalaw05_lives.calls  true _ A11.out).mono ?_); rintro e w93 ⟨rfl, hb⟩; refine ⟨_, rfl, ?_⟩; have n0_ := Aside0.mk (below_step (by repeat (first | (with_reducible first | exact HB.out | apply below_alloc | apply pw_below_drewN | apply below_drew1) | exact HB.out)) hb); clear HB; have HB := n0_; clear n0_; (try clear hb); (try clear hb2); (try clear hk); (try clear hi)) | (go_at_call 16; (with_reducible refine (instr_Known.calls a0 _ _ A13.out).mono ?_); rintro e w' ⟨rfl, ⟨nd, rfl⟩⟩) | (go_at_call 28; (with_reducible refine (pianolaref05_Known.calls k1 a0 _ _ A14.out).mono ?_); rintro e w94 ⟨rfl, hb⟩; have n0_ := Aside0.mk (below_step (by repeat (first | (with_reducible first | exact HB.out | apply below_alloc | apply pw_below_drewN | apply below_drew1) | exact HB.out)) hb); clear HB; have HB := n0_; clear n0_; (try clear hb); (try clear hb2); (try clear hk); (try clear hi)) | (go_at_call 29; (with_reducible refine (instr_Pure.calls a0 _ _ A16.out).mono ?_); rintro e w' ⟨rfl, ⟨nd, rfl⟩⟩) | (go_at_call 28; (with_reducible refine (pianolaref05_Known.calls k1 a0 false _ A17.out).mono ?_); rintro e w95 ⟨rfl, hb⟩; have n0_ := Aside0.mk (below_step (by repeat (first | (with_reducible first | exact HB.out | apply below_alloc | apply pw_below_drewN | apply below_drew1) | exact HB.out)) hb); clear HB; have HB := n0_; clear n0_; (try clear hb); (try clear hb2); (try clear hk); (try clear hi)) | (go_at_call 25; (with_reducible refine (instr_Size.calls k1 a0 t230 _ A80.out).mono ?_); rintro e w' ⟨rfl, ⟨nd, rfl⟩⟩) | (go_at_call 30; (with_reducible refine (pianolaref05_Size.calls k1 a0 t231 _ A81.out).mono ?_); rintro e w96 ⟨rfl, hb⟩; have n0_ := Aside0.mk (below_step (by repeat (first | (with_reducible first | exact HB.out | apply below_alloc | apply pw_below_drewN | apply below_drew1) | exact HB.out)) hb); clear HB; have HB := n0_; clear n0_; (try clear hb); (try clear hb2); (try clear hk); (try clear hi)) | (go_at_call 15; (with_reducible refine (instr_Name.calls a0 t232 _ A83.out).mono ?_); rintro e w' ⟨rfl, ⟨nd, rfl⟩⟩) | (go_at_call 27; (with_reducible refine (pianolaref05_Name.calls k1 a0 t233 _ A84.out).mono ?_); rintro e w97 ⟨rfl, hb⟩; have n0_ := Aside0.mk (below_step (by repeat (first | (with_reducible first | exact HB.out | apply below_alloc | apply pw_below_drewN | apply below_drew1) | exact HB.out)) hb); clear HB; have HB := n0_; clear n0_; (try clear hb); (try clear hb2); (try clear hk); (try clear hi)) | (go_at_call 32; (with_reducible refine (instr_Takes.calls k1 a0 t234 _ A86.out).mono ?_); rintro e w98 ⟨v235, rfl, ho0, hb⟩; have n0_ := Aside0.mk (Kd.R_lower ho0 (below_size (by repeat (first | (with_reducible first | exact HB.out | apply below_alloc | apply pw_below_drewN | apply below_drew1) | exact HB.out)))); have n1_ := Aside0.mk (below_step (by repeat (first | (with_reducible first | exact HB.out | apply below_alloc | apply pw_below_drewN | apply below_drew1) | exact HB.out)) hb); clear HB; have HO236 := n0_; have HB := n1_; clear n0_ n1_; (try clear hb); (try clear hb2); (try clear hk); (try clear hi); (try clear ho0); obtain ⟨Ao99, co99, eo99⟩ := Kd.R_slice HO236.out; subst eo99) | (go_at_call 31; (with_reducible refine (pianolalaw05_sameKinds.calls k1 _ _ t234 t208 true _ ?side1 ?side2 A87.out).mono ?_); (case side1 => repeat (first | exact (Kd.R_reads' HO236.out).2.2 | (with_reducible refine Kd.C_alloc ?_ _) | (with_reducible refine Kd.C_drewN ?_ _) | (with_reducible refine Kd.C_drew ?_))); (case side2 => exact (Kd.R_reads' HO236.out).2.1); rintro e w' ⟨rfl, ⟨nd, rfl⟩⟩) | (go_at_call 33; (with_reducible refine (instr_Gives.calls k1 a0 t238 _ A89.out).mono ?_); rintro e w100 ⟨v239, rfl, ho0, hb⟩; have n0_ := Aside0.mk (Kd.R_elder' (by (with_reducible repeat (first | apply Kd.R_alloc | apply Kd.R_drewN | apply Kd.R_drew)); exact HO236.out) (Kd.R_base ho0) hb); have n1_ := Aside0.mk (Kd.R_lower (Kd.R_new' ho0 (Kd.R_lt (by (with_reducible repeat (first | apply Kd.R_alloc | apply Kd.R_drewN | apply Kd.R_drew)); exact HO236.out))) (below_size (by repeat (first | (with_reducible first | exact HB.out | apply below_alloc | apply pw_below_drewN | apply below_drew1) | exact HB.out)))); have n2_ := Aside0.mk (below_step (by repeat (first | (with_reducible first | exact HB.out | apply below_alloc | apply pw_below_drewN | apply below_drew1) | exact HB.out)) hb); clear HO236; clear HB; have HO236 := n0_; have HO240 := n1_; have HB := n2_; clear n0_ n1_ n2_; (try clear hb); (try clear hb2); (try clear hk); (try clear hi); (try clear ho0); obtain ⟨Ao101, co101, eo101⟩ := Kd.R_slice HO240.out; subst eo101) | (go_at_call 31; (with_reducible refine (pianolalaw05_sameKinds.calls k1 _ _ t238 t209 true _ ?side1 ?side2 A90.out).mono ?_); (case side1 => repeat (first | exact (Kd.R_reads' HO240.out).2.2 | (with_reducible refine Kd.C_alloc ?_ _) | (with_reducible refine Kd.C_drewN ?_ _) | (with_reducible refine Kd.C_drew ?_))); (case side2 => exact (Kd.R_reads' HO240.out).2.1); rintro e w' ⟨rfl, ⟨nd, rfl⟩⟩))
                          go_ret
                          exact ⟨by first | rfl | (simp [errW_none, errW_some] <;> rfl) | (simp [*, errW_none, errW_some] <;> rfl), by repeat (first | (with_reducible first | exact HB.out | apply below_alloc | apply pw_below_drewN | apply below_drew1) | exact HB.out)⟩
                        · rw [if_neg c92] at H
                          have c92b0 : (t210 == x9_1) = false := beq_eq_false_iff_ne.mpr c92
                          have c92b1 : (t210 != x9_1) = true := bne_iff_ne.mpr c92
                          obtain rfl := Option.some.inj H
                          (try (have e_ := some_two A14.out A17.out; subst e_))
                          (try (have e_ := beq_res c15b0; subst e_))
                          (try (have e_ := beq_res c19b0; subst e_))
                          (try (have e_ := beq_res c79b0; subst e_))
                          go_wp2_with (first | ((with_reducible refine gate_callee (f := 13) rfl ?_); refine goesL_ (some 35) rfl rfl Try.func13 (by kernel_rfl) rfl #[] rfl (by (try simp only [List.map_toArray, List.map_cons, List.map_nil]); first | done | rfl | (simp only [List.length_drop, List.length_take]; rfl)) ?_; (with_reducible refine (pianolalaw05_lives.calls  true _ A11.out).mono ?_); rintro e w102 ⟨rfl, hb⟩; refine ⟨_, rfl, ?_⟩; have n0_ := Aside0.mk (below_step (by repeat (first | (with_reducible first | exact HB.out | apply below_alloc | apply pw_below_drewN | apply below_drew1) | exact HB.out)) hb); clear HB; have HB := n0_; clear n0_; (try clear hb); (try clear hb2); (try clear hk); (try clear hi)) | (go_at_call 16; (with_reducible refine (instr_Known.calls a0 _ _ A13.out).mono ?_); rintro e w' ⟨rfl, ⟨nd, rfl⟩⟩) | (go_at_call 28; (with_reducible refine (pianolaref05_Known.calls k1 a0 _ _ A14.out).mono ?_); rintro e w103 ⟨rfl, hb⟩; have n0_ := Aside0.mk (below_step (by repeat (first | (with_reducible first | exact HB.out | apply below_alloc | apply pw_below_drewN | apply below_drew1) | exact HB.out)) hb); clear HB; have HB := n0_; clear n0_; (try clear hb); (try clear hb2); (try clear hk); (try clear hi)) | (go_at_call 29; (with_reducible refine (instr_Pure.calls a0 _ _ A16.out).mono ?_); rintro e w' ⟨rfl, ⟨nd, rfl⟩⟩) | (go_at_call 28; (with_reducible refine (pianolaref05_Known.calls k1 a0 false _ A17.out).mono ?_); rintro e w104 ⟨rfl, hb⟩; have n0_ := Aside0.mk (below_step (by repeat (first | (with_reducible first | exact HB.out | apply below_alloc | apply pw_below_drewN | apply below_drew1) | exact HB.out)) hb); clear HB; have HB := n0_; clear n0_; (try clear hb); (try clear hb2); (try clear hk); (try clear hi)) | (go_at_call 25; (with_reducible refine (instr_Size.calls k1 a0 t230 _ A80.out).mono ?_); rintro e w' ⟨rfl, ⟨nd, rfl⟩⟩) | (go_at_call 30; (with_reducible refine (pianolaref05_Size.calls k1 a0 t231 _ A81.out).mono ?_); rintro e w105 ⟨rfl, hb⟩; have n0_ := Aside0.mk (below_step (by repeat (first | (with_reducible first | exact HB.out | apply below_alloc | apply pw_below_drewN | apply below_drew1) | exact HB.out)) hb); clear HB; have HB := n0_; clear n0_; (try clear hb); (try clear hb2); (try clear hk); (try clear hi)) | (go_at_call 15; (with_reducible refine (instr_Name.calls a0 t232 _ A83.out).mono ?_); rintro e w' ⟨rfl, ⟨nd, rfl⟩⟩) | (go_at_call 27; (with_reducible refine (pianolaref05_Name.calls k1 a0 t233 _ A84.out).mono ?_); rintro e w106 ⟨rfl, hb⟩; have n0_ := Aside0.mk (below_step (by repeat (first | (with_reducible first | exact HB.out | apply below_alloc | apply pw_below_drewN | apply below_drew1) | exact HB.out)) hb); clear HB; have HB := n0_; clear n0_; (try clear hb); (try clear hb2); (try clear hk); (try clear hi)) | (go_at_call 32; (with_reducible refine (instr_Takes.calls k1 a0 t234 _ A86.out).mono ?_); rintro e w107 ⟨v235, rfl, ho0, hb⟩; have n0_ := Aside0.mk (Kd.R_lower ho0 (below_size (by repeat (first | (with_reducible first | exact HB.out | apply below_alloc | apply pw_below_drewN | apply below_drew1) | exact HB.out)))); have n1_ := Aside0.mk (below_step (by repeat (first | (with_reducible first | exact HB.out | apply below_alloc | apply pw_below_drewN | apply below_drew1) | exact HB.out)) hb); clear HB; have HO236 := n0_; have HB := n1_; clear n0_ n1_; (try clear hb); (try clear hb2); (try clear hk); (try clear hi); (try clear ho0); obtain ⟨Ao108, co108, eo108⟩ := Kd.R_slice HO236.out; subst eo108) | (go_at_call 31; (with_reducible refine (pianolalaw05_sameKinds.calls k1 _ _ t234 t208 true _ ?side1 ?side2 A87.out).mono ?_); (case side1 => repeat (first | exact (Kd.R_reads' HO236.out).2.2 | (with_reducible refine Kd.C_alloc ?_ _) | (with_reducible refine Kd.C_drewN ?_ _) | (with_reducible refine Kd.C_drew ?_))); (case side2 => exact (Kd.R_reads' HO236.out).2.1); rintro e w' ⟨rfl, ⟨nd, rfl⟩⟩) | (go_at_call 33; (with_reducible refine (instr_Gives.calls k1 a0 t238 _ A89.out).mono ?_); rintro e w109 ⟨v239, rfl, ho0, hb⟩; have n0_ := Aside0.mk (Kd.R_elder' (by (with_reducible repeat (first | apply Kd.R_alloc | apply Kd.R_drewN | apply Kd.R_drew)); exact HO236.out) (Kd.R_base ho0) hb); have n1_ := Aside0.mk (Kd.R_lower (Kd.R_new' ho0 (Kd.R_lt (by (with_reducible repeat (first | apply Kd.R_alloc | apply Kd.R_drewN | apply Kd.R_drew)); exact HO236.out))) (below_size (by repeat (first | (with_reducible first | exact HB.out | apply below_alloc | apply pw_below_drewN | apply below_drew1) | exact HB.out)))); have n2_ := Aside0.mk (below_step (by repeat (first | (with_reducible first | exact HB.out | apply below_alloc | apply pw_below_drewN | apply below_drew1) | exact HB.out)) hb); clear HO236; clear HB; have HO236 := n0_; have HO240 := n1_; have HB := n2_; clear n0_ n1_ n2_; (try clear hb); (try clear hb2); (try clear hk); (try clear hi); (try clear ho0); obtain ⟨Ao110, co110, eo110⟩ := Kd.R_slice HO240.out; subst eo110) | (go_at_call 31; (with_reducible refine (pianolalaw05_sameKinds.calls k1 _ _ t238 t209 true _ ?side1 ?side2 A90.out).mono ?_); (case side1 => repeat (first | exact (Kd.R_reads' HO240.out).2.2 | (with_reducible refine Kd.C_alloc ?_ _) | (with_reducible refine Kd.C_drewN ?_ _) | (with_reducible refine Kd.C_drew ?_))); (case side2 => exact (Kd.R_reads' HO240.out).2.1); rintro e w' ⟨rfl, ⟨nd, rfl⟩⟩))
                          go_ret
                          exact ⟨by first | rfl | (simp [errW_none, errW_some] <;> rfl) | (simp [*, errW_none, errW_some] <;> rfl), by repeat (first | (with_reducible first | exact HB.out | apply below_alloc | apply pw_below_drewN | apply below_drew1) | exact HB.out)⟩
                      · replace c91 := Bool.eq_false_iff.mpr c91
                        subst c91
                        have H1 : (some false) = some r := by rw [if_neg (show ¬ (false = true) by decide)] at H; exact H
                        clear H
                        have H := H1
                        clear H1
                        obtain rfl := Option.some.inj H
                        (try (have e_ := some_two A14.out A17.out; subst e_))
                        (try (have e_ := beq_res c15b0; subst e_))
                        (try (have e_ := beq_res c19b0; subst e_))
                        (try (have e_ := beq_res c79b0; subst e_))
                        go_wp2_with (first | ((with_reducible refine gate_callee (f := 13) rfl ?_); refine goesL_ (some 35) rfl rfl Try.func13 (by kernel_rfl) rfl #[] rfl (by (try simp only [List.map_toArray, List.map_cons, List.map_nil]); first | done | rfl | (simp only [List.length_drop, List.length_take]; rfl)) ?_; (with_reducible refine (pianolalaw05_lives.calls  true _ A11.out).mono ?_); rintro e w111 ⟨rfl, hb⟩; refine ⟨_, rfl, ?_⟩; have n0_ := Aside0.mk (below_step (by repeat (first | (with_reducible first | exact HB.out | apply below_alloc | apply pw_below_drewN | apply below_drew1) | exact HB.out)) hb); clear HB; have HB := n0_; clear n0_; (try clear hb); (try clear hb2); (try clear hk); (try clear hi)) | (go_at_call 16; (with_reducible refine (instr_Known.calls a0 _ _ A13.out).mono ?_); rintro e w' ⟨rfl, ⟨nd, rfl⟩⟩) | (go_at_call 28; (with_reducible refine (pianolaref05_Known.calls k1 a0 _ _ A14.out).mono ?_); rintro e w112 ⟨rfl, hb⟩; have n0_ := Aside0.mk (below_step (by repeat (first | (with_reducible first | exact HB.out | apply below_alloc | apply pw_below_drewN | apply below_drew1) | exact HB.out)) hb); clear HB; have HB := n0_; clear n0_; (try clear hb); (try clear hb2); (try clear hk); (try clear hi)) | (go_at_call 29; (with_reducible refine (instr_Pure.calls a0 _ _ A16.out).mono ?_); rintro e w' ⟨rfl, ⟨nd, rfl⟩⟩) | (go_at_call 28; (with_reducible refine (pianolaref05_Known.calls k1 a0 false _ A17.out).mono ?_); rintro e w113 ⟨rfl, hb⟩; have n0_ := Aside0.mk (below_step (by repeat (first | (with_reducible first | exact HB.out | apply below_alloc | apply pw_below_drewN | apply below_drew1) | exact HB.out)) hb); clear HB; have HB := n0_; clear n0_; (try clear hb); (try clear hb2); (try clear hk); (try clear hi)) | (go_at_call 25; (with_reducible refine (instr_Size.calls k1 a0 t230 _ A80.out).mono ?_); rintro e w' ⟨rfl, ⟨nd, rfl⟩⟩) | (go_at_call 30; (with_reducible refine (pianolaref05_Size.calls k1 a0 t231 _ A81.out).mono ?_); rintro e w114 ⟨rfl, hb⟩; have n0_ := Aside0.mk (below_step (by repeat (first | (with_reducible first | exact HB.out | apply below_alloc | apply pw_below_drewN | apply below_drew1) | exact HB.out)) hb); clear HB; have HB := n0_; clear n0_; (try clear hb); (try clear hb2); (try clear hk); (try clear hi)) | (go_at_call 15; (with_reducible refine (instr_Name.calls a0 t232 _ A83.out).mono ?_); rintro e w' ⟨rfl, ⟨nd, rfl⟩⟩) | (go_at_call 27; (with_reducible refine (pianolaref05_Name.calls k1 a0 t233 _ A84.out).mono ?_); rintro e w115 ⟨rfl, hb⟩; have n0_ := Aside0.mk (below_step (by repeat (first | (with_reducible first | exact HB.out | apply below_alloc | apply pw_below_drewN | apply below_drew1) | exact HB.out)) hb); clear HB; have HB := n0_; clear n0_; (try clear hb); (try clear hb2); (try clear hk); (try clear hi)) | (go_at_call 32; (with_reducible refine (instr_Takes.calls k1 a0 t234 _ A86.out).mono ?_); rintro e w116 ⟨v235, rfl, ho0, hb⟩; have n0_ := Aside0.mk (Kd.R_lower ho0 (below_size (by repeat (first | (with_reducible first | exact HB.out | apply below_alloc | apply pw_below_drewN | apply below_drew1) | exact HB.out)))); have n1_ := Aside0.mk (below_step (by repeat (first | (with_reducible first | exact HB.out | apply below_alloc | apply pw_below_drewN | apply below_drew1) | exact HB.out)) hb); clear HB; have HO236 := n0_; have HB := n1_; clear n0_ n1_; (try clear hb); (try clear hb2); (try clear hk); (try clear hi); (try clear ho0); obtain ⟨Ao117, co117, eo117⟩ := Kd.R_slice HO236.out; subst eo117) | (go_at_call 31; (with_reducible refine (pianolalaw05_sameKinds.calls k1 _ _ t234 t208 true _ ?side1 ?side2 A87.out).mono ?_); (case side1 => repeat (first | exact (Kd.R_reads' HO236.out).2.2 | (with_reducible refine Kd.C_alloc ?_ _) | (with_reducible refine Kd.C_drewN ?_ _) | (with_reducible refine Kd.C_drew ?_))); (case side2 => exact (Kd.R_reads' HO236.out).2.1); rintro e w' ⟨rfl, ⟨nd, rfl⟩⟩) | (go_at_call 33; (with_reducible refine (instr_Gives.calls k1 a0 t238 _ A89.out).mono ?_); rintro e w118 ⟨v239, rfl, ho0, hb⟩; have n0_ := Aside0.mk (Kd.R_elder' (by (with_reducible repeat (first | apply Kd.R_alloc | apply Kd.R_drewN | apply Kd.R_drew)); exact HO236.out) (Kd.R_base ho0) hb); have n1_ := Aside0.mk (Kd.R_lower (Kd.R_new' ho0 (Kd.R_lt (by (with_reducible repeat (first | apply Kd.R_alloc | apply Kd.R_drewN | apply Kd.R_drew)); exact HO236.out))) (below_size (by repeat (first | (with_reducible first | exact HB.out | apply below_alloc | apply pw_below_drewN | apply below_drew1) | exact HB.out)))); have n2_ := Aside0.mk (below_step (by repeat (first | (with_reducible first | exact HB.out | apply below_alloc | apply pw_below_drewN | apply below_drew1) | exact HB.out)) hb); clear HO236; clear HB; have HO236 := n0_; have HO240 := n1_; have HB := n2_; clear n0_ n1_ n2_; (try clear hb); (try clear hb2); (try clear hk); (try clear hi); (try clear ho0); obtain ⟨Ao119, co119, eo119⟩ := Kd.R_slice HO240.out; subst eo119) | (go_at_call 31; (with_reducible refine (pianolalaw05_sameKinds.calls k1 _ _ t238 t209 false _ ?side1 ?side2 A90.out).mono ?_); (case side1 => repeat (first | exact (Kd.R_reads' HO240.out).2.2 | (with_reducible refine Kd.C_alloc ?_ _) | (with_reducible refine Kd.C_drewN ?_ _) | (with_reducible refine Kd.C_drew ?_))); (case side2 => exact (Kd.R_reads' HO240.out).2.1); rintro e w' ⟨rfl, ⟨nd, rfl⟩⟩))
                        go_ret
                        exact ⟨by first | rfl | (simp [errW_none, errW_some] <;> rfl) | (simp [*, errW_none, errW_some] <;> rfl), by repeat (first | (with_reducible first | exact HB.out | apply below_alloc | apply pw_below_drewN | apply below_drew1) | exact HB.out)⟩
                    · replace c88 := Bool.eq_false_iff.mpr c88
                      subst c88
                      have H1 : (some false) = some r := by rw [if_neg (show ¬ (false = true) by decide)] at H; exact H
                      clear H
                      have H := H1
                      clear H1
                      obtain rfl := Option.some.inj H
                      (try (have e_ := some_two A14.out A17.out; subst e_))
                      (try (have e_ := beq_res c15b0; subst e_))
                      (try (have e_ := beq_res c19b0; subst e_))
                      (try (have e_ := beq_res c79b0; subst e_))
                      go_wp2_with (first | ((with_reducible refine gate_callee (f := 13) rfl ?_); refine goesL_ (some 35) rfl rfl Try.func13 (by kernel_rfl) rfl #[] rfl (by (try simp only [List.map_toArray, List.map_cons, List.map_nil]); first | done | rfl | (simp only [List.length_drop, List.length_take]; rfl)) ?_; (with_reducible refine (pianolalaw05_lives.calls  true _ A11.out).mono ?_); rintro e w120 ⟨rfl, hb⟩; refine ⟨_, rfl, ?_⟩; have n0_ := Aside0.mk (below_step (by repeat (first | (with_reducible first | exact HB.out | apply below_alloc | apply pw_below_drewN | apply below_drew1) | exact HB.out)) hb); clear HB; have HB := n0_; clear n0_; (try clear hb); (try clear hb2); (try clear hk); (try clear hi)) | (go_at_call 16; (with_reducible refine (instr_Known.calls a0 _ _ A13.out).mono ?_); rintro e w' ⟨rfl, ⟨nd, rfl⟩⟩) | (go_at_call 28; (with_reducible refine (pianolaref05_Known.calls k1 a0 _ _ A14.out).mono ?_); rintro e w121 ⟨rfl, hb⟩; have n0_ := Aside0.mk (below_step (by repeat (first | (with_reducible first | exact HB.out | apply below_alloc | apply pw_below_drewN | apply below_drew1) | exact HB.out)) hb); clear HB; have HB := n0_; clear n0_; (try clear hb); (try clear hb2); (try clear hk); (try clear hi)) | (go_at_call 29; (with_reducible refine (instr_Pure.calls a0 _ _ A16.out).mono ?_); rintro e w' ⟨rfl, ⟨nd, rfl⟩⟩) | (go_at_call 28; (with_reducible refine (pianolaref05_Known.calls k1 a0 false _ A17.out).mono ?_); rintro e w122 ⟨rfl, hb⟩; have n0_ := Aside0.mk (below_step (by repeat (first | (with_reducible first | exact HB.out | apply below_alloc | apply pw_below_drewN | apply below_drew1) | exact HB.out)) hb); clear HB; have HB := n0_; clear n0_; (try clear hb); (try clear hb2); (try clear hk); (try clear hi)) | (go_at_call 25; (with_reducible refine (instr_Size.calls k1 a0 t230 _ A80.out).mono ?_); rintro e w' ⟨rfl, ⟨nd, rfl⟩⟩) | (go_at_call 30; (with_reducible refine (pianolaref05_Size.calls k1 a0 t231 _ A81.out).mono ?_); rintro e w123 ⟨rfl, hb⟩; have n0_ := Aside0.mk (below_step (by repeat (first | (with_reducible first | exact HB.out | apply below_alloc | apply pw_below_drewN | apply below_drew1) | exact HB.out)) hb); clear HB; have HB := n0_; clear n0_; (try clear hb); (try clear hb2); (try clear hk); (try clear hi)) | (go_at_call 15; (with_reducible refine (instr_Name.calls a0 t232 _ A83.out).mono ?_); rintro e w' ⟨rfl, ⟨nd, rfl⟩⟩) | (go_at_call 27; (with_reducible refine (pianolaref05_Name.calls k1 a0 t233 _ A84.out).mono ?_); rintro e w124 ⟨rfl, hb⟩; have n0_ := Aside0.mk (below_step (by repeat (first | (with_reducible first | exact HB.out | apply below_alloc | apply pw_below_drewN | apply below_drew1) | exact HB.out)) hb); clear HB; have HB := n0_; clear n0_; (try clear hb); (try clear hb2); (try clear hk); (try clear hi)) | (go_at_call 32; (with_reducible refine (instr_Takes.calls k1 a0 t234 _ A86.out).mono ?_); rintro e w125 ⟨v235, rfl, ho0, hb⟩; have n0_ := Aside0.mk (Kd.R_lower ho0 (below_size (by repeat (first | (with_reducible first | exact HB.out | apply below_alloc | apply pw_below_drewN | apply below_drew1) | exact HB.out)))); have n1_ := Aside0.mk (below_step (by repeat (first | (with_reducible first | exact HB.out | apply below_alloc | apply pw_below_drewN | apply below_drew1) | exact HB.out)) hb); clear HB; have HO236 := n0_; have HB := n1_; clear n0_ n1_; (try clear hb); (try clear hb2); (try clear hk); (try clear hi); (try clear ho0); obtain ⟨Ao126, co126, eo126⟩ := Kd.R_slice HO236.out; subst eo126) | (go_at_call 31; (with_reducible refine (pianolalaw05_sameKinds.calls k1 _ _ t234 t208 false _ ?side1 ?side2 A87.out).mono ?_); (case side1 => repeat (first | exact (Kd.R_reads' HO236.out).2.2 | (with_reducible refine Kd.C_alloc ?_ _) | (with_reducible refine Kd.C_drewN ?_ _) | (with_reducible refine Kd.C_drew ?_))); (case side2 => exact (Kd.R_reads' HO236.out).2.1); rintro e w' ⟨rfl, ⟨nd, rfl⟩⟩))
                      go_ret
                      exact ⟨by first | rfl | (simp [errW_none, errW_some] <;> rfl) | (simp [*, errW_none, errW_some] <;> rfl), by repeat (first | (with_reducible first | exact HB.out | apply below_alloc | apply pw_below_drewN | apply below_drew1) | exact HB.out)⟩
                  · rw [if_neg c85] at H
                    have c85b0 : (t232.toList == t233.toList) = false := beq_eq_false_iff_ne.mpr c85
                    have c85b1 : (t232.toList != t233.toList) = true := bne_iff_ne.mpr c85
                    obtain rfl := Option.some.inj H
                    (try (have e_ := some_two A14.out A17.out; subst e_))
                    (try (have e_ := beq_res c15b0; subst e_))
                    (try (have e_ := beq_res c19b0; subst e_))
                    (try (have e_ := beq_res c79b0; subst e_))
                    go_wp2_with (first | ((with_reducible refine gate_callee (f := 13) rfl ?_); refine goesL_ (some 35) rfl rfl Try.func13 (by kernel_rfl) rfl #[] rfl (by (try simp only [List.map_toArray, List.map_cons, List.map_nil]); first | done | rfl | (simp only [List.length_drop, List.length_take]; rfl)) ?_; (with_reducible refine (pianolalaw05_lives.calls  true _ A11.out).mono ?_); rintro e w127 ⟨rfl, hb⟩; refine ⟨_, rfl, ?_⟩; have n0_ := Aside0.mk (below_step (by repeat (first | (with_reducible first | exact HB.out | apply below_alloc | apply pw_below_drewN | apply below_drew1) | exact HB.out)) hb); clear HB; have HB := n0_; clear n0_; (try clear hb); (try clear hb2); (try clear hk); (try clear hi)) | (go_at_call 16; (with_reducible refine (instr_Known.calls a0 _ _ A13.out).mono ?_); rintro e w' ⟨rfl, ⟨nd, rfl⟩⟩) | (go_at_call 28; (with_reducible refine (pianolaref05_Known.calls k1 a0 _ _ A14.out).mono ?_); rintro e w128 ⟨rfl, hb⟩; have n0_ := Aside0.mk (below_step (by repeat (first | (with_reducible first | exact HB.out | apply below_alloc | apply pw_below_drewN | apply below_drew1) | exact HB.out)) hb); clear HB; have HB := n0_; clear n0_; (try clear hb); (try clear hb2); (try clear hk); (try clear hi)) | (go_at_call 29; (with_reducible refine (instr_Pure.calls a0 _ _ A16.out).mono ?_); rintro e w' ⟨rfl, ⟨nd, rfl⟩⟩) | (go_at_call 28; (with_reducible refine (pianolaref05_Known.calls k1 a0 false _ A17.out).mono ?_); rintro e w129 ⟨rfl, hb⟩; have n0_ := Aside0.mk (below_step (by repeat (first | (with_reducible first | exact HB.out | apply below_alloc | apply pw_below_drewN | apply below_drew1) | exact HB.out)) hb); clear HB; have HB := n0_; clear n0_; (try clear hb); (try clear hb2); (try clear hk); (try clear hi)) | (go_at_call 25; (with_reducible refine (instr_Size.calls k1 a0 t230 _ A80.out).mono ?_); rintro e w' ⟨rfl, ⟨nd, rfl⟩⟩) | (go_at_call 30; (with_reducible refine (pianolaref05_Size.calls k1 a0 t231 _ A81.out).mono ?_); rintro e w130 ⟨rfl, hb⟩; have n0_ := Aside0.mk (below_step (by repeat (first | (with_reducible first | exact HB.out | apply below_alloc | apply pw_below_drewN | apply below_drew1) | exact HB.out)) hb); clear HB; have HB := n0_; clear n0_; (try clear hb); (try clear hb2); (try clear hk); (try clear hi)) | (go_at_call 15; (with_reducible refine (instr_Name.calls a0 t232 _ A83.out).mono ?_); rintro e w' ⟨rfl, ⟨nd, rfl⟩⟩) | (go_at_call 27; (with_reducible refine (pianolaref05_Name.calls k1 a0 t233 _ A84.out).mono ?_); rintro e w131 ⟨rfl, hb⟩; have n0_ := Aside0.mk (below_step (by repeat (first | (with_reducible first | exact HB.out | apply below_alloc | apply pw_below_drewN | apply below_drew1) | exact HB.out)) hb); clear HB; have HB := n0_; clear n0_; (try clear hb); (try clear hb2); (try clear hk); (try clear hi)))
                    go_ret
                    exact ⟨by first | rfl | (simp [errW_none, errW_some] <;> rfl) | (simp [*, errW_none, errW_some] <;> rfl), by repeat (first | (with_reducible first | exact HB.out | apply below_alloc | apply pw_below_drewN | apply below_drew1) | exact HB.out)⟩
                · rw [if_neg c82] at H
                  have c82b0 : (t230 == t231) = false := beq_eq_false_iff_ne.mpr c82
                  have c82b1 : (t230 != t231) = true := bne_iff_ne.mpr c82
                  obtain rfl := Option.some.inj H
                  (try (have e_ := some_two A14.out A17.out; subst e_))
                  (try (have e_ := beq_res c15b0; subst e_))
                  (try (have e_ := beq_res c19b0; subst e_))
                  (try (have e_ := beq_res c79b0; subst e_))
                  go_wp2_with (first | ((with_reducible refine gate_callee (f := 13) rfl ?_); refine goesL_ (some 35) rfl rfl Try.func13 (by kernel_rfl) rfl #[] rfl (by (try simp only [List.map_toArray, List.map_cons, List.map_nil]); first | done | rfl | (simp only [List.length_drop, List.length_take]; rfl)) ?_; (with_reducible refine (pianolalaw05_lives.calls  true _ A11.out).mono ?_); rintro e w132 ⟨rfl, hb⟩; refine ⟨_, rfl, ?_⟩; have n0_ := Aside0.mk (below_step (by repeat (first | (with_reducible first | exact HB.out | apply below_alloc | apply pw_below_drewN | apply below_drew1) | exact HB.out)) hb); clear HB; have HB := n0_; clear n0_; (try clear hb); (try clear hb2); (try clear hk); (try clear hi)) | (go_at_call 16; (with_reducible refine (instr_Known.calls a0 _ _ A13.out).mono ?_); rintro e w' ⟨rfl, ⟨nd, rfl⟩⟩) | (go_at_call 28; (with_reducible refine (pianolaref05_Known.calls k1 a0 _ _ A14.out).mono ?_); rintro e w133 ⟨rfl, hb⟩; have n0_ := Aside0.mk (below_step (by repeat (first | (with_reducible first | exact HB.out | apply below_alloc | apply pw_below_drewN | apply below_drew1) | exact HB.out)) hb); clear HB; have HB := n0_; clear n0_; (try clear hb); (try clear hb2); (try clear hk); (try clear hi)) | (go_at_call 29; (with_reducible refine (instr_Pure.calls a0 _ _ A16.out).mono ?_); rintro e w' ⟨rfl, ⟨nd, rfl⟩⟩) | (go_at_call 28; (with_reducible refine (pianolaref05_Known.calls k1 a0 false _ A17.out).mono ?_); rintro e w134 ⟨rfl, hb⟩; have n0_ := Aside0.mk (below_step (by repeat (first | (with_reducible first | exact HB.out | apply below_alloc | apply pw_below_drewN | apply below_drew1) | exact HB.out)) hb); clear HB; have HB := n0_; clear n0_; (try clear hb); (try clear hb2); (try clear hk); (try clear hi)) | (go_at_call 25; (with_reducible refine (instr_Size.calls k1 a0 t230 _ A80.out).mono ?_); rintro e w' ⟨rfl, ⟨nd, rfl⟩⟩) | (go_at_call 30; (with_reducible refine (pianolaref05_Size.calls k1 a0 t231 _ A81.out).mono ?_); rintro e w135 ⟨rfl, hb⟩; have n0_ := Aside0.mk (below_step (by repeat (first | (with_reducible first | exact HB.out | apply below_alloc | apply pw_below_drewN | apply below_drew1) | exact HB.out)) hb); clear HB; have HB := n0_; clear n0_; (try clear hb); (try clear hb2); (try clear hk); (try clear hi)))
                  go_ret
                  exact ⟨by first | rfl | (simp [errW_none, errW_some] <;> rfl) | (simp [*, errW_none, errW_some] <;> rfl), by repeat (first | (with_reducible first | exact HB.out | apply below_alloc | apply pw_below_drewN | apply below_drew1) | exact HB.out)⟩
              · rw [if_neg c79] at H
                have c79b0 : (t216 == false) = false := by simpa using c79
                (try (have c79b1 : decide (t216 = false) = false := by simpa using c79))
                (try (have c79b2 : (t216 == false) = false := by simpa using c79))
                (try (have c79b3 : ¬ (t216 = false) := by simpa using c79))
                clear c79
                obtain rfl := Option.some.inj H
                (try (have e_ := some_two A14.out A17.out; subst e_))
                (try (have e_ := beq_res c15b0; subst e_))
                (try (have e_ := beq_res c19b0; subst e_))
                (try (have e_ := beq_res c79b0; subst e_))
                go_wp2_with (first | ((with_reducible refine gate_callee (f := 13) rfl ?_); refine goesL_ (some 35) rfl rfl Try.func13 (by kernel_rfl) rfl #[] rfl (by (try simp only [List.map_toArray, List.map_cons, List.map_nil]); first | done | rfl | (simp only [List.length_drop, List.length_take]; rfl)) ?_; (with_reducible refine (pianolalaw05_lives.calls  true _ A11.out).mono ?_); rintro e w136 ⟨rfl, hb⟩; refine ⟨_, rfl, ?_⟩; have n0_ := Aside0.mk (below_step (by repeat (first | (with_reducible first | exact HB.out | apply below_alloc | apply pw_below_drewN | apply below_drew1) | exact HB.out)) hb); clear HB; have HB := n0_; clear n0_; (try clear hb); (try clear hb2); (try clear hk); (try clear hi)) | (go_at_call 16; (with_reducible refine (instr_Known.calls a0 _ _ A13.out).mono ?_); rintro e w' ⟨rfl, ⟨nd, rfl⟩⟩) | (go_at_call 28; (with_reducible refine (pianolaref05_Known.calls k1 a0 _ _ A14.out).mono ?_); rintro e w137 ⟨rfl, hb⟩; have n0_ := Aside0.mk (below_step (by repeat (first | (with_reducible first | exact HB.out | apply below_alloc | apply pw_below_drewN | apply below_drew1) | exact HB.out)) hb); clear HB; have HB := n0_; clear n0_; (try clear hb); (try clear hb2); (try clear hk); (try clear hi)) | (go_at_call 29; (with_reducible refine (instr_Pure.calls a0 _ _ A16.out).mono ?_); rintro e w' ⟨rfl, ⟨nd, rfl⟩⟩) | (go_at_call 28; (with_reducible refine (pianolaref05_Known.calls k1 a0 false _ A17.out).mono ?_); rintro e w138 ⟨rfl, hb⟩; have n0_ := Aside0.mk (below_step (by repeat (first | (with_reducible first | exact HB.out | apply below_alloc | apply pw_below_drewN | apply below_drew1) | exact HB.out)) hb); clear HB; have HB := n0_; clear n0_; (try clear hb); (try clear hb2); (try clear hk); (try clear hi)))
                go_ret
                exact ⟨by first | rfl | (simp [errW_none, errW_some] <;> rfl) | (simp [*, errW_none, errW_some] <;> rfl), by repeat (first | (with_reducible first | exact HB.out | apply below_alloc | apply pw_below_drewN | apply below_drew1) | exact HB.out)⟩
          · rw [if_neg c15] at H
            have c15b0 : (t214 == t215) = false := by simpa using c15
            (try (have c15b1 : decide (t214 = t215) = false := by simpa using c15))
            (try (have c15b2 : (t214 == t215) = false := by simpa using c15))
            (try (have c15b3 : ¬ (t214 = t215) := by simpa using c15))
            clear c15
            obtain rfl := Option.some.inj H
            (try (have e_ := some_two A14.out A17.out; subst e_))
            (try (have e_ := beq_res c15b0; subst e_))
            (try (have e_ := beq_res c19b0; subst e_))
            (try (have e_ := beq_res c79b0; subst e_))
            go_wp2_with (first | ((with_reducible refine gate_callee (f := 13) rfl ?_); refine goesL_ (some 35) rfl rfl Try.func13 (by kernel_rfl) rfl #[] rfl (by (try simp only [List.map_toArray, List.map_cons, List.map_nil]); first | done | rfl | (simp only [List.length_drop, List.length_take]; rfl)) ?_; (with_reducible refine (pianolalaw05_lives.calls  true _ A11.out).mono ?_); rintro e w139 ⟨rfl, hb⟩; refine ⟨_, rfl, ?_⟩; have n0_ := Aside0.mk (below_step (by repeat (first | (with_reducible first | exact HB.out | apply below_alloc | apply pw_below_drewN | apply below_drew1) | exact HB.out)) hb); clear HB; have HB := n0_; clear n0_; (try clear hb); (try clear hb2); (try clear hk); (try clear hi)) | (go_at_call 16; (with_reducible refine (instr_Known.calls a0 _ _ A13.out).mono ?_); rintro e w' ⟨rfl, ⟨nd, rfl⟩⟩) | (go_at_call 28; (with_reducible refine (pianolaref05_Known.calls k1 a0 _ _ A14.out).mono ?_); rintro e w140 ⟨rfl, hb⟩; have n0_ := Aside0.mk (below_step (by repeat (first | (with_reducible first | exact HB.out | apply below_alloc | apply pw_below_drewN | apply below_drew1) | exact HB.out)) hb); clear HB; have HB := n0_; clear n0_; (try clear hb); (try clear hb2); (try clear hk); (try clear hi)))
            go_ret
            exact ⟨by first | rfl | (simp [errW_none, errW_some] <;> rfl) | (simp [*, errW_none, errW_some] <;> rfl), by repeat (first | (with_reducible first | exact HB.out | apply below_alloc | apply pw_below_drewN | apply below_drew1) | exact HB.out)⟩
        · replace c12 := Bool.eq_false_iff.mpr c12
          subst c12
          have H1 : (some false) = some r := by rw [if_neg (show ¬ (false = true) by decide)] at H; exact H
          clear H
          have H := H1
          clear H1
          obtain rfl := Option.some.inj H
          (try (have e_ := some_two A14.out A17.out; subst e_))
          (try (have e_ := beq_res c15b0; subst e_))
          (try (have e_ := beq_res c19b0; subst e_))
          (try (have e_ := beq_res c79b0; subst e_))
          go_wp2_with (first | ((with_reducible refine gate_callee (f := 13) rfl ?_); refine goesL_ (some 35) rfl rfl Try.func13 (by kernel_rfl) rfl #[] rfl (by (try simp only [List.map_toArray, List.map_cons, List.map_nil]); first | done | rfl | (simp only [List.length_drop, List.length_take]; rfl)) ?_; (with_reducible refine (pianolalaw05_lives.calls  false _ A11.out).mono ?_); rintro e w141 ⟨rfl, hb⟩; refine ⟨_, rfl, ?_⟩; have n0_ := Aside0.mk (below_step (by repeat (first | (with_reducible first | exact HB.out | apply below_alloc | apply pw_below_drewN | apply below_drew1) | exact HB.out)) hb); clear HB; have HB := n0_; clear n0_; (try clear hb); (try clear hb2); (try clear hk); (try clear hi)))
          go_ret
          exact ⟨by first | rfl | (simp [errW_none, errW_some] <;> rfl) | (simp [*, errW_none, errW_some] <;> rfl), by repeat (first | (with_reducible first | exact HB.out | apply below_alloc | apply pw_below_drewN | apply below_drew1) | exact HB.out)⟩

/-- THE ONE PURE STATEMENT of pianolalaw05_InstrOps: yours. -/
def pianolalaw05_InstrOps.Pure : Prop := ∀ (a0 : Int) (a1 : ByteArray), (Lit.int .i64 a0).wf = true → a1.size ≤ 140737488351232 → ∃ k, pianolalaw05_InstrOps.f k a0 a1 = some true
theorem pianolalaw05_InstrOps.walk (P : pianolalaw05_InstrOps.Pure) (a0 : Int) (a1 : ByteArray) (w : World) (w0 : (Lit.int .i64 a0).wf = true) (w1 : a1.size ≤ 140737488351232) :
    Calls Try.prog 7 #[.int .i64 a0, .string a1] w fun e w' => e = .returned (.bool true) ∧ Below w.heap.size w w' := by
  obtain ⟨k, h⟩ := P a0 a1 w0 w1
  refine (pianolalaw05_InstrOps.calls k a0 a1 true w h).mono ?_
  rintro e w' ⟨rfl, hd⟩
  exact ⟨rfl, hd⟩

end Go.Proofs.Ytndedmkjmahohaa.P
