import Derived.Test.YtdcjbkhfopdgnaaP0
import Derived.Test.YtdcjbkhfopdgnaaInstrX
import Derived.Test.YtdcjbkhfopdgnaaCalm
import Derived.BigQuiet
import Derived.Outline
namespace Go.Proofs.Ytdcjbkhfopdgnaa.P
open Go.RowKit Go.Proofs.YtdcjbkhfopdgnaaW.PrintWords Go.Proofs.YtdcjbkhfopdgnaaW.PrintLast Go.Proofs.YtdcjbkhfopdgnaaW.PrintMore
attribute [local go_sem] max2_int min2_int max_two min_two max_three min_three max_four min_four   -- for this text's walks alone
set_option linter.unusedVariables false
set_option linter.unusedSimpArgs false
-- IMPORT Derived.Test.YtdcjbkhfopdgnaaInstrX
-- IMPORT Derived.Test.YtdcjbkhfopdgnaaCalm
-- IMPORT Derived.BigQuiet
open Pl
attribute [local go_sem] Oper.semAt_some
def pianolalaw05_walk.f (l0 : List Int) (a1 : Int) : Option (List S58 × List Int × Bool) :=
  if l0.length ≤ 1000000000000 then (allF 200 l0 (l0.length + 1) 0).bind fun xs => some ((goneF xs a1).map (·.2), (goneF xs a1).map (·.1), true) else none
set_option maxRecDepth 100000 in
set_option maxHeartbeats 4000000 in
theorem iwalk_walk (A0 : Option Addr) (c0 : Nat) (l0 : List Int) (most : Int) (xs : List Ins) (w : World) (hr0 : Kd.C (Kd.int .u8) w A0 l0.length l0) (hc0 : l0.length ≤ c0) (hx : allF 200 l0 (l0.length + 1) 0 = some xs) (hl : l0.length ≤ 1000000000000) :
    Calls Try.prog 31 #[.slice A0 l0.length c0, .int .i64 most] w fun e w' => ∃ v0_ v1_ : Value, e = .returned (.tuple #[v0_, v1_, .bool true]) ∧ Kd.R k58 58 w' w.heap.size (fun _ => True) v0_ ((goneF xs most).map (·.2)) ∧ Kd.R (Kd.int .i64) 3 w' w.heap.size (fun _ => True) v1_ ((goneF xs most).map (·.1)) ∧ Below w.heap.size w w' := by
  have HR0 := Aside0.mk hr0
  have HX := Aside0.mk hx
  have hnil : ∀ (b : Nat) (W : World), (binOp .eql 65 (.func (.func 56) #[] #[.pointer (some ⟨b, 0, none⟩)]) .nilFunc).run Try.prog W = .ok (.bool false) W := fun _ _ => by kernel_rfl
  clear hr0 hx
  refine (callsIn_wide (n := 4)).1 ?_
  refine callsIn_of_wp_marks Try.func31 rfl trivial ?_ rfl
  simp only [Try.ntmps31, List.size_toArray, List.length_cons, List.length_nil, Nat.reduceAdd, Nat.reduceSub, Array.replicate_succ, Array.replicate_zero, List.push_toArray, List.append_toArray, List.nil_append, List.cons_append]
  refine wpIn_wide.2 ?_
  go_upto_region 1 with (fail)
  obtain ⟨W0, hW0⟩ : ∃ W0, w.alloc (.cells #[.int .i64 most] 3) = W0 := ⟨_, rfl⟩
  have b1 : W0.heap[w.heap.size]? = some (.cells #[.int .i64 most] 3 (0, 0)) := by rw [← hW0]; exact blk_new w _
  have hb0 : Below w.heap.size w W0 := by rw [← hW0]; exact below_alloc (Below.refl _ w) _
  have z0 : W0.heap.size = w.heap.size + 1 := by rw [← hW0, World.size_alloc]
  rw [hW0]
  clear hW0
  go_wp2_with fail
  refine ((callsIn_wide (n := 4)).1 (all_in 4 A0 l0.length c0 _)).mono ?_
  rintro e w1 ⟨rfl, rfl⟩
  obtain ⟨W1, hW1⟩ : ∃ W1, W0.alloc (.cells #[.slice A0 l0.length c0] 46) = W1 := ⟨_, rfl⟩
  have hb1 : Below W0.heap.size W0 W1 := by rw [← hW1]; exact below_alloc (Below.refl _ W0) _
  have c1 := blk_below b1 hb1
  have bs : W1.heap[W0.heap.size]? = some (.cells #[.slice A0 l0.length c0] 46 (0, 0)) := by rw [← hW1]; exact blk_new W0 _
  have z1 : W1.heap.size = W0.heap.size + 1 := by rw [← hW1, World.size_alloc]
  have hbw := below_step hb0 hb1
  rw [hW1]
  have B1 := Aside0.mk c1
  have BS := Aside0.mk bs
  have HB := Aside0.mk hbw
  have HZ := Aside0.mk (And.intro z0 z1)
  clear b1 hb0 z0 hb1 c1 bs z1 hbw hW1
  go_wp2_with fail
  obtain ⟨W6, hW6⟩ : ∃ W6, (W1.alloc (.cells #[.slice none 0 0] 49)).alloc (.cells #[.slice none 0 0] 56) = W6 := ⟨_, rfl⟩
  have hb6 : Below W1.heap.size W1 W6 := by rw [← hW6]; exact below_alloc (below_alloc (Below.refl _ W1) _) _
  have b8 : W6.heap[W1.heap.size]? = some (.cells #[.slice none 0 0] 49 (0, 0)) := by rw [← hW6]; exact blk_alloc (blk_new W1 _) _
  have b9 : W6.heap[W1.heap.size + 1]? = some (.cells #[.slice none 0 0] 56 (0, 0)) := by
    rw [← hW6]
    have := blk_new (W1.alloc (.cells #[.slice none 0 0] 49)) (.cells #[.slice none 0 0] 56)
    rw [World.size_alloc] at this
    exact this
  have z6 : W6.heap.size = W1.heap.size + 2 := by rw [← hW6, World.size_alloc, World.size_alloc]
  rw [hW6]
  have hWB : WB w W6 W0.heap.size W1.heap.size l0.length c0 A0 most (.slice none 0 0) (.slice none 0 0) [] [] :=
    ⟨blk_below B1.out hb6, blk_below BS.out hb6, b8, b9, Kd.R_nil _ _ _ _ _, Kd.R_nil _ _ _ _ _, (fun k e => by cases e), by have := HZ.out; omega, by have := HZ.out; omega, below_step HB.out hb6⟩
  have HWB := Aside0.mk hWB
  have HZ6 := Aside0.mk z6
  clear hb6 b8 b9 hW6 z6 hWB B1 BS HB
  refine (wpIn_wide (n := 4)).1 ?_
  refine wpIn_rangeFunc_ownH rfl (by omega) (gf := 56) (lb := #[.pointer (some ⟨W0.heap.size, 0, none⟩)]) rfl trivial (enters_of Try.func56 (by kernel_rfl) rfl)
    (all_stops (4 - 1) (by omega) W0.heap.size 200 (l0.length + 1) l0 A0 c0 hc0 xs HX.out w HR0.out W6 HWB.out.hb HWB.out.bs) (fun h k => KeepBox.t h k) (fun W l o o' => KeepBox.b (by have := HWB.out.hb.size; omega) (by have := HZ6.out; have := HZ.out; omega) W l o o') (Below.refl _ _) (fun _ => rfl)
    (WI w W0.heap.size W1.heap.size l0.length c0 A0 most xs) (WX w W0.heap.size W1.heap.size l0.length c0 A0 most xs) (WI.kept _ _ _ _ _ _ _ _ (by have := HWB.out.hb.size; omega)) (fun c => WX.kept _ _ _ _ _ _ _ _ (by have := HWB.out.hb.size; omega) c) ⟨⟨_, _, HWB.out⟩, by rw [List.length_nil]; omega⟩
    (fun x a' Wb => ∃ Bx, Wb.heap[Bx]? = some (.cells #[.int .i64 x.1.2.f0, .int .i64 x.1.2.f1] 58 (0, 0)) ∧ W1.heap.size + 2 ≤ Bx ∧ a' = { tmps := #[.slice A0 l0.length c0, .int .i64 most, undef, .pointer (some ⟨w.heap.size, 0, none⟩), .slice none 0 0, .slice none 0 0, .bool false, .func (.func 56) #[] #[.pointer (some ⟨W0.heap.size, 0, none⟩)], .pointer (some ⟨W1.heap.size, 0, none⟩), .pointer (some ⟨W1.heap.size + 1, 0, none⟩), .int .i64 x.1.1, .pointer (some ⟨Bx, 0, none⟩), .slice A0 l0.length c0, .func (.func 56) #[] #[.pointer (some ⟨W0.heap.size, 0, none⟩)], .func (.func 56) #[] #[.pointer (some ⟨W0.heap.size, 0, none⟩)], .bool false, .func (.func 56) #[] #[.pointer (some ⟨W0.heap.size, 0, none⟩)], .int .i64 x.1.1, .agg #[.int .i64 x.1.2.f0, .int .i64 x.1.2.f1], undef, undef, undef, undef, undef, undef, undef, undef, undef, undef, undef, undef, undef, undef], defers := [] })
    (fun x a' => (by rintro _ W W' row ⟨Bx, h1, h2, h3⟩ hg hr; exact ⟨Bx, cells_kept h1 hg (fun r e => (hr r e).2), h2, h3⟩)) ?assign ?body ?done ?stop
  case assign =>
    rintro l pre x W K ⟨⟨v8, v9, hi⟩, hm⟩ hK
    gi_wp2
    refine hK _ _ ((KeepsOthers.alloc _ _).from _) ⟨(Below.refl _ W).alloc hi.hb.size _, (blk_alloc hi.bs _).trans hi.bs.symm⟩ ⟨⟨v8, v9, hi.below (below_alloc (Below.refl _ W) _)⟩, hm⟩ ⟨W.heap.size, blk_new W _, ?_, rfl⟩
    have := blk_lt hi.b9; omega
  case body =>
    rintro l pre x a' W hl hloop ⟨⟨v8, v9, hi⟩, hm⟩ ⟨Bx, hBx, hlo, rfl⟩ hlt
    rcases x with ⟨⟨pl, ⟨xo, xa⟩⟩, hx⟩
    dsimp only at hBx
    dsimp only
    obtain ⟨k, hk⟩ : ∃ k, pre.length = k := ⟨_, rfl⟩
    have hkb : k ≤ 1000000000000 := by
      have h1 := allF_len 200 l0 (l0.length + 1) 0 xs HX.out
      omega
    have HI := Aside0.mk hi
    have HM := Aside0.mk hm
    have HK := Aside0.mk hk
    have HBX := Aside0.mk hBx
    have HLOX := Aside0.mk hlo
    have HLT := Aside0.mk (And.intro hlt hl)
    clear hi hm hk hBx hlo hlt hl hloop
    gi_wp2
    have hpl : (pre.map (fun q => q.1.2)).length = k := by rw [List.length_map]; exact HK.out
    have hpm : (pre.map (fun q => q.1.1)).length = k := by rw [List.length_map]; exact HK.out
    have hnz : ∀ q : Bool, (!q).toNat = 0 → q = true := by decide
    refine wpIn_region_inv (fun _ => trivial) (by kernel_rfl) (by rfl) (fun f listed a Wb => ∃ (q0 q1 q2 q3 q4 q5 q6 q7 q8 q9 : Bool) (t19 t20 t21 t22 t23 t24 t25 t26 : Value), listed = #[q0, q1, q2, q3, q4, q5, q6, q7, q8, q9] ∧ f = (!q0).toNat + (!q1).toNat + (!q2).toNat + (!q3).toNat + (!q4).toNat + (!q5).toNat + (!q6).toNat + (!q7).toNat + (!q8).toNat + (!q9).toNat ∧ a = { tmps := List.toArray ((Value.slice A0 l0.length c0) :: (Value.int IntKind.i64 most) :: (undef) :: (Value.pointer (some ⟨w.heap.size, 0, none⟩)) :: (Value.slice none 0 0) :: (Value.slice none 0 0) :: (Value.bool false) :: (Value.func (Fn.func 56) #[] #[Value.pointer (some ⟨W0.heap.size, 0, none⟩)]) :: (Value.pointer (some ⟨W1.heap.size, 0, none⟩)) :: (Value.pointer (some ⟨W1.heap.size + 1, 0, none⟩)) :: (Value.int IntKind.i64 pl) :: (Value.pointer (some ⟨Bx, 0, none⟩)) :: (Value.slice A0 l0.length c0) :: (Value.func (Fn.func 56) #[] #[Value.pointer (some ⟨W0.heap.size, 0, none⟩)]) :: (Value.func (Fn.func 56) #[] #[Value.pointer (some ⟨W0.heap.size, 0, none⟩)]) :: (Value.bool false) :: (Value.func (Fn.func 56) #[] #[Value.pointer (some ⟨W0.heap.size, 0, none⟩)]) :: (Value.int IntKind.i64 pl) :: (Value.agg #[Value.int IntKind.i64 xo, Value.int IntKind.i64 xa]) :: t19 :: t20 :: t21 :: t22 :: t23 :: t24 :: t25 :: t26 :: undef :: undef :: undef :: undef :: undef :: undef :: []), defers := [] } ∧ ((q2 = true → q1 = true) ∧ (q3 = true → q0 = true ∧ q2 = true) ∧ (q7 = true → q3 = true ∧ q4 = true ∧ q6 = true) ∧ (q6 = true → q5 = true) ∧ (q8 = true → q7 = true) ∧ (q9 = true → q8 = true)) ∧ ((q0 = true → t19 = v8) ∧ (q1 = true → t20 = Value.agg #[Value.int IntKind.i64 xo, Value.int IntKind.i64 xa]) ∧ (q4 = true → t23 = v9) ∧ (q5 = true → t24 = Value.int IntKind.i64 pl)) ∧ RS w W Wb W0.heap.size W1.heap.size l0.length c0 A0 most v8 v9 (pre.map (fun q => q.1.2)) (pre.map (fun q => q.1.1)) ⟨xo, xa⟩ pl Bx q1 q2 q3 q6 q7 q8 q9 t21 t22 t25 t26) ?step ?fin ?zero ?start
    case start => exact ⟨false, false, false, false, false, false, false, false, false, false, undef, undef, undef, undef, undef, undef, undef, undef, rfl, rfl, rfl, by simp, by simp, (RS.start HI.out HBX.out).below ((Below.refl _ W).drew)⟩
    case zero =>
      rintro listed a Wb ⟨q0, q1, q2, q3, q4, q5, q6, q7, q8, q9, t19, t20, t21, t22, t23, t24, t25, t26, rfl, hf, rfl, ⟨d2, d3, d7, d6, d8, d9⟩, ⟨m0, m1, m4, m5⟩, hRS⟩
      obtain rfl := hnz q0 (by omega)
      obtain rfl := hnz q1 (by omega)
      obtain rfl := hnz q2 (by omega)
      obtain rfl := hnz q3 (by omega)
      obtain rfl := hnz q4 (by omega)
      obtain rfl := hnz q5 (by omega)
      obtain rfl := hnz q6 (by omega)
      obtain rfl := hnz q7 (by omega)
      obtain rfl := hnz q8 (by omega)
      obtain rfl := hnz q9 (by omega)
      kernel_rfl
    case fin =>
      rintro f listed a Wb ⟨q0, q1, q2, q3, q4, q5, q6, q7, q8, q9, t19, t20, t21, t22, t23, t24, t25, t26, rfl, hf, rfl, ⟨d2, d3, d7, d6, d8, d9⟩, ⟨m0, m1, m4, m5⟩, hRS⟩ hr
      have e0 : q0 = true := ready_nil hr 0 [] (by kernel_rfl) (fun _ h => absurd h (List.not_mem_nil))
      have e1 : q1 = true := ready_nil hr 1 [] (by kernel_rfl) (fun _ h => absurd h (List.not_mem_nil))
      have e4 : q4 = true := ready_nil hr 4 [] (by kernel_rfl) (fun _ h => absurd h (List.not_mem_nil))
      have e5 : q5 = true := ready_nil hr 5 [] (by kernel_rfl) (fun _ h => absurd h (List.not_mem_nil))
      have e2 : q2 = true := ready_nil hr 2 [1] (by kernel_rfl) (List.forall_mem_cons.2 ⟨e1, (fun _ h => absurd h (List.not_mem_nil))⟩)
      have e6 : q6 = true := ready_nil hr 6 [5] (by kernel_rfl) (List.forall_mem_cons.2 ⟨e5, (fun _ h => absurd h (List.not_mem_nil))⟩)
      have e3 : q3 = true := ready_nil hr 3 [0, 2] (by kernel_rfl) (List.forall_mem_cons.2 ⟨e0, (List.forall_mem_cons.2 ⟨e2, (fun _ h => absurd h (List.not_mem_nil))⟩)⟩)
      have e7 : q7 = true := ready_nil hr 7 [4, 6, 3] (by kernel_rfl) (List.forall_mem_cons.2 ⟨e4, (List.forall_mem_cons.2 ⟨e6, (List.forall_mem_cons.2 ⟨e3, (fun _ h => absurd h (List.not_mem_nil))⟩)⟩)⟩)
      have e8 : q8 = true := ready_nil hr 8 [3, 7, 0, 1, 2, 3] (by kernel_rfl) (List.forall_mem_cons.2 ⟨e3, (List.forall_mem_cons.2 ⟨e7, (List.forall_mem_cons.2 ⟨e0, (List.forall_mem_cons.2 ⟨e1, (List.forall_mem_cons.2 ⟨e2, (List.forall_mem_cons.2 ⟨e3, (fun _ h => absurd h (List.not_mem_nil))⟩)⟩)⟩)⟩)⟩)⟩)
      have e9 : q9 = true := ready_nil hr 9 [7, 8, 0, 1, 2, 3, 4, 5, 6, 7, 8] (by kernel_rfl) (List.forall_mem_cons.2 ⟨e7, (List.forall_mem_cons.2 ⟨e8, (List.forall_mem_cons.2 ⟨e0, (List.forall_mem_cons.2 ⟨e1, (List.forall_mem_cons.2 ⟨e2, (List.forall_mem_cons.2 ⟨e3, (List.forall_mem_cons.2 ⟨e4, (List.forall_mem_cons.2 ⟨e5, (List.forall_mem_cons.2 ⟨e6, (List.forall_mem_cons.2 ⟨e7, (List.forall_mem_cons.2 ⟨e8, (fun _ h => absurd h (List.not_mem_nil))⟩)⟩)⟩)⟩)⟩)⟩)⟩)⟩)⟩)⟩)⟩)
      subst e0 e1 e2 e3 e4 e5 e6 e7 e8 e9
      have hW := hRS.fin
      have c8 : Wb.cell? ⟨W1.heap.size, 0, none⟩ = some t22 := blk_cell hW.b8 0
      have c1' : Wb.cell? ⟨w.heap.size, 0, none⟩ = some (.int .i64 most) := blk_cell hW.b1 0
      obtain ⟨ad, cp, rfl⟩ := Kd.R_slice1 hW.r8 (by simp)
      have hlen : (pre.map (fun q => q.1.2) ++ [(⟨xo, xa⟩ : X)]).length = k + 1 := by rw [List.length_append, hpl, List.length_singleton]
      rw [hlen] at c8
      have HW := Aside0.mk hW
      have HKO := Aside0.mk hRS.ko
      have HKB := Aside0.mk hRS.kb
      have HBs : Wb.heap[W0.heap.size]? = W.heap[W0.heap.size]? := hRS.bs.trans HI.out.bs.symm
      have HBS := Aside0.mk HBs
      clear HBs hW hRS hr hf d2 d3 d7 d6 d8 d9 m0 m1 m4 m5 hlen hpl hpm hnz hnil
      have hnext : WM w W0.heap.size W1.heap.size l0.length c0 A0 most xs (pre ++ [⟨(pl, ⟨xo, xa⟩), hx⟩]) Wb := by
        have hh := HW.out
        rw [show pre.map (fun q => q.1.2) ++ [(⟨xo, xa⟩ : X)] = (pre ++ [(⟨(pl, ⟨xo, xa⟩), hx⟩ : { x : Ins // x ∈ xs })]).map (fun q => q.1.2) by rw [List.map_append]; rfl, show pre.map (fun q => q.1.1) ++ [pl] = (pre ++ [(⟨(pl, ⟨xo, xa⟩), hx⟩ : { x : Ins // x ∈ xs })]).map (fun q => q.1.1) by rw [List.map_append]; rfl] at hh
        exact ⟨_, _, hh⟩
      have HN := Aside0.mk hnext
      clear hnext
      by_cases hm : ((k : Int) + 1 = most)
      · gi_wp2
        refine ⟨HKO.out.from _, HN.out, ⟨?_, by omega⟩, rfl⟩
        rw [List.length_append, HK.out]
        simpa using hm
      · gi_wp2
        refine ⟨HKO.out.from _, ⟨HKB.out, HBS.out⟩, HN.out, ?_⟩
        have h1 := HM.out
        rw [HK.out] at h1
        rw [List.length_append, HK.out]
        simp only [List.length_singleton, Int.natCast_add, Int.cast_ofNat_Int]
        omega
    case step =>
      rintro f listed a Wb ⟨q0, q1, q2, q3, q4, q5, q6, q7, q8, q9, t19, t20, t21, t22, t23, t24, t25, t26, rfl, hf, rfl, ⟨d2, d3, d7, d6, d8, d9⟩, ⟨m0, m1, m4, m5⟩, hRS⟩ i hi
      have hlt : i < 10 := ready_lt hi
      match i, hlt, hi with
      | 0, _, hi =>
        obtain ⟨hb, hd⟩ := ready_dep hi [] (by kernel_rfl)
        have e0 : q0 = false := hb
        have e3 : q3 = false := by cases h : q3; rfl; exact absurd ((d3 h).1) (by rw [e0]; decide)
        have e7 : q7 = false := by cases h : q7; rfl; exact absurd ((d7 h).1) (by rw [e3]; decide)
        have e8 : q8 = false := by cases h : q8; rfl; exact absurd (d8 h) (by rw [e7]; decide)
        have e9 : q9 = false := by cases h : q9; rfl; exact absurd (d9 h) (by rw [e8]; decide)
        subst e0 e3 e7 e8 e9
        have hc : Wb.cell? ⟨W1.heap.size, 0, none⟩ = some v8 := (blk_cell hRS.b8 0).trans rfl
        unfold wpOp
        simp only [List.getElem?_toArray, List.getElem?_cons_succ, List.getElem?_cons_zero]
        refine (if_pos (show Region.wanted _ _ = true from rfl)).mpr (.inl ?_)
        refine wp_gen ?_
        have HF := Aside0.mk hf
        have HD := Aside0.mk (And.intro d2 (And.intro d3 (And.intro d7 (And.intro d6 (And.intro d8 d9)))))
        have HM0 := Aside0.mk (And.intro m0 (And.intro m1 (And.intro m4 m5)))
        have HRS := Aside0.mk hRS
        clear hf hi hd hb d2 d3 d7 d6 d8 d9 m0 m1 m4 m5 hRS hpl hpm hnz hnil
        intro K' hK'
        go_simp
        refine hK' _ _ ?_
        obtain ⟨d2, d3, d7, d6, d8, d9⟩ := HD.out
        obtain ⟨m0, m1, m4, m5⟩ := HM0.out
        have hf := HF.out
        have hRS := HRS.out
        exact ⟨true, q1, q2, false, q4, q5, q6, false, false, false, _, t20, t21, t22, t23, t24, t25, t26, rfl, by simp only [Bool.not_false, Bool.not_true, Bool.toNat_true, Bool.toNat_false] at hf ⊢; omega, rfl, ⟨by first | exact d2 | simp, by first | exact d3 | simp, by first | exact d7 | simp, by first | exact d6 | simp, by first | exact d8 | simp, by first | exact d9 | simp⟩, ⟨by first | exact m0 | exact fun _ => rfl | simp, by first | exact m1 | exact fun _ => rfl | simp, by first | exact m4 | exact fun _ => rfl | simp, by first | exact m5 | exact fun _ => rfl | simp⟩, hRS⟩
      | 1, _, hi =>
        obtain ⟨hb, hd⟩ := ready_dep hi [] (by kernel_rfl)
        have e1 : q1 = false := hb
        have e2 : q2 = false := by cases h : q2; rfl; exact absurd (d2 h) (by rw [e1]; decide)
        have e3 : q3 = false := by cases h : q3; rfl; exact absurd ((d3 h).2) (by rw [e2]; decide)
        have e7 : q7 = false := by cases h : q7; rfl; exact absurd ((d7 h).1) (by rw [e3]; decide)
        have e8 : q8 = false := by cases h : q8; rfl; exact absurd (d8 h) (by rw [e7]; decide)
        have e9 : q9 = false := by cases h : q9; rfl; exact absurd (d9 h) (by rw [e8]; decide)
        subst e1 e2 e3 e7 e8 e9
        have hc0 : Wb.cell? ⟨Bx, 0, none⟩ = some (.int .i64 xo) := blk_cell (hRS.bx rfl) 0
        have hc1 : Wb.cell? ⟨Bx, 1, none⟩ = some (.int .i64 xa) := blk_cell (hRS.bx rfl) 1
        unfold wpOp
        simp only [List.getElem?_toArray, List.getElem?_cons_succ, List.getElem?_cons_zero]
        refine (if_pos (show Region.wanted _ _ = true from rfl)).mpr (.inl ?_)
        refine wp_gen ?_
        have HF := Aside0.mk hf
        have HD := Aside0.mk (And.intro d2 (And.intro d3 (And.intro d7 (And.intro d6 (And.intro d8 d9)))))
        have HM0 := Aside0.mk (And.intro m0 (And.intro m1 (And.intro m4 m5)))
        have HRS := Aside0.mk hRS
        clear hf hi hd hb d2 d3 d7 d6 d8 d9 m0 m1 m4 m5 hRS hpl hpm hnz hnil
        intro K' hK'
        go_simp
        refine hK' _ _ ?_
        obtain ⟨d2, d3, d7, d6, d8, d9⟩ := HD.out
        obtain ⟨m0, m1, m4, m5⟩ := HM0.out
        have hf := HF.out
        have hRS := HRS.out
        exact ⟨q0, true, false, false, q4, q5, q6, false, false, false, t19, _, t21, t22, t23, t24, t25, t26, rfl, by simp only [Bool.not_false, Bool.not_true, Bool.toNat_true, Bool.toNat_false] at hf ⊢; omega, rfl, ⟨by first | exact d2 | simp, by first | exact d3 | simp, by first | exact d7 | simp, by first | exact d6 | simp, by first | exact d8 | simp, by first | exact d9 | simp⟩, ⟨by first | exact m0 | exact fun _ => rfl | simp, by first | exact m1 | exact fun _ => rfl | simp, by first | exact m4 | exact fun _ => rfl | simp, by first | exact m5 | exact fun _ => rfl | simp⟩, hRS.ld1⟩
      | 2, _, hi =>
        obtain ⟨hb, hd⟩ := ready_dep hi [1] (by kernel_rfl)
        have e2 : q2 = false := hb
        have e3 : q3 = false := by cases h : q3; rfl; exact absurd ((d3 h).2) (by rw [e2]; decide)
        have e7 : q7 = false := by cases h : q7; rfl; exact absurd ((d7 h).1) (by rw [e3]; decide)
        have e8 : q8 = false := by cases h : q8; rfl; exact absurd (d8 h) (by rw [e7]; decide)
        have e9 : q9 = false := by cases h : q9; rfl; exact absurd (d9 h) (by rw [e8]; decide)
        have e1 : q1 = true := hd 1 (by decide)
        subst e1 e2 e3 e7 e8 e9
        obtain rfl := m1 rfl
        unfold wpOp
        simp only [List.getElem?_toArray, List.getElem?_cons_succ, List.getElem?_cons_zero]
        refine (if_pos (show Region.wanted _ _ = true from rfl)).mpr (.inl ?_)
        refine wp_gen ?_
        have HF := Aside0.mk hf
        have HD := Aside0.mk (And.intro d2 (And.intro d3 (And.intro d7 (And.intro d6 (And.intro d8 d9)))))
        have HM0 := Aside0.mk (And.intro m0 (And.intro m1 (And.intro m4 m5)))
        have HRS := Aside0.mk hRS
        clear hf hi hd hb d2 d3 d7 d6 d8 d9 m0 m1 m4 m5 hRS hpl hpm hnz hnil
        intro K' hK'
        go_simp
        refine hK' _ _ ?_
        obtain ⟨d2, d3, d7, d6, d8, d9⟩ := HD.out
        obtain ⟨m0, m1, m4, m5⟩ := HM0.out
        have hf := HF.out
        have hRS := HRS.out
        exact ⟨q0, true, true, false, q4, q5, q6, false, false, false, t19, _, _, t22, t23, t24, t25, t26, rfl, by simp only [Bool.not_false, Bool.not_true, Bool.toNat_true, Bool.toNat_false] at hf ⊢; omega, rfl, ⟨by first | exact d2 | simp, by first | exact d3 | simp, by first | exact d7 | simp, by first | exact d6 | simp, by first | exact d8 | simp, by first | exact d9 | simp⟩, ⟨by first | exact m0 | exact fun _ => rfl | simp, by first | exact m1 | exact fun _ => rfl | simp, by first | exact m4 | exact fun _ => rfl | simp, by first | exact m5 | exact fun _ => rfl | simp⟩, hRS.mk2⟩
      | 3, _, hi =>
        obtain ⟨hb, hd⟩ := ready_dep hi [0, 2] (by kernel_rfl)
        have e3 : q3 = false := hb
        have e7 : q7 = false := by cases h : q7; rfl; exact absurd ((d7 h).1) (by rw [e3]; decide)
        have e8 : q8 = false := by cases h : q8; rfl; exact absurd (d8 h) (by rw [e7]; decide)
        have e9 : q9 = false := by cases h : q9; rfl; exact absurd (d9 h) (by rw [e8]; decide)
        have e0 : q0 = true := hd 0 (by decide)
        have e2 : q2 = true := hd 2 (by decide)
        have e1 : q1 = true := d2 e2
        subst e0 e1 e2 e3 e7 e8 e9
        obtain rfl := m0 rfl
        obtain rfl := m1 rfl
        unfold wpOp
        simp only [List.getElem?_toArray, List.getElem?_cons_succ, List.getElem?_cons_zero]
        refine (if_pos (show Region.wanted _ _ = true from rfl)).mpr (.inl (RS.app3 rfl (.tmp 19) (.tmp 21) 49 rfl Try.underlying49 info58 hRS rfl rfl (by rw [hpl]; omega) ?_))
        intro v1 w1 h1
        exact ⟨true, true, true, true, q4, q5, q6, false, false, false, _, _, t21, v1, t23, t24, t25, t26, rfl, by simp only [Bool.not_false, Bool.not_true, Bool.toNat_true, Bool.toNat_false] at hf ⊢; omega, rfl, ⟨by first | exact d2 | simp, by first | exact d3 | simp, by first | exact d7 | simp, by first | exact d6 | simp, by first | exact d8 | simp, by first | exact d9 | simp⟩, ⟨by first | exact m0 | exact fun _ => rfl | simp, by first | exact m1 | exact fun _ => rfl | simp, by first | exact m4 | exact fun _ => rfl | simp, by first | exact m5 | exact fun _ => rfl | simp⟩, h1⟩
      | 4, _, hi =>
        obtain ⟨hb, hd⟩ := ready_dep hi [] (by kernel_rfl)
        have e4 : q4 = false := hb
        have e7 : q7 = false := by cases h : q7; rfl; exact absurd ((d7 h).2.1) (by rw [e4]; decide)
        have e8 : q8 = false := by cases h : q8; rfl; exact absurd (d8 h) (by rw [e7]; decide)
        have e9 : q9 = false := by cases h : q9; rfl; exact absurd (d9 h) (by rw [e8]; decide)
        subst e4 e7 e8 e9
        have hc : Wb.cell? ⟨W1.heap.size + 1, 0, none⟩ = some v9 := (blk_cell hRS.b9 0).trans rfl
        unfold wpOp
        simp only [List.getElem?_toArray, List.getElem?_cons_succ, List.getElem?_cons_zero]
        refine (if_pos (show Region.wanted _ _ = true from rfl)).mpr (.inl ?_)
        refine wp_gen ?_
        have HF := Aside0.mk hf
        have HD := Aside0.mk (And.intro d2 (And.intro d3 (And.intro d7 (And.intro d6 (And.intro d8 d9)))))
        have HM0 := Aside0.mk (And.intro m0 (And.intro m1 (And.intro m4 m5)))
        have HRS := Aside0.mk hRS
        clear hf hi hd hb d2 d3 d7 d6 d8 d9 m0 m1 m4 m5 hRS hpl hpm hnz hnil
        intro K' hK'
        go_simp
        refine hK' _ _ ?_
        obtain ⟨d2, d3, d7, d6, d8, d9⟩ := HD.out
        obtain ⟨m0, m1, m4, m5⟩ := HM0.out
        have hf := HF.out
        have hRS := HRS.out
        exact ⟨q0, q1, q2, q3, true, q5, q6, false, false, false, t19, t20, t21, t22, _, t24, t25, t26, rfl, by simp only [Bool.not_false, Bool.not_true, Bool.toNat_true, Bool.toNat_false] at hf ⊢; omega, rfl, ⟨by first | exact d2 | simp, by first | exact d3 | simp, by first | exact d7 | simp, by first | exact d6 | simp, by first | exact d8 | simp, by first | exact d9 | simp⟩, ⟨by first | exact m0 | exact fun _ => rfl | simp, by first | exact m1 | exact fun _ => rfl | simp, by first | exact m4 | exact fun _ => rfl | simp, by first | exact m5 | exact fun _ => rfl | simp⟩, hRS⟩
      | 5, _, hi =>
        obtain ⟨hb, hd⟩ := ready_dep hi [] (by kernel_rfl)
        have e5 : q5 = false := hb
        have e6 : q6 = false := by cases h : q6; rfl; exact absurd (d6 h) (by rw [e5]; decide)
        have e7 : q7 = false := by cases h : q7; rfl; exact absurd ((d7 h).2.2) (by rw [e6]; decide)
        have e8 : q8 = false := by cases h : q8; rfl; exact absurd (d8 h) (by rw [e7]; decide)
        have e9 : q9 = false := by cases h : q9; rfl; exact absurd (d9 h) (by rw [e8]; decide)
        subst e5 e6 e7 e8 e9
        unfold wpOp
        simp only [List.getElem?_toArray, List.getElem?_cons_succ, List.getElem?_cons_zero]
        refine (if_pos (show Region.wanted _ _ = true from rfl)).mpr (.inl ?_)
        refine wp_gen ?_
        have HF := Aside0.mk hf
        have HD := Aside0.mk (And.intro d2 (And.intro d3 (And.intro d7 (And.intro d6 (And.intro d8 d9)))))
        have HM0 := Aside0.mk (And.intro m0 (And.intro m1 (And.intro m4 m5)))
        have HRS := Aside0.mk hRS
        clear hf hi hd hb d2 d3 d7 d6 d8 d9 m0 m1 m4 m5 hRS hpl hpm hnz hnil
        intro K' hK'
        go_simp
        refine hK' _ _ ?_
        obtain ⟨d2, d3, d7, d6, d8, d9⟩ := HD.out
        obtain ⟨m0, m1, m4, m5⟩ := HM0.out
        have hf := HF.out
        have hRS := HRS.out
        exact ⟨q0, q1, q2, q3, q4, true, false, false, false, false, t19, t20, t21, t22, t23, _, t25, t26, rfl, by simp only [Bool.not_false, Bool.not_true, Bool.toNat_true, Bool.toNat_false] at hf ⊢; omega, rfl, ⟨by first | exact d2 | simp, by first | exact d3 | simp, by first | exact d7 | simp, by first | exact d6 | simp, by first | exact d8 | simp, by first | exact d9 | simp⟩, ⟨by first | exact m0 | exact fun _ => rfl | simp, by first | exact m1 | exact fun _ => rfl | simp, by first | exact m4 | exact fun _ => rfl | simp, by first | exact m5 | exact fun _ => rfl | simp⟩, hRS⟩
      | 6, _, hi =>
        obtain ⟨hb, hd⟩ := ready_dep hi [5] (by kernel_rfl)
        have e6 : q6 = false := hb
        have e7 : q7 = false := by cases h : q7; rfl; exact absurd ((d7 h).2.2) (by rw [e6]; decide)
        have e8 : q8 = false := by cases h : q8; rfl; exact absurd (d8 h) (by rw [e7]; decide)
        have e9 : q9 = false := by cases h : q9; rfl; exact absurd (d9 h) (by rw [e8]; decide)
        have e5 : q5 = true := hd 5 (by decide)
        subst e5 e6 e7 e8 e9
        obtain rfl := m5 rfl
        unfold wpOp
        simp only [List.getElem?_toArray, List.getElem?_cons_succ, List.getElem?_cons_zero]
        refine (if_pos (show Region.wanted _ _ = true from rfl)).mpr (.inl ?_)
        refine wp_gen ?_
        have HF := Aside0.mk hf
        have HD := Aside0.mk (And.intro d2 (And.intro d3 (And.intro d7 (And.intro d6 (And.intro d8 d9)))))
        have HM0 := Aside0.mk (And.intro m0 (And.intro m1 (And.intro m4 m5)))
        have HRS := Aside0.mk hRS
        clear hf hi hd hb d2 d3 d7 d6 d8 d9 m0 m1 m4 m5 hRS hpl hpm hnz hnil
        intro K' hK'
        go_simp
        refine hK' _ _ ?_
        obtain ⟨d2, d3, d7, d6, d8, d9⟩ := HD.out
        obtain ⟨m0, m1, m4, m5⟩ := HM0.out
        have hf := HF.out
        have hRS := HRS.out
        exact ⟨q0, q1, q2, q3, q4, true, true, false, false, false, t19, t20, t21, t22, t23, _, _, t26, rfl, by simp only [Bool.not_false, Bool.not_true, Bool.toNat_true, Bool.toNat_false] at hf ⊢; omega, rfl, ⟨by first | exact d2 | simp, by first | exact d3 | simp, by first | exact d7 | simp, by first | exact d6 | simp, by first | exact d8 | simp, by first | exact d9 | simp⟩, ⟨by first | exact m0 | exact fun _ => rfl | simp, by first | exact m1 | exact fun _ => rfl | simp, by first | exact m4 | exact fun _ => rfl | simp, by first | exact m5 | exact fun _ => rfl | simp⟩, hRS.mk6⟩
      | 7, _, hi =>
        obtain ⟨hb, hd⟩ := ready_dep hi [4, 6, 3] (by kernel_rfl)
        have e7 : q7 = false := hb
        have e8 : q8 = false := by cases h : q8; rfl; exact absurd (d8 h) (by rw [e7]; decide)
        have e9 : q9 = false := by cases h : q9; rfl; exact absurd (d9 h) (by rw [e8]; decide)
        have e4 : q4 = true := hd 4 (by decide)
        have e6 : q6 = true := hd 6 (by decide)
        have e3 : q3 = true := hd 3 (by decide)
        have e5 : q5 = true := d6 e6
        have e0 : q0 = true := (d3 e3).1
        have e2 : q2 = true := (d3 e3).2
        have e1 : q1 = true := d2 e2
        subst e0 e1 e2 e3 e4 e5 e6 e7 e8 e9
        obtain rfl := m0 rfl
        obtain rfl := m1 rfl
        obtain rfl := m4 rfl
        obtain rfl := m5 rfl
        unfold wpOp
        simp only [List.getElem?_toArray, List.getElem?_cons_succ, List.getElem?_cons_zero]
        refine (if_pos (show Region.wanted _ _ = true from rfl)).mpr (.inl (RS.app7 rfl (.tmp 23) (.tmp 25) 56 rfl Try.underlying56 info3 hRS rfl rfl (by rw [hpm]; omega) ?_))
        intro v1 w1 h1
        exact ⟨true, true, true, true, true, true, true, true, false, false, _, _, t21, t22, _, _, t25, v1, rfl, by simp only [Bool.not_false, Bool.not_true, Bool.toNat_true, Bool.toNat_false] at hf ⊢; omega, rfl, ⟨by first | exact d2 | simp, by first | exact d3 | simp, by first | exact d7 | simp, by first | exact d6 | simp, by first | exact d8 | simp, by first | exact d9 | simp⟩, ⟨by first | exact m0 | exact fun _ => rfl | simp, by first | exact m1 | exact fun _ => rfl | simp, by first | exact m4 | exact fun _ => rfl | simp, by first | exact m5 | exact fun _ => rfl | simp⟩, h1⟩
      | 8, _, hi =>
        obtain ⟨hb, hd⟩ := ready_dep hi [3, 7, 0, 1, 2, 3] (by kernel_rfl)
        have e8 : q8 = false := hb
        have e9 : q9 = false := by cases h : q9; rfl; exact absurd (d9 h) (by rw [e8]; decide)
        have e3 : q3 = true := hd 3 (by decide)
        have e7 : q7 = true := hd 7 (by decide)
        have e0 : q0 = true := hd 0 (by decide)
        have e1 : q1 = true := hd 1 (by decide)
        have e2 : q2 = true := hd 2 (by decide)
        have e4 : q4 = true := (d7 e7).2.1
        have e6 : q6 = true := (d7 e7).2.2
        have e5 : q5 = true := d6 e6
        subst e0 e1 e2 e3 e4 e5 e6 e7 e8 e9
        obtain rfl := m0 rfl
        obtain rfl := m1 rfl
        obtain rfl := m4 rfl
        obtain rfl := m5 rfl
        obtain ⟨u8, hc⟩ : ∃ u, Wb.cell? ⟨W1.heap.size, 0, none⟩ = some u := ⟨_, (blk_cell hRS.b8 0).trans rfl⟩
        have rr := hRS.r8
        simp only [↓reduceIte] at rr
        obtain ⟨ad, nn, cp, rfl⟩ : ∃ ad nn cp, t22 = Value.slice (some ad) nn cp := by obtain ⟨ad, cp, e⟩ := Kd.R_slice1 rr (by simp); exact ⟨ad, _, cp, e⟩
        clear rr
        have hfz : Wb.frozen? ⟨W1.heap.size, 0, none⟩ = false := blk_frozen hRS.b8 0
        unfold wpOp
        simp only [List.getElem?_toArray, List.getElem?_cons_succ, List.getElem?_cons_zero]
        refine (if_pos (show Region.wanted _ _ = true from rfl)).mpr (.inl ?_)
        refine wp_gen ?_
        have HF := Aside0.mk hf
        have HD := Aside0.mk (And.intro d2 (And.intro d3 (And.intro d7 (And.intro d6 (And.intro d8 d9)))))
        have HM0 := Aside0.mk (And.intro m0 (And.intro m1 (And.intro m4 m5)))
        have HRS := Aside0.mk hRS
        clear hf hi hd hb d2 d3 d7 d6 d8 d9 m0 m1 m4 m5 hRS hpl hpm hnz hnil
        intro K' hK'
        go_simp
        refine hK' _ _ ?_
        obtain ⟨d2, d3, d7, d6, d8, d9⟩ := HD.out
        obtain ⟨m0, m1, m4, m5⟩ := HM0.out
        have hf := HF.out
        have hRS := HRS.out
        exact ⟨true, true, true, true, true, true, true, true, true, false, _, _, t21, _, _, _, t25, t26, rfl, by simp only [Bool.not_false, Bool.not_true, Bool.toNat_true, Bool.toNat_false] at hf ⊢; omega, rfl, ⟨by first | exact d2 | simp, by first | exact d3 | simp, by first | exact d7 | simp, by first | exact d6 | simp, by first | exact d8 | simp, by first | exact d9 | simp⟩, ⟨by first | exact m0 | exact fun _ => rfl | simp, by first | exact m1 | exact fun _ => rfl | simp, by first | exact m4 | exact fun _ => rfl | simp, by first | exact m5 | exact fun _ => rfl | simp⟩, hRS.st8⟩
      | 9, _, hi =>
        obtain ⟨hb, hd⟩ := ready_dep hi [7, 8, 0, 1, 2, 3, 4, 5, 6, 7, 8] (by kernel_rfl)
        have e9 : q9 = false := hb
        have e7 : q7 = true := hd 7 (by decide)
        have e8 : q8 = true := hd 8 (by decide)
        have e0 : q0 = true := hd 0 (by decide)
        have e1 : q1 = true := hd 1 (by decide)
        have e2 : q2 = true := hd 2 (by decide)
        have e3 : q3 = true := hd 3 (by decide)
        have e4 : q4 = true := hd 4 (by decide)
        have e5 : q5 = true := hd 5 (by decide)
        have e6 : q6 = true := hd 6 (by decide)
        subst e0 e1 e2 e3 e4 e5 e6 e7 e8 e9
        obtain rfl := m0 rfl
        obtain rfl := m1 rfl
        obtain rfl := m4 rfl
        obtain rfl := m5 rfl
        obtain ⟨u8, hc⟩ : ∃ u, Wb.cell? ⟨W1.heap.size + 1, 0, none⟩ = some u := ⟨_, (blk_cell hRS.b9 0).trans rfl⟩
        have rr := hRS.r9
        simp only [↓reduceIte] at rr
        obtain ⟨ad, nn, cp, rfl⟩ : ∃ ad nn cp, t26 = Value.slice (some ad) nn cp := by obtain ⟨ad, cp, e⟩ := Kd.R_slice1 rr (by simp); exact ⟨ad, _, cp, e⟩
        clear rr
        have hfz : Wb.frozen? ⟨W1.heap.size + 1, 0, none⟩ = false := blk_frozen hRS.b9 0
        unfold wpOp
        simp only [List.getElem?_toArray, List.getElem?_cons_succ, List.getElem?_cons_zero]
        refine (if_pos (show Region.wanted _ _ = true from rfl)).mpr (.inl ?_)
        refine wp_gen ?_
        have HF := Aside0.mk hf
        have HD := Aside0.mk (And.intro d2 (And.intro d3 (And.intro d7 (And.intro d6 (And.intro d8 d9)))))
        have HM0 := Aside0.mk (And.intro m0 (And.intro m1 (And.intro m4 m5)))
        have HRS := Aside0.mk hRS
        clear hf hi hd hb d2 d3 d7 d6 d8 d9 m0 m1 m4 m5 hRS hpl hpm hnz hnil
        intro K' hK'
        go_simp
        refine hK' _ _ ?_
        obtain ⟨d2, d3, d7, d6, d8, d9⟩ := HD.out
        obtain ⟨m0, m1, m4, m5⟩ := HM0.out
        have hf := HF.out
        have hRS := HRS.out
        exact ⟨true, true, true, true, true, true, true, true, true, true, _, _, t21, t22, _, _, t25, _, rfl, by simp only [Bool.not_false, Bool.not_true, Bool.toNat_true, Bool.toNat_false] at hf ⊢; omega, rfl, ⟨by first | exact d2 | simp, by first | exact d3 | simp, by first | exact d7 | simp, by first | exact d6 | simp, by first | exact d8 | simp, by first | exact d9 | simp⟩, ⟨by first | exact m0 | exact fun _ => rfl | simp, by first | exact m1 | exact fun _ => rfl | simp, by first | exact m4 | exact fun _ => rfl | simp, by first | exact m5 | exact fun _ => rfl | simp⟩, hRS.st9⟩
      | n + 10, h, _ => exact absurd h (by omega)
  case done =>
    rintro D ys W hD hys ⟨⟨v8, v9, hi⟩, hm⟩ hK
    have hgo := gone_all ys hys hm
    have e8 : ys.map (fun q => q.1.2) = (goneF xs most).map (·.2) := by rw [← hgo, List.map_map]; rfl
    have e9 : ys.map (fun q => q.1.1) = (goneF xs most).map (·.1) := by rw [← hgo, List.map_map]; rfl
    have d8 : ∀ nq, (W.drewN nq).cell? ⟨W1.heap.size, 0, none⟩ = some v8 := fun _ => blk_cell hi.b8 0
    have d9 : ∀ nq, (W.drewN nq).cell? ⟨W1.heap.size + 1, 0, none⟩ = some v9 := fun _ => blk_cell hi.b9 0
    have r8 := hi.r8
    have r9 := hi.r9
    rw [e8] at r8
    rw [e9] at r9
    have HR8 := Aside0.mk r8
    have HR9 := Aside0.mk r9
    have HBD := Aside0.mk hi.hb
    have HLO := Aside0.mk (And.intro hi.lo hi.hi)
    have HKD := Aside0.mk hK
    have HDD := Aside0.mk hD
    clear hi hK hD r8 r9 e8 e9 hgo
    gi_wp2
    go_wp2_with fail
    go_quiet (fail)
    go_wp2_with fail
    have hKd : (W.drewN nq).heap[D]? = some (.deferred (some [])) := HKD.out
    have hDw : w.heap.size ≤ D := by have := HDD.out; have := HWB.out.hb.size; omega
    have hbl : Below w.heap.size w ((W.drewN nq).putObj D (.deferred none)) := (pw_below_drewN HBD.out nq).trans (belowK_b (w := w) (Nat.le_refl _) (W.drewN nq) D _ _ hDw hKd rfl rfl)
    have hR8 := R_keptCells (Kd.R_drewN HR8.out nq) (grownBy_putObj' (W.drewN nq) D (.deferred none)) (fun r e => by cases e; exact ⟨_, hKd, rfl⟩)
    have hR9 := R_keptCells (Kd.R_drewN HR9.out nq) (grownBy_putObj' (W.drewN nq) D (.deferred none)) (fun r e => by cases e; exact ⟨_, hKd, rfl⟩)
    have hlow : w.heap.size ≤ W1.heap.size + 2 := by have := HLO.out; omega
    refine ⟨by simp, .inl ⟨_, _, rfl, run_takeDeferred hKd, ?_⟩⟩
    refine ⟨.tuple #[v8, v9, .bool true], ?_, _, _, rfl, Kd.R_lower hR8 hlow, Kd.R_lower hR9 hlow, hbl⟩
    simp [results, Try.f31, go_sem]
  case stop =>
    rintro D c pre W hD hp hX hK
    obtain ⟨⟨v8, v9, hi⟩, hst, rfl⟩ := hX
    obtain ⟨ys, hys⟩ : ∃ ys, pre = ys := ⟨_, rfl⟩
    subst hys
    have hgo := gone_some pre hp hst
    have e8 : pre.map (fun q => q.1.2) = (goneF xs most).map (·.2) := by rw [← hgo, List.map_map]; rfl
    have e9 : pre.map (fun q => q.1.1) = (goneF xs most).map (·.1) := by rw [← hgo, List.map_map]; rfl
    have d8 : ∀ nq, (W.drewN nq).cell? ⟨W1.heap.size, 0, none⟩ = some v8 := fun _ => blk_cell hi.b8 0
    have d9 : ∀ nq, (W.drewN nq).cell? ⟨W1.heap.size + 1, 0, none⟩ = some v9 := fun _ => blk_cell hi.b9 0
    have r8 := hi.r8
    have r9 := hi.r9
    rw [e8] at r8
    rw [e9] at r9
    have HR8 := Aside0.mk r8
    have HR9 := Aside0.mk r9
    have HBD := Aside0.mk hi.hb
    have HLO := Aside0.mk (And.intro hi.lo hi.hi)
    have HKD := Aside0.mk hK
    have HDD := Aside0.mk hD
    clear hi hK hD r8 r9 e8 e9 hgo
    gi_wp2
    go_wp2_with fail
    go_quiet (fail)
    go_wp2_with fail
    have hKd : (W.drewN nq).heap[D]? = some (.deferred (some [])) := HKD.out
    have hDw : w.heap.size ≤ D := by have := HDD.out; have := HWB.out.hb.size; omega
    have hbl : Below w.heap.size w ((W.drewN nq).putObj D (.deferred none)) := (pw_below_drewN HBD.out nq).trans (belowK_b (w := w) (Nat.le_refl _) (W.drewN nq) D _ _ hDw hKd rfl rfl)
    have hR8 := R_keptCells (Kd.R_drewN HR8.out nq) (grownBy_putObj' (W.drewN nq) D (.deferred none)) (fun r e => by cases e; exact ⟨_, hKd, rfl⟩)
    have hR9 := R_keptCells (Kd.R_drewN HR9.out nq) (grownBy_putObj' (W.drewN nq) D (.deferred none)) (fun r e => by cases e; exact ⟨_, hKd, rfl⟩)
    have hlow : w.heap.size ≤ W1.heap.size + 2 := by have := HLO.out; omega
    refine ⟨by simp, .inl ⟨_, _, rfl, run_takeDeferred hKd, ?_⟩⟩
    refine ⟨.tuple #[v8, v9, .bool true], ?_, _, _, rfl, Kd.R_lower hR8 hlow, Kd.R_lower hR9 hlow, hbl⟩
    simp [results, Try.f31, go_sem]
theorem pianolalaw05_walk.calls (A0 : Option Addr) (c0 : Nat) (l0 : List Int) (a1 : Int) (r1 : List S58) (r2 : List Int) (r3 : Bool) (w : World) (hr0 : Kd.C (Kd.int .u8) w A0 l0.length l0) (hc0 : l0.length ≤ c0) (h : pianolalaw05_walk.f l0 a1 = some (r1, r2, r3)) :
    Calls Try.prog 31 #[.slice A0 l0.length c0, .int .i64 a1] w fun e w' => ∃ v0_ v1_ : Value, e = .returned (.tuple #[v0_, v1_, .bool r3]) ∧ Kd.R k58 58 w' w.heap.size (fun _ => True) v0_ r1 ∧ Kd.R (Kd.int .i64) 3 w' w.heap.size (fun _ => True) v1_ r2 ∧ Below w.heap.size w w' := by
  unfold pianolalaw05_walk.f at h
  split at h
  · rename_i hl
    obtain ⟨xs, hx, h⟩ := Option.bind_eq_some_iff.mp h
    simp only [Option.some.injEq, Prod.mk.injEq] at h
    obtain ⟨rfl, rfl, rfl⟩ := h
    exact iwalk_walk A0 c0 l0 a1 xs w hr0 hc0 hx hl
  · exact absurd h (by simp)

end Go.Proofs.Ytdcjbkhfopdgnaa.P
