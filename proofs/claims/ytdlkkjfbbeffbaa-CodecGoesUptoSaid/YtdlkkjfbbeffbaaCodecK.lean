/- codec.All over the field of two bytes: what is gone over, for every loop body that leaves alone what lay ahead: a walk; no statement of the seat. -/
import Derived.RangeFuncNested
import Derived.RangeFuncBound
import Derived.RangeFuncCalls
import Derived.RangeFuncLeaves
import Derived.RangeFuncBox
import Derived.Shelf.Abstract
import Derived.Shelf.RegionOpen
import Derived.WalkKit
import Derived.OwnWalkIn
import Derived.TacticsInMore
import Derived.LoopNIn
import Derived.LoopIn
import Derived.Scope
import Derived.WalkMore
import Derived.Test.YtdlkkjfbbeffbaaCodecI
set_option linter.unusedVariables false
set_option linter.unusedSimpArgs false
namespace Go.Proofs.Ytdlkkjfbbeffbaa.P
open Go.RowKit Go.Shelf Go.Proofs.YtdlkkjfbbeffbaaW.PrintWords Go.Proofs.YtdlkkjfbbeffbaaW.PrintLast Go.Proofs.YtdlkkjfbbeffbaaW.PrintMore
attribute [local go_sem] Oper.semAt_some
/-- The numbers of two bytes each. -/
def wordsL : List Int → List Int
  | a :: b :: l => (a + 256 * b) :: wordsL l
  | _ => []
theorem wordsL_len : ∀ (l : List Int), (wordsL l).length = l.length / 2
  | [] => rfl
  | [_] => by simp [wordsL]
  | _ :: _ :: l => by simp only [wordsL, List.length_cons, wordsL_len l]; omega
theorem wordsL_get : ∀ (l : List Int) (i : Nat), 2 * i + 1 < l.length → rd (wordsL l) (i : Int) = rd l (2 * i : Nat) + 256 * rd l (2 * i + 1 : Nat)
  | [], i, h => by simp at h
  | [_], i, h => by simp at h
  | a :: b :: l, 0, _ => by simp [rd, wordsL]
  | a :: b :: l, i + 1, h => by
    have h1 := wordsL_get l i (by simp only [List.length_cons] at h; omega)
    simp only [rd, Int.toNat_natCast] at h1 ⊢
    rw [show 2 * (i + 1) = 2 * i + 1 + 1 by omega, show 2 * i + 1 + 1 + 1 = (2 * i + 1) + 1 + 1 by omega, wordsL]
    simp only [List.getD_cons_succ]
    exact h1
theorem fst2_yes (a b : Int) (l : List Int) (h : okL (a :: b :: l)) : fstR (fun s => lowI s 2 65535) 0 (a :: b :: l) = (a + 256 * b, 2, 0) := by
  have ha := h.1 a (by simp)
  have hb := h.1 b (by simp)
  have ht : takeS (a :: b :: l, false) 2 = ([a, b], l, false) := by
    unfold takeS
    rw [if_neg (by simp; omega)]
    rfl
  have hw : wrap64 (leN [a, b]) = a + 256 * b := by
    simp only [leN]
    unfold wrap64
    omega
  have hlow : lowI (a :: b :: l, false) 2 65535 = (a + 256 * b, l, false) := by
    unfold lowI
    simp only [ht, hw]
    rw [show decide (a + 256 * b > 65535) = false from decide_eq_false (by omega)]
    simp
  unfold fstR
  simp only [hlow, List.length_cons]
  rw [show decide (((l.length + 1 + 1 : Nat) : Int) - (l.length : Int) > 1048576) = false from decide_eq_false (by omega)]
  simp only [Bool.or_self, Bool.false_eq_true, if_false, Prod.mk.injEq, and_true, true_and]
  omega
theorem fst2_no (l : List Int) (h : l.length < 2) : fstR (fun s => lowI s 2 65535) 0 l = (0, 0, 10) := by
  have ht : takeS (l, false) 2 = ([], l, true) := by
    unfold takeS
    rw [if_pos (by simp; omega)]
  unfold fstR lowI
  simp only [ht]
  simp
/-- What the rounds keep for the iterator: what lay below n₀, and the field's box. -/
def KeepBox (n₀ Bs : Nat) (W W' : World) : Prop := Below n₀ W W' ∧ W'.heap[Bs]? = W.heap[Bs]?
theorem KeepBox.t {n₀ Bs : Nat} {A B C : World} (h : KeepBox n₀ Bs A B) (k : KeepBox n₀ Bs B C) : KeepBox n₀ Bs A C := ⟨h.1.trans k.1, k.2.trans h.2⟩
theorem KeepBox.b {n₀ Bs : Nat} {w : World} (h1 : n₀ ≤ w.heap.size) (h2 : Bs < w.heap.size) (W : World) (l : Nat) (o o' : Obj) (hl : w.heap.size ≤ l) (ho : W.heap[l]? = some o) (hc : o.isCells = false) (hw : o.isWalk = false) : KeepBox n₀ Bs W (W.putObj l o') := by
  refine ⟨belowK_b h1 W l o o' hl ho hc hw, ?_⟩
  exact (grownBy_putObj' W l o').block Bs (Nat.lt_of_lt_of_le h2 (Nat.le_trans hl (Nat.le_of_lt (Array.getElem?_eq_some_iff.1 ho).1))) (fun e => by cases e; omega)
set_option maxRecDepth 100000 in
set_option maxHeartbeats 800000 in
theorem call1_in (n : Nat) (hn : 1 ≤ n) (l Bs Bf f1 f2 : Nat) (b : List Int) (A : Option Addr) (c : Nat) (hc : b.length ≤ c) (hok : okL b) (we : World) (hC : Kd.C (Kd.int .u8) we A b.length b) (hF : NumF we f1 f2 2 65535)
    (J Jx : List Int → World → Prop) (W : World) (hW : Below we.heap.size we W) (hJ : AbidesFrom W.heap.size J)
    (hY : ∀ pre x W1, J pre W1 → (∃ r, wordsL b = pre ++ x :: r) → YieldAt Fence.wide (n - 1) Try.prog l #[.int .i64 x] W1 fun e W' =>
      (e = .returned (.bool true) ∧ J (pre ++ [x]) W' ∧ KeepBox we.heap.size Bf W1 W') ∨ (e = .returned (.bool false) ∧ Jx (pre ++ [x]) W'))
    (hBs : W.heap[Bs]? = some (.cells #[.slice A b.length c] 40 (0, 0))) (hBf : W.heap[Bf]? = some (.cells (numV f1 f2) 37 (0, 0))) (h0 : J [] W) :
    CallsIn Fence.wide n Try.prog 92 #[.func (.yield l) #[] #[], .pointer (some ⟨Bs, 0, none⟩), .pointer (some ⟨Bf, 0, none⟩)] W fun e W' => (∃ v, e = .returned v) ∧
      ((∃ ys, ys = wordsL b ∧ J ys W') ∨ (∃ pre, pre <+: wordsL b ∧ Jx pre W')) := by
  refine callsIn_of_wp Try.func92 rfl trivial ?_ rfl
  simp only [Try.ntmps92, List.size_toArray, List.length_cons, List.length_nil, Nat.reduceAdd, Nat.reduceSub, Array.replicate_succ, Array.replicate_zero, List.push_toArray, List.append_toArray, List.nil_append, List.cons_append]
  have hmax : b.length < 9223372036854775808 := by have := Kd.C_max hC; omega
  have cBs : W.cell? ⟨Bs, 0, none⟩ = some (.slice A b.length c) := blk_cell hBs 0
  have HBf := Aside0.mk hBf
  have HC := Aside0.mk hC
  have HF := Aside0.mk hF
  have H0 := Aside0.mk h0
  have HO := Aside0.mk hok
  clear hBs hBf hC hF h0 hok
  gi_wp2
  gi_loopw [4] (fun v4 wr => ∃ (A' : Option Addr) (c' : Nat) (pre rest : List Int), v4 = .slice A' rest.length c' ∧ Kd.C (Kd.int .u8) we A' rest.length rest ∧ rest.length ≤ c' ∧ okL rest ∧ wordsL b = pre ++ wordsL rest ∧ J pre wr ∧ Below we.heap.size we wr ∧ W.heap.size ≤ wr.heap.size ∧ wr.heap[Bf]? = some (.cells (numV f1 f2) 37 (0, 0)))
    (fun v4 _ => match v4 with | .slice _ k _ => k | _ => 0)
  case atStart => exact ⟨A, c, [], b, rfl, HC.out, hc, HO.out, rfl, H0.out, hW, Nat.le_refl _, HBf.out⟩
  case round =>
    obtain ⟨A', c', pre, rest, rfl, hR, hc', hrok, hxs, hJs, hB, hsz, hbf⟩ := hrel
    have cB0 : wr.cell? ⟨Bf, 0, none⟩ = some (.func (.func 86) #[] #[.pointer (some ⟨f1, 0, none⟩), .pointer (some ⟨f2, 0, none⟩)]) := blk_cell hbf 0
    have cB1 : wr.cell? ⟨Bf, 1, none⟩ = some (.func (.func 88) #[] #[.pointer (some ⟨f1, 0, none⟩), .pointer (some ⟨f2, 0, none⟩)]) := blk_cell hbf 1
    have lB : Bf < wr.heap.size := (Array.getElem?_eq_some_iff.1 hbf).1
    have HR := Aside0.mk hR
    have HRO := Aside0.mk hrok
    have HJS := Aside0.mk hJs
    have HB := Aside0.mk hB
    have HS := Aside0.mk hbf
    have HXS := Aside0.mk hxs
    have hmax' : rest.length < 9223372036854775808 := by have := Kd.C_max hR; omega
    clear hR hrok hJs hB hbf hxs
    have HCall := Aside0.mk (show ∀ w1, Below we.heap.size we w1 → Calls Try.prog 28 #[.agg #[(.func (.func 86) #[] #[.pointer (some ⟨f1, 0, none⟩), .pointer (some ⟨f2, 0, none⟩)]), (.func (.func 88) #[] #[.pointer (some ⟨f1, 0, none⟩), .pointer (some ⟨f2, 0, none⟩)])], .slice A' rest.length c'] w1 fun r w' => r = .returned (.tuple #[.int .i64 (fstR (fun s => lowI s 2 65535) 0 rest).1, .int .i64 (fstR (fun s => lowI s 2 65535) 0 rest).2.1, .int .i64 (fstR (fun s => lowI s 2 65535) 0 rest).2.2]) ∧ Below w1.heap.size w1 w' from fun w1 hb => by
      refine (fst_I w1 f1 f2 2 65535 (HF.out.below hb) A' c' rest (Kd.C_below HR.out hb) hc' HRO.out).mono ?_
      rintro r w' ⟨v, rfl, rfl, h⟩
      exact ⟨rfl, h⟩)
    by_cases hlt : rest.length < 2
    · have hv := fst2_no rest hlt
      rw [hv] at HCall
      have hnil : wordsL rest = [] := by
        have := wordsL_len rest
        rw [show rest.length / 2 = 0 by omega] at this
        exact List.length_eq_zero_iff.1 this
      have HN := Aside0.mk hnil
      clear hv hnil
      gi_wp2_with (refine ⟨trivial, ?_⟩; gi_at_call 28; refine (callsIn_wide.2 (HCall.out _ HB.out)).mono ?_; rintro e w1 ⟨rfl, hb1⟩)
      refine ⟨fun _ h => (by cases h), ?_⟩
      gi_wp2
      try simp only [Exit.inBlock, Exit.then]
      refine bodyPost_ret (results_none rfl _ _ _) rfl ?_
      exact ⟨⟨_, rfl⟩, .inl ⟨pre, by rw [HXS.out, HN.out, List.append_nil], hJ _ _ _ none HJS.out (grown_of_below hb1 none) (by simp)⟩⟩
    · obtain ⟨x, hx, hw⟩ : ∃ x, fstR (fun s => lowI s 2 65535) 0 rest = (x, 2, 0) ∧ wordsL rest = x :: wordsL (rest.drop 2) := by
        cases rest with
        | nil => simp at hlt
        | cons x0 l1 => cases l1 with
          | nil => simp at hlt
          | cons x1 l2 => exact ⟨_, fst2_yes x0 x1 l2 HRO.out, rfl⟩
      rw [hx] at HCall
      have HCall2 : Aside0 (∀ w1, Below we.heap.size we w1 → Calls Try.prog 28 #[.agg #[(.func (.func 86) #[] #[.pointer (some ⟨f1, 0, none⟩), .pointer (some ⟨f2, 0, none⟩)]), (.func (.func 88) #[] #[.pointer (some ⟨f1, 0, none⟩), .pointer (some ⟨f2, 0, none⟩)])], .slice A' rest.length c'] w1 fun r w' => r = .returned (.tuple #[.int .i64 x, .int .i64 2, .int .i64 0]) ∧ Below w1.heap.size w1 w') := HCall
      clear HCall hx
      obtain ⟨i0, hi0, _, hs0, _⟩ := info_parts (show (Try.prog.info? 5).map (fun i => (i.zero, i.size, i.bytes)) = some (some (.int .u8 0), 1, 1) by kernel_rfl)
      obtain ⟨A2, hcut, hA2, hC2⟩ := print_drop_of (P := Try.prog) (Value.int .u8) 0 40 5 .i64 Try.underlying40 hi0 hs0 A' c' rest 2 (by omega) (by omega) hc'
      simp only [show ((2 : Int)).toNat = 2 from rfl, List.length_drop] at hcut hA2 hC2
      have HA2 := Aside0.mk hA2
      have HC2 := Aside0.mk hC2
      have HX2 := Aside0.mk (show wordsL b = (pre ++ [x]) ++ wordsL (rest.drop 2) by rw [HXS.out, hw]; simp)
      have hpl : ∃ r, wordsL b = pre ++ x :: r := ⟨wordsL (rest.drop 2), by rw [HXS.out, hw]⟩
      have HPL := Aside0.mk hpl
      clear hw hi0 hs0 hA2 hC2 hpl
      gi_wp2_with (refine ⟨trivial, ?_⟩; gi_at_call 28; refine (callsIn_wide.2 (HCall2.out _ HB.out)).mono ?_; rintro e w1 ⟨rfl, hb1⟩; have hJ1 : J pre w1 := hJ _ _ _ none HJS.out (grown_of_below hb1 none) (by simp); obtain ⟨fn, tmps, assign, body, hy, hRy⟩ := hY pre x _ hJ1 HPL.out; (try dsimp only at hy); have HB1 := Aside0.mk hb1; clear hb1 hJ1)
      have hs1 : wr.heap.size ≤ w1.heap.size := below_size HB1.out
      refine hRy.mono ?_
      rintro e W3 (⟨rfl, hJ3, hk3⟩ | ⟨rfl, hJx3⟩)
      · have hB2 : Below we.heap.size we w1 := below_step HB.out HB1.out
        have hB3 : Below we.heap.size we W3 := hB2.trans hk3.1
        have hs3 : w1.heap.size ≤ W3.heap.size := hk3.1.size
        have hb3 : W3.heap[Bf]? = some (.cells (numV f1 f2) 37 (0, 0)) := by
          rw [hk3.2, HB1.out.block Bf lB]
          exact HS.out
        have HR3 := Aside0.mk hB3
        have HB3 := Aside0.mk hb3
        clear hB2 hB3 hb3 hk3
        gi_wp2
        go_roundw
        case rel => exact ⟨A2, c' - 2, pre ++ [x], rest.drop 2, by rw [List.length_drop], by rw [List.length_drop]; exact Kd.C_of_reads (h1 := fun _ => rfl) (HA2.out _ (Kd.reads_of_C HR.out)), by rw [List.length_drop]; exact HC2.out, HRO.out.drop 2, HX2.out, hJ3, HR3.out, by omega, HB3.out⟩
        case measure => simp only; omega
      · gi_wp2
        try simp only [Exit.inBlock, Exit.then]
        refine bodyPost_ret (results_none rfl _ _ _) rfl ?_
        exact ⟨⟨_, rfl⟩, .inr ⟨_, ⟨wordsL (rest.drop 2), HX2.out.symm⟩, hJx3⟩⟩
set_option maxHeartbeats 1000000 in
/-- Field and slice are boxed; the function value has captured the boxes. -/
theorem call_in (n : Nat) (v1 v2 : Value) (hv1 : v1.oneCell' = true) (hv2 : v2.oneCell' = true) (A : Option Addr) (len cap : Nat) (w : World) :
    CallsIn Fence.wide n Try.prog 67 #[.agg #[v1, v2], .slice A len cap] w fun e w' => e = .returned (.func (.func 92) #[] #[.pointer (some ⟨w.heap.size + 1, 0, none⟩), .pointer (some ⟨w.heap.size, 0, none⟩)]) ∧ w' = (w.alloc (.cells #[v1, v2] 37)).alloc (.cells #[.slice A len cap] 40) := by
  refine callsIn_of_wp Try.func67 rfl trivial ?_ rfl
  simp only [Try.ntmps67, List.size_toArray, List.length_cons, List.length_nil, Nat.reduceAdd, Nat.reduceSub, Array.replicate_succ, Array.replicate_zero, List.push_toArray, List.append_toArray, List.nil_append, List.cons_append]
  gi_wp2
  go_ret
  exact ⟨rfl, rfl⟩
theorem call_stops (n : Nat) (hn : 1 ≤ n) (Bs Bf f1 f2 : Nat) (b : List Int) (A : Option Addr) (c : Nat) (hc : b.length ≤ c) (hok : okL b) (we : World) (hC : Kd.C (Kd.int .u8) we A b.length b) (hF : NumF we f1 f2 2 65535)
    (w : World) (hw : Below we.heap.size we w) (hBs : w.heap[Bs]? = some (.cells #[.slice A b.length c] 40 (0, 0))) (hBf : w.heap[Bf]? = some (.cells (numV f1 f2) 37 (0, 0))) :
    SeqStopsK Fence.wide n Try.prog 92 #[.pointer (some ⟨Bs, 0, none⟩), .pointer (some ⟨Bf, 0, none⟩)] (fun x : Int => #[.int .i64 x]) (KeepBox we.heap.size Bf) (fun ys => ys = wordsL b) (fun pre => pre <+: wordsL b) (wordsL b).length w :=
  fun l J Jx W hW hJ hJx hY h0 => by
    refine (call1_in n hn l Bs Bf f1 f2 b A c hc hok we hC hF J Jx W (below_step hw hW) hJ ?_ ((hW.block Bs (Array.getElem?_eq_some_iff.1 hBs).1).trans hBs) ((hW.block Bf (Array.getElem?_eq_some_iff.1 hBf).1).trans hBf) h0).mono ?_
    · rintro pre x W1 hj ⟨r, hr⟩
      exact hY pre x W1 hj (by rw [hr]; simp)
    · rintro e W' ⟨he, ⟨ys, h1, h2⟩ | ⟨pre, h1, h2⟩⟩
      · exact ⟨he, .inl ⟨ys, h1, h2⟩⟩
      · exact ⟨he, .inr ⟨pre, h1, h2⟩⟩
end Go.Proofs.Ytdlkkjfbbeffbaa.P
