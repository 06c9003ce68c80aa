/- flow.Behind: what is gone over, for every loop body that leaves alone what lay ahead: a walk; no statement of the seat. -/
import Derived.RangeFuncNested
import Derived.RangeFuncBound
import Derived.RangeFuncCalls
import Derived.RangeFuncLeaves
import Derived.RangeFuncBox
import Derived.Shelf.Abstract
import Derived.Shelf.RegionOpen
import Derived.WalkKit
import Derived.OwnWalkIn
import Derived.TacticsInMore
import Derived.LoopNIn
import Derived.LoopIn
import Derived.Scope
import Derived.WalkMore
import Derived.Test.YtpfbfnbffglbkaaFlowA
set_option linter.unusedVariables false
set_option linter.unusedSimpArgs false
namespace Go.Proofs.Ytpfbfnbffglbkaa.P
open Go.RowKit Go.Shelf Go.Proofs.YtpfbfnbffglbkaaW.PrintWords Go.Proofs.YtpfbfnbffglbkaaW.PrintLast Go.Proofs.YtpfbfnbffglbkaaW.PrintMore
attribute [local go_sem] Oper.semAt_some
/-- Pairs of a block and one behind it, of some of those behind it. -/
def rowP (n i : Nat) : List Int → List (Int × Int)
  | [] => []
  | t :: l => if isN n t = true then ((i : Int), t) :: rowP n i l else rowP n i l
/-- Pairs from a block on. -/
def behR (b : List S30) (n : Nat) : Nat → Nat → List (Int × Int)
  | 0, _ => []
  | d + 1, i => rowP n i (nxB b i) ++ behR b n d (i + 1)
def KeepBox (n₀ Bs : Nat) (W W' : World) : Prop := Below n₀ W W' ∧ W'.heap[Bs]? = W.heap[Bs]?
theorem KeepBox.t {n₀ Bs : Nat} {A B C : World} (h : KeepBox n₀ Bs A B) (k : KeepBox n₀ Bs B C) : KeepBox n₀ Bs A C := ⟨h.1.trans k.1, k.2.trans h.2⟩
theorem KeepBox.b {n₀ Bs : Nat} {w : World} (h1 : n₀ ≤ w.heap.size) (h2 : Bs < w.heap.size) (W : World) (l : Nat) (o o' : Obj) (hl : w.heap.size ≤ l) (ho : W.heap[l]? = some o) (hc : o.isCells = false) (hw : o.isWalk = false) : KeepBox n₀ Bs W (W.putObj l o') := by
  refine ⟨belowK_b h1 W l o o' hl ho hc hw, ?_⟩
  exact (grownBy_putObj' W l o').block Bs (Nat.lt_of_lt_of_le h2 (Nat.le_trans hl (Nat.le_of_lt (Array.getElem?_eq_some_iff.1 ho).1))) (fun e => by cases e; omega)
theorem kept_size {B m : Nat} {w W : World} (h : Below B (w.drewN m) W) : w.heap.size ≤ W.heap.size := h.size
set_option maxRecDepth 100000 in
set_option maxHeartbeats 1600000 in
theorem beh1_in (n : Nat) (hn : 1 ≤ n) (l Bs : Nat) (b : List S30) (N : Nat) (hN : b.length = N) (hmx : N ≤ 3600000000000) (A : Option Addr) (c : Nat) (hc : N ≤ c) (xs : List (Int × Int)) (hx : behR b N N 0 = xs) (we : World) (hC : Kd.C k30 we A N b)
    (J Jx : List (Int × Int) → World → Prop) (W : World) (hW : Below we.heap.size we W) (hJ : AbidesFrom W.heap.size J)
    (hY : ∀ pre x W1, J pre W1 → (∃ r, xs = pre ++ x :: r) → YieldAt Fence.wide (n - 1) Try.prog l #[.int .i64 x.1, .int .i64 x.2] W1 fun e W' =>
      (e = .returned (.bool true) ∧ J (pre ++ [x]) W' ∧ KeepBox we.heap.size Bs W1 W') ∨ (e = .returned (.bool false) ∧ Jx (pre ++ [x]) W'))
    (hBs : W.heap[Bs]? = some (.cells #[.slice A N c] 25 (0, 0))) (h0 : J [] W) :
    CallsIn Fence.wide n Try.prog 44 #[.func (.yield l) #[] #[], .pointer (some ⟨Bs, 0, none⟩)] W fun e W' => (∃ v, e = .returned v) ∧
      ((∃ ys, ys = xs ∧ J ys W') ∨ (∃ pre, pre <+: xs ∧ Jx pre W')) := by
  refine callsIn_of_wp Try.func44 rfl trivial ?_ rfl
  simp only [Try.ntmps44, List.size_toArray, List.length_cons, List.length_nil, Nat.reduceAdd, Nat.reduceSub, Array.replicate_succ, Array.replicate_zero, List.push_toArray, List.append_toArray, List.nil_append, List.cons_append]
  have cB0 : W.cell? ⟨Bs, 0, none⟩ = some (.slice A N c) := blk_cell hBs 0
  have HBs := Aside0.mk hBs
  have HC := Aside0.mk hC
  have HX := Aside0.mk hx
  have H0 := Aside0.mk h0
  have HNB := Aside0.mk hN
  clear hBs hC hx h0 hN
  gi_wp2
  gi_loopw [9] (fun v9 wr => ∃ (i : Nat) (pre : List (Int × Int)), v9 = .int .i64 i ∧ i ≤ N ∧ xs = pre ++ behR b N (N - i) i ∧ J pre wr ∧ Below we.heap.size we wr ∧ W.heap.size ≤ wr.heap.size ∧ wr.heap[Bs]? = some (.cells #[.slice A N c] 25 (0, 0)))
    (fun v9 _ => N - (intOf v9).toNat)
  case atStart => exact ⟨0, [], rfl, Nat.zero_le _, HX.out.symm, H0.out, hW, Nat.le_refl _, HBs.out⟩
  case round =>
    obtain ⟨i, pre, rfl, hi, hxs, hJs, hB, hsz, hbs⟩ := hrel
    by_cases hlt : i < N
    · have hi1 : (i : Int) < (N : Int) := by omega
      obtain ⟨ad, A2, c2, rfl, q1w, q2w, q4w, hc2, hC2⟩ := at_T30 HC.out (i : Int) (by omega) (by omega)
      have q1 := pw_cell_below hB q1w
      have q2 := pw_cell_below hB q2w
      have q4 := pw_cell_below hB q4w
      obtain ⟨nl, hnl⟩ : ∃ nl, nl = nxB b i := ⟨_, rfl⟩
      have hnl' : (rd_T30 b (i : Int)).f2 = nl := hnl.symm
      rw [hnl', Int.toNat_natCast] at q4
      rw [Int.toNat_natCast] at q1 q2
      rw [hnl'] at hc2 hC2
      have hmx2 := Kd.C_max hC2
      have HC2 := Aside0.mk hC2
      have hst : behR b N (N - i) i = rowP N i nl ++ behR b N (N - (i + 1)) (i + 1) := by
        rw [show N - i = (N - (i + 1)) + 1 by omega, behR, ← hnl]
      rw [hst] at hxs
      have HJS := Aside0.mk hJs
      have HB := Aside0.mk hB
      have HS := Aside0.mk hbs
      have HXS := Aside0.mk hxs
      clear q1w q2w q4w hnl hnl' hC2 hJs hB hbs hst hxs
      have hlB : Bs < wr.heap.size := (Array.getElem?_eq_some_iff.1 HS.out).1
      have hJ1 : J pre (wr.alloc (.cells #[.int .i64 (rd_T30 b (i : Int)).f0, .int .i64 (rd_T30 b (i : Int)).f1, .slice A2 nl.length c2] 30)) := hJ _ _ _ none HJS.out (World.grownBy_alloc _ _ none) (by simp)
      have hB1 : Below we.heap.size we (wr.alloc (.cells #[.int .i64 (rd_T30 b (i : Int)).f0, .int .i64 (rd_T30 b (i : Int)).f1, .slice A2 nl.length c2] 30)) := below_alloc HB.out _
      have hS1 : (wr.alloc (.cells #[.int .i64 (rd_T30 b (i : Int)).f0, .int .i64 (rd_T30 b (i : Int)).f1, .slice A2 nl.length c2] 30)).heap[Bs]? = some (.cells #[.slice (some ad) N c] 25 (0, 0)) := blk_alloc HS.out _
      have HJ1 := Aside0.mk hJ1
      have HB1 := Aside0.mk hB1
      have HS1 := Aside0.mk hS1
      have hz1 : W.heap.size ≤ (wr.alloc (.cells #[.int .i64 (rd_T30 b (i : Int)).f0, .int .i64 (rd_T30 b (i : Int)).f1, .slice A2 nl.length c2] 30)).heap.size := by rw [World.size_alloc]; omega
      have HZ1 := Aside0.mk hz1
      clear hJ1 hB1 hS1 hz1
      gi_wp2
      gi_loopw [17] (fun v17 ws => ∃ (k : Nat) (p2 : List (Int × Int)), v17 = .int .i64 k ∧ k ≤ nl.length ∧ xs = p2 ++ (rowP N i (nl.drop k) ++ behR b N (N - (i + 1)) (i + 1)) ∧ J p2 ws ∧ Below we.heap.size we ws ∧ W.heap.size ≤ ws.heap.size ∧ ws.heap[Bs]? = some (.cells #[.slice (some ad) N c] 25 (0, 0)))
        (fun v17 _ => nl.length - (intOf v17).toNat)
      case atStart => exact ⟨0, pre, rfl, Nat.zero_le _, HXS.out, HJ1.out, HB1.out, HZ1.out, HS1.out⟩
      case round =>
        obtain ⟨k, p2, rfl, hk, hxs2, hJ2, hB2, hsz2, hbs2⟩ := hrel
        have cB : wr.cell? ⟨Bs, 0, none⟩ = some (.slice (some ad) N c) := blk_cell hbs2 0
        have lB : Bs < wr.heap.size := (Array.getElem?_eq_some_iff.1 hbs2).1
        have HJ2 := Aside0.mk hJ2
        have HB2 := Aside0.mk hB2
        have HS2 := Aside0.mk hbs2
        have HX2 := Aside0.mk hxs2
        clear hJ2 hB2 hbs2 hxs2 HS HXS HJ1 HB1 HS1 HZ1
        by_cases hlt2 : k < nl.length
        · have hi2 : (k : Int) < (nl.length : Int) := by omega
          obtain ⟨ad2, rfl, hcc⟩ := Kd.at_int (Kd.C_below HC2.out HB2.out) (k : Int) (by omega) (by omega)
          rw [Int.toNat_natCast] at hcc
          obtain ⟨t, ht⟩ : ∃ t, t = rd nl (k : Int) := ⟨_, rfl⟩
          rw [← ht] at hcc
          have hdrop : nl.drop k = t :: nl.drop (k + 1) := by
            rw [List.drop_eq_getElem_cons hlt2, ht]
            unfold rd
            rw [Int.toNat_natCast, List.getD_eq_getElem?_getD, List.getElem?_eq_getElem hlt2]
            rfl
          have hrw : rowP N i (nl.drop k) = if isN N t = true then ((i : Int), t) :: rowP N i (nl.drop (k + 1)) else rowP N i (nl.drop (k + 1)) := by rw [hdrop, rowP]
          have HRW := Aside0.mk hrw
          have HIS := Aside0.mk (fun (W1 : World) (hb : Below we.heap.size we W1) => is_run b N HNB.out (some ad) c hc W1 (Kd.C_below HC.out hb) t)
          clear ht hdrop hrw
          by_cases hin : isN N t = true
          · have hxx := HX2.out
            rw [HRW.out, if_pos hin] at hxx
            have hpl : ∃ r, xs = p2 ++ ((i : Int), t) :: r := ⟨_, hxx⟩
            have HXX := Aside0.mk hxx
            have HIN := Aside0.mk hin
            clear hxx hin
            gi_wp2_with (refine ⟨trivial, ?_⟩; gi_at_call 40; refine (callsIn_wide.2 (HIS.out _ HB2.out)).mono ?_; rintro e w1 ⟨rfl, ⟨m1, rfl⟩⟩; rw [HIN.out]; have hJ3 : J p2 (wr.drewN m1) := hJ _ _ _ none HJ2.out (grown_of_below (pw_below_drewN (Below.refl _ wr) m1) none) (by simp); obtain ⟨fn, tmps, assign, body, hy, hR⟩ := hY p2 ((i : Int), t) _ hJ3 hpl; dsimp only at hy; clear hJ3)
            refine hR.mono ?_
            rintro e W3 (⟨rfl, hJ3, hk3⟩ | ⟨rfl, hJx3⟩)
            · have hB3 : Below we.heap.size we W3 := (pw_below_drewN HB2.out m1).trans hk3.1
              have hs3 : wr.heap.size ≤ W3.heap.size := kept_size hk3.1
              have hb3 : W3.heap[Bs]? = some (.cells #[.slice (some ad) N c] 25 (0, 0)) := hk3.2.trans HS2.out
              have HB3 := Aside0.mk hB3
              have HS3 := Aside0.mk hb3
              have HJ3 := Aside0.mk hJ3
              clear hB3 hb3 hk3 hJ3
              gi_wp2
              go_roundw
              case rel => exact ⟨k + 1, p2 ++ [((i : Int), t)], by go_num, by omega, by rw [HXX.out]; simp, HJ3.out, HB3.out, by omega, HS3.out⟩
              case measure => simp only [intOf]; omega
            · have HJX := Aside0.mk hJx3
              clear hJx3
              gi_wp2
              refine bodyPost_ret (results_none (fn := Try.f44) rfl _ _ _) rfl ?_
              exact ⟨⟨_, rfl⟩, .inr ⟨p2 ++ [((i : Int), t)], ⟨_, by rw [HXX.out, List.append_assoc]; rfl⟩, HJX.out⟩⟩
          · have hno : isN N t = false := by simpa using hin
            have hxx := HX2.out
            rw [HRW.out, if_neg hin] at hxx
            have HXX := Aside0.mk hxx
            have HNO := Aside0.mk hno
            clear hxx hno hin
            gi_wp2_with (refine ⟨trivial, ?_⟩; gi_at_call 40; refine (callsIn_wide.2 (HIS.out _ HB2.out)).mono ?_; rintro e w1 ⟨rfl, ⟨m1, rfl⟩⟩; rw [HNO.out])
            refine ⟨fun _ h => (by cases h), ?_⟩
            gi_wp2
            go_roundw
            case rel => exact ⟨k + 1, p2, by go_num, by omega, HXX.out, hJ _ _ _ none HJ2.out (grown_of_below (pw_below_drewN (Below.refl _ wr) m1) none) (by simp), pw_below_drewN HB2.out m1, hsz2, HS2.out⟩
            case measure => simp only [intOf]; omega
        · have hi2 : ¬ (k : Int) < (nl.length : Int) := by omega
          have hxx := HX2.out
          rw [List.drop_eq_nil_of_le (by omega), rowP, List.nil_append] at hxx
          have HXX := Aside0.mk hxx
          clear hxx
          gi_wp2
          go_roundw
          case rel => exact ⟨i + 1, p2, by go_num, by omega, HXX.out, HJ2.out, HB2.out, hsz2, HS2.out⟩
          case measure => simp only [intOf]; omega
    · have hi1 : ¬ (i : Int) < (N : Int) := by omega
      have hend : xs = pre := by
        rw [show N - i = 0 by omega, behR, List.append_nil] at hxs
        exact hxs
      have HJS := Aside0.mk hJs
      have HE := Aside0.mk hend
      clear hJs hend hxs hB hbs
      gi_wp2
      (try simp only [Exit.noGoto_normal])
      go_end0
      exact ⟨⟨_, rfl⟩, .inl (by rw [HE.out]; exact HJS.out)⟩
set_option maxHeartbeats 1000000 in
/-- The blocks are boxed; the function value has captured the box. -/
theorem beh_in (n : Nat) (A : Option Addr) (len cap : Nat) (w : World) :
    CallsIn Fence.wide n Try.prog 24 #[.slice A len cap] w fun e w' => e = .returned (.func (.func 44) #[] #[.pointer (some ⟨w.heap.size, 0, none⟩)]) ∧ w' = w.alloc (.cells #[.slice A len cap] 25) := by
  refine callsIn_of_wp Try.func24 rfl trivial ?_ rfl
  simp only [Try.ntmps24, List.size_toArray, List.length_cons, List.length_nil, Nat.reduceAdd, Nat.reduceSub, Array.replicate_succ, Array.replicate_zero, List.push_toArray, List.append_toArray, List.nil_append, List.cons_append]
  gi_wp2
  go_ret
  exact ⟨rfl, rfl⟩
/-- .. at a type of which each value is one of those that come. -/
theorem beh_stops (n : Nat) (hn : 1 ≤ n) (Bs : Nat) (b : List S30) (N : Nat) (hN : b.length = N) (hmx : N ≤ 3600000000000) (A : Option Addr) (c : Nat) (hc : N ≤ c) (xs : List (Int × Int)) (hx : behR b N N 0 = xs) (we : World) (hC : Kd.C k30 we A N b)
    (w : World) (hw : Below we.heap.size we w) (hBs : w.heap[Bs]? = some (.cells #[.slice A N c] 25 (0, 0))) :
    SeqStopsK Fence.wide n Try.prog 44 #[.pointer (some ⟨Bs, 0, none⟩)] (fun x : { x : Int × Int // x ∈ xs } => #[.int .i64 x.1.1, .int .i64 x.1.2]) (KeepBox we.heap.size Bs) (fun ys => ys.map (·.1) = xs) (fun pre => pre.map (·.1) <+: xs) xs.length w :=
  fun l J Jx W hW hJ hJx hY h0 => by
    refine (beh1_in n hn l Bs b N hN hmx A c hc xs hx we hC (fun p W => ∃ q : List { x : Int × Int // x ∈ xs }, q.map (·.1) = p ∧ J q W) (fun p W => ∃ q : List { x : Int × Int // x ∈ xs }, q.map (·.1) = p ∧ Jx q W) W (below_step hw hW) ?_ ?_ ((hW.block Bs (Array.getElem?_eq_some_iff.1 hBs).1).trans hBs) ⟨[], rfl, h0⟩).mono ?_
    · rintro s X Y row ⟨q, hq, hj⟩ hg hr
      exact ⟨q, hq, hJ q X Y row hj hg hr⟩
    · rintro pre x W1 ⟨q, hq, hj⟩ ⟨r, hr⟩
      have hm : x ∈ xs := by rw [hr]; simp
      have hl : q.length < xs.length := by
        have h1 := congrArg List.length hq
        have h2 := congrArg List.length hr
        rw [List.length_map] at h1
        rw [List.length_append, List.length_cons] at h2
        omega
      refine YieldAt.mono (hY q ⟨x, hm⟩ W1 hj hl) ?_
      rintro e W' (⟨he, h1, h2⟩ | ⟨he, h1⟩)
      · exact .inl ⟨he, ⟨q ++ [⟨x, hm⟩], by simp [hq], h1⟩, h2⟩
      · exact .inr ⟨he, ⟨q ++ [⟨x, hm⟩], by simp [hq], h1⟩⟩
    · rintro e W' ⟨he, ⟨ys, rfl, q, hq, hj⟩ | ⟨pre, hp, q, hq, hj⟩⟩
      · exact ⟨he, .inl ⟨q, hq, hj⟩⟩
      · exact ⟨he, .inr ⟨q, by show q.map (·.1) <+: xs; rw [hq]; exact hp, hj⟩⟩
end Go.Proofs.Ytpfbfnbffglbkaa.P
