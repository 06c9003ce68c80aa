/- instr.All: what is gone over, for every loop body that leaves alone what lay ahead: a walk; no statement of the seat. -/
import Derived.RangeFuncNested
import Derived.RangeFuncBound
import Derived.RangeFuncCalls
import Derived.RangeFuncLeaves
import Derived.RangeFuncBox
import Derived.Shelf.Abstract
import Derived.Shelf.RegionOpen
import Derived.WalkKit
import Derived.OwnWalkIn
import Derived.TacticsInMore
import Derived.LoopNIn
import Derived.LoopIn
import Derived.Scope
import Derived.WalkMore
import Derived.Test.YtjkjpmfenillcaaPF69
set_option linter.unusedVariables false
set_option linter.unusedSimpArgs false
namespace Go.Proofs.Ytjkjpmfenillcaa.P
open Go.RowKit Go.Shelf Go.Proofs.YtjkjpmfenillcaaW.PrintWords Go.Proofs.YtjkjpmfenillcaaW.PrintLast Go.Proofs.YtjkjpmfenillcaaW.PrintMore
attribute [local go_sem] Oper.semAt_some
abbrev Ins := Int × S47
/-- The instructions of bytes from a place on, with their places: up to the first that is none. -/
def allF (k : Nat) (b : List Int) : Nat → Nat → Option (List Ins)
  | 0, _ => none
  | n + 1, at_ => if at_ < b.length then (instr_first.f k (b.drop at_)).bind fun r => if r.2.2 = 0 then some [] else
      if 0 < r.2.2 ∧ (at_ : Int) + r.2.2 ≤ b.length then (allF k b n (at_ + r.2.2.toNat)).bind fun xs => some (((at_ : Int), (⟨r.1, r.2.1⟩ : S47)) :: xs) else none
    else some []
/-- What the rounds keep for the iterator: what lay below n₀, and its own box. -/
def KeepBox (n₀ Bs : Nat) (W W' : World) : Prop := Below n₀ W W' ∧ W'.heap[Bs]? = W.heap[Bs]?
theorem KeepBox.t {n₀ Bs : Nat} {A B C : World} (h : KeepBox n₀ Bs A B) (k : KeepBox n₀ Bs B C) : KeepBox n₀ Bs A C := ⟨h.1.trans k.1, k.2.trans h.2⟩
theorem KeepBox.b {n₀ Bs : Nat} {w : World} (h1 : n₀ ≤ w.heap.size) (h2 : Bs < w.heap.size) (W : World) (l : Nat) (o o' : Obj) (hl : w.heap.size ≤ l) (ho : W.heap[l]? = some o) (hc : o.isCells = false) (hw : o.isWalk = false) : KeepBox n₀ Bs W (W.putObj l o') := by
  refine ⟨belowK_b h1 W l o o' hl ho hc hw, ?_⟩
  exact (grownBy_putObj' W l o').block Bs (Nat.lt_of_lt_of_le h2 (Nat.le_trans hl (Nat.le_of_lt (Array.getElem?_eq_some_iff.1 ho).1))) (fun e => by cases e; omega)
set_option maxRecDepth 100000 in
set_option maxHeartbeats 800000 in
theorem all1_in (n : Nat) (hn : 1 ≤ n) (l Bs k fuel : Nat) (b : List Int) (A : Option Addr) (c : Nat) (hc : b.length ≤ c) (xs : List Ins) (hx : allF k b fuel 0 = some xs) (we : World) (hC : Kd.C (Kd.int .u8) we A b.length b)
    (J Jx : List Ins → World → Prop) (W : World) (hW : Below we.heap.size we W) (hJ : AbidesFrom W.heap.size J)
    (hY : ∀ pre x W1, J pre W1 → (∃ r, xs = pre ++ x :: r) → YieldAt Fence.wide (n - 1) Try.prog l #[.int .i64 x.1, .agg #[.int .i64 x.2.f0, .int .i64 x.2.f1]] W1 fun e W' =>
      (e = .returned (.bool true) ∧ J (pre ++ [x]) W' ∧ KeepBox we.heap.size Bs W1 W') ∨ (e = .returned (.bool false) ∧ Jx (pre ++ [x]) W'))
    (hBs : W.heap[Bs]? = some (.cells #[.slice A b.length c] 22 (0, 0))) (h0 : J [] W) :
    CallsIn Fence.wide n Try.prog 68 #[.func (.yield l) #[] #[], .pointer (some ⟨Bs, 0, none⟩)] W fun e W' => (∃ v, e = .returned v) ∧
      ((∃ ys, ys = xs ∧ J ys W') ∨ (∃ pre, pre <+: xs ∧ Jx pre W')) := by
  refine callsIn_of_wp Try.func68 rfl trivial ?_ rfl
  simp only [Try.ntmps68, List.size_toArray, List.length_cons, List.length_nil, Nat.reduceAdd, Nat.reduceSub, Array.replicate_succ, Array.replicate_zero, List.push_toArray, List.append_toArray, List.nil_append, List.cons_append]
  have hmax : b.length < 9223372036854775808 := by have := Kd.C_max hC; omega
  have HBs := Aside0.mk hBs
  have HC := Aside0.mk hC
  have HX := Aside0.mk hx
  have H0 := Aside0.mk h0
  clear hBs hC hx h0
  refine wpIn_wide.2 (wp_scope_straight ((wpIn_wide (n := n)).1 ?_))
  refine wpIn_seq (wpIn_label ?_)
  gi_wp2
  gi_loopw [3] (fun v3 wr => ∃ (at_ m : Nat) (pre rest : List Ins), v3 = .int .i64 at_ ∧ allF k b m at_ = some rest ∧ xs = pre ++ rest ∧ J pre wr ∧ Below we.heap.size we wr ∧ W.heap.size ≤ wr.heap.size ∧ wr.heap[Bs]? = some (.cells #[.slice A b.length c] 22 (0, 0)))
    (fun v3 _ => b.length - (intOf v3).toNat)
  case atStart => exact ⟨0, fuel, [], xs, rfl, HX.out, rfl, H0.out, hW, Nat.le_refl _, HBs.out⟩
  case round =>
    obtain ⟨at_, m, pre, rest, rfl, hal, hxs, hJs, hB, hsz, hbs⟩ := hrel
    have cB : wr.cell? ⟨Bs, 0, none⟩ = some (.slice A b.length c) := blk_cell hbs 0
    have lB : Bs < wr.heap.size := (Array.getElem?_eq_some_iff.1 hbs).1
    have HAL := Aside0.mk hal
    have HJS := Aside0.mk hJs
    have HB := Aside0.mk hB
    have HS := Aside0.mk hbs
    clear hal hJs hB hbs
    by_cases hlt : at_ < b.length
    · cases m with
      | zero => exact absurd HAL.out (by simp [allF])
      | succ m =>
        have h := HAL.out
        rw [allF, if_pos hlt] at h
        obtain ⟨⟨t1, t2, sz⟩, A1, h⟩ := Option.bind_eq_some_iff.mp h
        replace h : (if sz = 0 then some [] else if 0 < sz ∧ (at_ : Int) + sz ≤ b.length then (allF k b m (at_ + sz.toNat)).bind fun xs => some (((at_ : Int), (⟨t1, t2⟩ : S47)) :: xs) else none) = some rest := h
        obtain ⟨i0, hi0, _, hs0, _⟩ := info_parts info5
        obtain ⟨A', hcut, hA', hC'⟩ := print_drop_of (P := Try.prog) (Value.int .u8) 0 22 5 .i64 Try.underlying22 hi0 hs0 A c b (at_ : Int) (by omega) (by omega) hc
        have HCall := Aside0.mk (show ∀ w1, Below we.heap.size we w1 → Calls Try.prog 69 #[.slice A' (b.length - at_) (c - at_)] w1 fun e w' => e = .returned (.tuple #[.agg #[.int .i64 t1, .int .i64 t2], .int .i64 sz]) ∧ Below w1.heap.size w1 w' from fun w1 hb => by
          have h := instr_first.calls k A' (c - at_) (b.drop at_) t1 t2 sz w1 (Kd.C_of_reads (h1 := fun _ => rfl) (hA' _ (Kd.reads_of_C (Kd.C_below HC.out hb)))) hC' A1
          rw [List.length_drop] at h
          exact h)
        simp only [Int.toNat_natCast, List.length_drop] at hcut
        clear A1 hi0 hs0 hA' hC'
        by_cases hz : sz = 0
        · have hz1 : (sz == 0) = true := by rw [hz]; rfl
          have HZ := Aside0.mk hz
          rw [if_pos hz] at h
          have hre := Option.some.inj h
          clear hz h
          gi_wp2_with (refine ⟨trivial, ?_⟩; gi_at_call 69; refine (callsIn_wide.2 (HCall.out _ HB.out)).mono ?_; rintro e w1 ⟨rfl, hb1⟩)
          refine ⟨fun _ h => (by cases h), ?_⟩
          gi_wp2
          simp only [Exit.noGoto_normal]
          go_end0
          exact ⟨⟨_, rfl⟩, .inl ⟨pre, by rw [hxs, ← hre]; simp, hJ _ _ _ none (hJ _ _ _ none HJS.out (grown_of_below hb1 none) (by simp)) (World.grownBy_alloc _ _ none) (by simp)⟩⟩
        · have hz1 : (sz == 0) = false := beq_eq_false_iff_ne.mpr hz
          rw [if_neg hz] at h
          by_cases hg : 0 < sz ∧ (at_ : Int) + sz ≤ b.length
          · rw [if_pos hg] at h
            obtain ⟨xs', hxs', h⟩ := Option.bind_eq_some_iff.mp h
            have hre := (Option.some.inj h).symm
            subst hre
            have HZ := Aside0.mk hz
            have HG := Aside0.mk hg
            have HXS := Aside0.mk hxs'
            have hpl : ∃ r, xs = pre ++ ((at_ : Int), (⟨t1, t2⟩ : S47)) :: r := ⟨_, hxs⟩
            clear hz hg hxs' h
            gi_wp2_with (refine ⟨trivial, ?_⟩; gi_at_call 69; refine (callsIn_wide.2 (HCall.out _ HB.out)).mono ?_; rintro e w1 ⟨rfl, hb1⟩; have hJ1 : J pre w1 := hJ _ _ _ none HJS.out (grown_of_below hb1 none) (by simp); have hJ2 : J pre (w1.alloc (.cells #[.int .i64 t1, .int .i64 t2] 47)) := hJ _ _ _ none hJ1 (World.grownBy_alloc _ _ none) (by simp); obtain ⟨fn, tmps, assign, body, hy, hR⟩ := hY pre ((at_ : Int), (⟨t1, t2⟩ : S47)) _ hJ2 hpl; dsimp only at hy; have HB1 := Aside0.mk hb1; clear hb1 hJ1 hJ2)
            have hs1 : wr.heap.size ≤ w1.heap.size := below_size HB1.out
            refine hR.mono ?_
            rintro e W3 (⟨rfl, hJ3, hk3⟩ | ⟨rfl, hJx3⟩)
            · have hG := HG.out
              have hB2 : Below we.heap.size we w1 := below_step HB.out HB1.out
              have hB3 : Below we.heap.size we W3 := (hB2.alloc hB2.size (.cells #[.int .i64 t1, .int .i64 t2] 47)).trans hk3.1
              have hs3 : w1.heap.size ≤ W3.heap.size := by have := hk3.1.size; simp at this; omega
              have hb3 : W3.heap[Bs]? = some (.cells #[.slice A b.length c] 22 (0, 0)) := by
                rw [hk3.2, (below_alloc (Below.refl _ w1) _).block Bs (by omega), HB1.out.block Bs lB]
                exact HS.out
              have HR3 := Aside0.mk hB3
              have HB3 := Aside0.mk hb3
              clear hB2 hB3 hb3 hk3
              gi_wp2
              go_roundw
              case rel => exact ⟨at_ + sz.toNat, m, pre ++ [((at_ : Int), (⟨t1, t2⟩ : S47))], xs', by rw [show (at_ : Int) + sz = ((at_ + sz.toNat : Nat) : Int) from by omega], HXS.out, by rw [hxs]; simp, hJ3, HR3.out, by omega, HB3.out⟩
              case measure => simp only [intOf]; omega
            · gi_wp2
              simp only [Exit.noGoto_normal]
              go_end0
              exact ⟨⟨_, rfl⟩, .inr ⟨_, ⟨xs', by rw [hxs]; simp⟩, hJx3⟩⟩
          · rw [if_neg hg] at h
            cases h
    · cases m with
      | zero => exact absurd HAL.out (by simp [allF])
      | succ m =>
        have h := HAL.out
        rw [allF, if_neg hlt] at h
        have hre := Option.some.inj h
        clear h
        gi_wp2
        simp only [Exit.noGoto_normal]
        go_end0
        exact ⟨⟨_, rfl⟩, .inl ⟨pre, by rw [hxs, ← hre]; simp, HJS.out⟩⟩
set_option maxHeartbeats 1000000 in
/-- The slice is boxed; the function value has captured the box. -/
theorem all_in (n : Nat) (A : Option Addr) (len cap : Nat) (w : World) :
    CallsIn Fence.wide n Try.prog 39 #[.slice A len cap] w fun e w' => e = .returned (.func (.func 68) #[] #[.pointer (some ⟨w.heap.size, 0, none⟩)]) ∧ w' = w.alloc (.cells #[.slice A len cap] 22) := by
  refine callsIn_of_wp Try.func39 rfl trivial ?_ rfl
  simp only [Try.ntmps39, List.size_toArray, List.length_cons, List.length_nil, Nat.reduceAdd, Nat.reduceSub, Array.replicate_succ, Array.replicate_zero, List.push_toArray, List.append_toArray, List.nil_append, List.cons_append]
  gi_wp2
  go_ret
  exact ⟨rfl, rfl⟩
/-- .. at a type of which each value is one of those that come. -/
theorem all_stops (n : Nat) (hn : 1 ≤ n) (Bs k fuel : Nat) (b : List Int) (A : Option Addr) (c : Nat) (hc : b.length ≤ c) (xs : List Ins) (hx : allF k b fuel 0 = some xs) (we : World) (hC : Kd.C (Kd.int .u8) we A b.length b)
    (w : World) (hw : Below we.heap.size we w) (hBs : w.heap[Bs]? = some (.cells #[.slice A b.length c] 22 (0, 0))) :
    SeqStopsK Fence.wide n Try.prog 68 #[.pointer (some ⟨Bs, 0, none⟩)] (fun x : { x : Ins // x ∈ xs } => #[.int .i64 x.1.1, .agg #[.int .i64 x.1.2.f0, .int .i64 x.1.2.f1]]) (KeepBox we.heap.size Bs) (fun ys => ys.map (·.1) = xs) (fun pre => pre.map (·.1) <+: xs) xs.length w :=
  fun l J Jx W hW hJ hJx hY h0 => by
    refine (all1_in n hn l Bs k fuel b A c hc xs hx we hC (fun p W => ∃ q : List { x : Ins // x ∈ xs }, q.map (·.1) = p ∧ J q W) (fun p W => ∃ q : List { x : Ins // x ∈ xs }, q.map (·.1) = p ∧ Jx q W) W (below_step hw hW) ?_ ?_ ((hW.block Bs (Array.getElem?_eq_some_iff.1 hBs).1).trans hBs) ⟨[], rfl, h0⟩).mono ?_
    · rintro s X Y row ⟨q, hq, hj⟩ hg hr
      exact ⟨q, hq, hJ q X Y row hj hg hr⟩
    · rintro pre x W1 ⟨q, hq, hj⟩ ⟨r, hr⟩
      have hm : x ∈ xs := by rw [hr]; simp
      have hl : q.length < xs.length := by
        have h1 := congrArg List.length hq
        have h2 := congrArg List.length hr
        rw [List.length_map] at h1
        rw [List.length_append, List.length_cons] at h2
        omega
      refine YieldAt.mono (hY q ⟨x, hm⟩ W1 hj hl) ?_
      rintro e W' (⟨he, h1, h2⟩ | ⟨he, h1⟩)
      · exact .inl ⟨he, ⟨q ++ [⟨x, hm⟩], by simp [hq], h1⟩, h2⟩
      · exact .inr ⟨he, ⟨q ++ [⟨x, hm⟩], by simp [hq], h1⟩⟩
    · rintro e W' ⟨he, ⟨ys, rfl, q, hq, hj⟩ | ⟨pre, hp, q, hq, hj⟩⟩
      · exact ⟨he, .inl ⟨q, hq, hj⟩⟩
      · exact ⟨he, .inr ⟨q, by show q.map (·.1) <+: xs; rw [hq]; exact hp, hj⟩⟩
end Go.Proofs.Ytjkjpmfenillcaa.P
