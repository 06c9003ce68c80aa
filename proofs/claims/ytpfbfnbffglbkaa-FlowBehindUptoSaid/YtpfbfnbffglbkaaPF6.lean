/- Ytpfbfnbffglbkaa: what Go functions come to, and that they do: walks, printed by a program of this session or typed by hand; no statement of the seat stands here. -/
import Derived.Test.YtpfbfnbffglbkaaP0
import Derived.Test.YtpfbfnbffglbkaaPF13
import Derived.Test.YtpfbfnbffglbkaaFlowB3
import Derived.Test.YtpfbfnbffglbkaaPF13
namespace Go.Proofs.Ytpfbfnbffglbkaa.P
open Go.RowKit Go.Proofs.YtpfbfnbffglbkaaW.PrintWords Go.Proofs.YtpfbfnbffglbkaaW.PrintLast Go.Proofs.YtpfbfnbffglbkaaW.PrintMore
attribute [local go_sem] max2_int min2_int max_two min_two max_three min_three max_four min_four   -- for this text's walks alone
set_option linter.unusedVariables false
set_option linter.unusedSimpArgs false


/-! ### pianolalaw08_FlowBehind: function 6 -/
-- IMPORT Derived.Test.YtpfbfnbffglbkaaFlowB3
-- IMPORT Derived.Test.YtpfbfnbffglbkaaPF13
attribute [local go_sem] Oper.semAt_some eq46
def pianolalaw08_FlowBehind.f (l0 : List S30) (a1 : Int) : Option Bool := if l0.length ≤ 3600000000000 ∧ (behR l0 l0.length l0.length 0).length ≤ 1000000000000 then some true else none
theorem inf46 : (Try.prog.info? 46).map (fun i => (i.zero, i.size, i.bytes)) = some (some (.agg #[.int .i64 0, .int .i64 0]), 2, 16) := by kernel_rfl
def BehP (w : World) (e : Ending) (w' : World) : Prop := e = .returned (.bool true) ∧ Below w.heap.size w w'
set_option maxRecDepth 100000 in
set_option maxHeartbeats 4000000 in
theorem behind_walk (A0 : Option Addr) (c0 : Nat) (l0 : List S30) (stop : Int) (n : Nat) (hn : l0.length = n) (w : World) (hr0 : Kd.C k30 w A0 n l0) (hc0 : n ≤ c0) (hmx : n ≤ 3600000000000) (hxl : (behR l0 n n 0).length ≤ 1000000000000) :
    Calls Try.prog 6 #[.slice A0 n c0, .int .i64 stop] w (BehP w) := by
  have HR0 := Aside0.mk hr0
  have HN := Aside0.mk hn
  have hnil : ∀ (b : Nat) (W : World), (binOp .eql 43 (.func (.func 44) #[] #[.pointer (some ⟨b, 0, none⟩)]) .nilFunc).run Try.prog W = .ok (.bool false) W := fun _ _ => by kernel_rfl
  have hnil2 : ∀ (b : Nat) (W : World), (binOp .neq 43 (.func (.func 44) #[] #[.pointer (some ⟨b, 0, none⟩)]) .nilFunc).run Try.prog W = .ok (.bool true) W := fun _ _ => by kernel_rfl
  obtain ⟨xs, hxs⟩ : ∃ xs, behR l0 n n 0 = xs := ⟨_, rfl⟩
  rw [hxs] at hxl
  have HXS := Aside0.mk hxs
  clear hr0 hn hxs
  refine (callsIn_wide (n := 4)).1 ?_
  refine callsIn_of_wp_marks Try.func6 rfl trivial ?_ rfl
  simp only [Try.ntmps6, List.size_toArray, List.length_cons, List.length_nil, Nat.reduceAdd, Nat.reduceSub, Array.replicate_succ, Array.replicate_zero, List.push_toArray, List.append_toArray, List.nil_append, List.cons_append]
  refine wpIn_wide.2 ?_
  go_upto_region 1 with (fail)
  obtain ⟨W0, hW0⟩ : ∃ W0, (w.alloc (.cells #[.int .i64 stop] 3)).alloc (.cells #[.bool false] 4) = W0 := ⟨_, rfl⟩
  have b3 : W0.heap[w.heap.size]? = some (.cells #[.int .i64 stop] 3 (0, 0)) := by rw [← hW0]; exact blk_alloc (blk_new w _) _
  have b4 : W0.heap[w.heap.size + 1]? = some (.cells #[.bool false] 4 (0, 0)) := by
    rw [← hW0]
    have := blk_new (w.alloc (.cells #[.int .i64 stop] 3)) (.cells #[.bool false] 4)
    rw [World.size_alloc] at this
    exact this
  have hz0 : W0.heap.size = w.heap.size + 2 := by rw [← hW0, World.size_alloc, World.size_alloc]
  have hb0 : Below w.heap.size w W0 := by rw [← hW0]; exact below_alloc (below_alloc (Below.refl _ w) _) _
  rw [hW0]
  go_wp2_with fail
  refine ((callsIn_wide (n := 4)).1 (beh_in 4 A0 n c0 _)).mono ?_
  rintro e w2 ⟨rfl, rfl⟩
  obtain ⟨W1, hW1⟩ : ∃ W1, W0.alloc (.cells #[.slice A0 n c0] 25) = W1 := ⟨_, rfl⟩
  have bs : W1.heap[w.heap.size + 2]? = some (.cells #[.slice A0 n c0] 25 (0, 0)) := by rw [← hW1, ← hz0]; exact blk_new W0 _
  have hz1 : W1.heap.size = w.heap.size + 3 := by rw [← hW1, World.size_alloc, hz0]
  have hb1 : Below W0.heap.size W0 W1 := by rw [← hW1]; exact below_alloc (Below.refl _ W0) _
  rw [hW1, hz0]
  have c3 := blk_below b3 hb1
  have c4 := blk_below b4 hb1
  have hbw := below_step hb0 hb1
  have B3 := Aside0.mk c3
  have B4 := Aside0.mk c4
  have BS := Aside0.mk bs
  have HZ := Aside0.mk hz1
  have HB := Aside0.mk hbw
  clear b3 b4 bs hz0 hz1 hb0 hb1 hbw c3 c4 hW0 hW1
  by_cases hbig : 300 < n
  · have hb1 : (300 : Int) < (n : Int) := by omega
    have hb2 : decide ((300 : Int) < (n : Int)) = true := decide_eq_true hb1
    go_wp2_with (go_at_call 13; refine (pianolalaw08_lives.calls true _ rfl).mono ?_; rintro e w3 ⟨rfl, hb⟩; have q4 := blk_below B4.out hb; have q5 := below_step HB.out hb; have f1 := blk_cell q4 0; have f2 := blk_frozen q4 0; have B4' := Aside0.mk q4; have HB' := Aside0.mk q5; clear B4 HB q4 q5; have B4 := B4'; have HB := HB'; clear B4' HB' hb)
    have hs := blk_set B4.out 0 (.bool true)
    have f3 := blk_cell hs 0
    refine ⟨.bool true, ?_, rfl, Below.setCell (p := ⟨w.heap.size + 1, 0, none⟩) HB.out (by show w.heap.size ≤ w.heap.size + 1; omega) _⟩
    simp [results, Try.f6, go_sem, f3]
  · have hb1 : ¬ (300 : Int) < (n : Int) := by omega
    have hb2 : decide ((300 : Int) < (n : Int)) = false := decide_eq_false hb1
    go_wp2_with (go_at_call 13; refine (pianolalaw08_lives.calls true _ rfl).mono ?_; rintro e w3 ⟨rfl, hb⟩; have HL := Aside0.mk hb; clear hb)
    obtain ⟨W5, hW5⟩ : ∃ W5, w3.alloc (.cells #[.slice none 0 0] 45) = W5 := ⟨_, rfl⟩
    have hFB : FB w W5 w3.heap.size n c0 A0 stop (.slice none 0 0) [] := by
      have h5 : Below w3.heap.size w3 W5 := by rw [← hW5]; exact below_alloc (Below.refl _ w3) _
      have hw3 : w.heap.size + 3 ≤ w3.heap.size := by have := HL.out.size; have := HZ.out; omega
      refine ⟨blk_below (blk_below B3.out HL.out) h5, blk_below (blk_below B4.out HL.out) h5, blk_below (blk_below BS.out HL.out) h5, by rw [← hW5]; exact blk_new w3 _, own_nil _ _ _ _, by omega, below_step (below_step HB.out HL.out) h5⟩
    rw [hW5]
    have HF := Aside0.mk hFB
    have HS := Aside0.mk (show w.heap.size + 3 ≤ w3.heap.size by have := HL.out.size; have := HZ.out; omega)
    clear hFB B3 B4 BS HZ HB HL hW5 hnil hnil2
    go_loopw [7] (fun v7 wr => ∃ (i : Nat) (A6 : Option Addr) (c6 : Nat) (l : List (Int × Int)), v7 = .int .i64 i ∧ i ≤ n ∧ Aside0 (FB w wr w3.heap.size n c0 A0 stop (.slice A6 l.length c6) l) ∧ Aside0 (xs = l ++ behR l0 n (n - i) i)) (fun v7 _ => n - (intOf v7).toNat)
    case atStart => exact ⟨0, none, 0, [], rfl, Nat.zero_le _, HF, ⟨HXS.out.symm⟩⟩
    case round =>
      clear HF
      obtain ⟨i, A6, c6, l, rfl, hi, HF, HX⟩ := hrel
      by_cases hlt : i < n
      · have hi1 : (i : Int) < (n : Int) := by omega
        obtain ⟨ad, A2, c2, rfl, _, _, q4w, hc2, hC2⟩ := at_T30 HR0.out (i : Int) (by omega) (by omega)
        obtain ⟨nl, hnl⟩ : ∃ nl, nl = nxB l0 i := ⟨_, rfl⟩
        have hnl' : (rd_T30 l0 (i : Int)).f2 = nl := hnl.symm
        rw [hnl', Int.toNat_natCast] at q4w
        rw [hnl'] at hc2 hC2
        have hmx2 := Kd.C_max hC2
        have hst : behR l0 n (n - i) i = rowP n i nl ++ behR l0 n (n - (i + 1)) (i + 1) := by
          rw [show n - i = (n - (i + 1)) + 1 by omega, behR, ← hnl]
        have hx := HX.out
        rw [hst] at hx
        have HC2 := Aside0.mk (show Kd.C (Kd.int .i64) w A2 nl.length nl from hC2)
        have HQ4 := Aside0.mk q4w
        have HX2 := Aside0.mk hx
        clear hst hx HX hC2 q4w hnl hnl'
        go_wp2_with fail
        obtain ⟨wo, rfl⟩ : ∃ wo : World, wo = wr := ⟨_, rfl⟩
        go_loopw [8] (fun v8 wz => ∃ (k : Nat) (A6 : Option Addr) (c6 : Nat) (l : List (Int × Int)), v8 = .int .i64 k ∧ k ≤ nl.length ∧ Aside0 (FB w wz w3.heap.size n c0 (some ad) stop (.slice A6 l.length c6) l) ∧ Aside0 (xs = l ++ (rowP n i (nl.drop k) ++ behR l0 n (n - (i + 1)) (i + 1)))) (fun v8 _ => nl.length - (intOf v8).toNat)
        case atStart => exact ⟨0, A6, c6, l, rfl, Nat.zero_le _, HF, HX2⟩
        case round =>
          clear HF HX2
          obtain ⟨k, A6, c6, l, rfl, hk, HF, HX⟩ := hrel
          have q4 := pw_cell_below HF.out.hb HQ4.out
          by_cases hkl : k < nl.length
          · have hk1 : (k : Int) < (nl.length : Int) := by omega
            obtain ⟨ad2, rfl, t3⟩ := Kd.at_int (Kd.C_below HC2.out HF.out.hb) (k : Int) (by omega) (by omega)
            rw [Int.toNat_natCast] at t3
            obtain ⟨t, ht⟩ : ∃ t, t = rd nl (k : Int) := ⟨_, rfl⟩
            rw [← ht] at t3
            have hdrop : nl.drop k = t :: nl.drop (k + 1) := by
              rw [List.drop_eq_getElem_cons hkl, ht]
              unfold rd
              rw [Int.toNat_natCast, List.getD_eq_getElem?_getD, List.getElem?_eq_getElem hkl]
              rfl
            have hx := HX.out
            rw [hdrop, rowP] at hx
            clear HX hdrop ht
            by_cases hin : isN n t = true
            · rw [if_pos hin] at hx
              obtain ⟨j, rfl, hj⟩ := isN_nat hin
              have hj0 : (0 : Int) ≤ (j : Int) := by omega
              have hj1 : (j : Int) < (n : Int) := by omega
              have hll : (l.length + 1) * 16 ≤ 140737488355328 := by
                have h1 := congrArg List.length hx
                rw [List.length_append, List.length_append, List.length_cons] at h1
                omega
              have HX := Aside0.mk hx
              have HLL := Aside0.mk hll
              have k6 : wr.cell? ⟨w3.heap.size, 0, none⟩ = some (.slice A6 l.length c6) := blk_cell HF.out.b6 0
              clear hx hin hll
              have hlo := HF.out.lo
              have hlt6 := blk_lt HF.out.b6
              go_wp2_with ((with_reducible refine gate_builtin (b := .append) (xs := #[.tmp 64, .tmp 68]) rfl ?_); at_builtin; refine print_append_cells (w0 := wr) (w3.heap.size + 1) rfl (.tmp 64) (.tmp 68) 45 46 (.agg #[.int .i64 0, .int .i64 0]) 2 16 rfl Try.underlying45 inf46 rfl (by decide) (by decide) (.slice A6 l.length c6) l.length (cellsP l) [.int .i64 (i : Int), .int .i64 (j : Int)] rfl rfl rfl (by simp [Value.oneCell']) ?aO ?aB ?aS ?aL ?_; (case aO => exact HF.out.o6); (case aB => exact Below.refl _ _); (case aS => omega); (case aL => exact HLL.out); intro v1 w1 ho1 hb1 hg1 hat1; obtain ⟨A7, c7, hv1⟩ := own_slice ho1; subst hv1; have f5 : w1.cell? ⟨w3.heap.size, 0, none⟩ = some (.slice A6 l.length c6) := blk_cell ((hb1.block _ (by omega)).trans HF.out.b6) 0; have f6 : w1.frozen? ⟨w3.heap.size, 0, none⟩ = false := blk_frozen ((hb1.block _ (by omega)).trans HF.out.b6) 0; have HP := Aside0.mk (HF.out.push ((i : Int), (j : Int)) _ ho1 hb1); clear ho1 hb1 hg1 hat1)
              go_roundw
              case rel =>
                have e : (l ++ [((i : Int), (j : Int))]).length = l.length + 1 := by simp
                refine ⟨k + 1, A7, c7, l ++ [((i : Int), (j : Int))], by go_num, by omega, ⟨?_⟩, ⟨?_⟩⟩
                · rw [e]
                  exact HP.out
                · have h := HX.out
                  rw [List.cons_append, ← List.singleton_append, ← List.append_assoc] at h
                  exact h
              case measure => simp only [intOf]; omega
            · have hno : isN n t = false := by simpa using hin
              rw [if_neg hin] at hx
              have HX := Aside0.mk hx
              clear hx hin
              by_cases ht0 : 0 ≤ t
              · have ht1 : decide (t < (n : Int)) = false := by
                  unfold isN at hno
                  rw [decide_eq_true ht0, Bool.true_and] at hno
                  exact hno
                clear hno
                go_wp2_with fail
                go_roundw
                case rel => exact ⟨k + 1, A6, c6, l, by go_num, by omega, HF, HX⟩
                case measure => simp only [intOf]; omega
              · have ht1 : decide (0 ≤ t) = false := decide_eq_false ht0
                clear hno
                go_wp2_with fail
                go_roundw
                case rel => exact ⟨k + 1, A6, c6, l, by go_num, by omega, HF, HX⟩
                case measure => simp only [intOf]; omega
          · have hk1 : ¬ (k : Int) < (nl.length : Int) := by omega
            have hx := HX.out
            rw [List.drop_eq_nil_of_le (by omega), rowP, List.nil_append] at hx
            have HX2 := Aside0.mk hx
            clear hx HX
            go_wp2_with fail
            go_roundw
            case rel => exact ⟨i + 1, A6, c6, l, by go_num, by omega, HF, HX2⟩
            case measure => simp only [intOf]; omega
      · have hi1 : ¬ (i : Int) < (n : Int) := by omega
        have hx := HX.out
        rw [show n - i = 0 by omega, behR, List.append_nil] at hx
        subst hx
        clear HX
        go_wp2_with fail
        obtain ⟨W6, hW6⟩ : ∃ W6, wr.alloc (.cells #[.int .i64 0] 3) = W6 := ⟨_, rfl⟩
        have hF6 : FB w W6 w3.heap.size n c0 A0 stop (.slice A6 xs.length c6) xs := by rw [← hW6]; exact HF.out.below (below_alloc (Below.refl _ wr) _)
        have b10 : W6.heap[wr.heap.size]? = some (.cells #[.int .i64 0] 3 (0, 0)) := by rw [← hW6]; exact blk_new wr _
        have hz6 : W6.heap.size = wr.heap.size + 1 := by rw [← hW6, World.size_alloc]
        rw [hW6]
        obtain ⟨we, rfl⟩ : ∃ we : World, we = wr := ⟨_, rfl⟩
        have HF6 := Aside0.mk hF6
        have B10 := Aside0.mk b10
        have HZ6 := Aside0.mk hz6
        have H36 := Aside0.mk (show w3.heap.size < we.heap.size from blk_lt HF.out.b6)
        have H6B := Aside0.mk (fun k (h : (Value.slice A6 xs.length c6).ownBlock = some k) => own_lt HF.out.o6 k h)
        clear hF6 b10 hz6 hW6 HF
        refine (wpIn_wide (n := 4)).1 ?_
        refine wpIn_rangeFunc_ownH rfl (by omega) (gf := 44) (lb := #[.pointer (some ⟨w.heap.size + 2, 0, none⟩)]) rfl trivial (enters_of Try.func44 (by kernel_rfl) rfl)
          (beh_stops (4 - 1) (by omega) (w.heap.size + 2) l0 n HN.out hmx A0 c0 hc0 xs HXS.out w HR0.out W6 HF6.out.hb HF6.out.bs) (fun h k => KeepBox.t h k) (fun W l o o' => KeepBox.b (by have := HF6.out.hb.size; omega) (by have := HZ6.out; have := H36.out; have := HF6.out.lo; omega) W l o o') (Below.refl _ _) (fun _ => rfl)
          (I1 w w3.heap.size we.heap.size n c0 A0 stop (.slice A6 xs.length c6) xs) (X1 xs) (I1.kept _ _ _ _ _ _ _ _ _ (by have := HF6.out.hb.size; omega)) (fun _ _ _ _ _ hs _ _ => hs) ⟨HF6.out, B10.out, List.nil_prefix⟩
          (fun x a' W => a' = { tmps := #[.slice A0 n c0, .int .i64 stop, undef, .pointer (some ⟨w.heap.size, 0, none⟩), .pointer (some ⟨w.heap.size + 1, 0, none⟩), .func (.func 44) #[] #[.pointer (some ⟨w.heap.size + 2, 0, none⟩)], .pointer (some ⟨w3.heap.size, 0, none⟩), .int .i64 i, u8, u9, .pointer (some ⟨we.heap.size, 0, none⟩), .int .i64 x.1.1, .int .i64 x.1.2, undef, .slice A0 n c0, .func (.func 44) #[] #[.pointer (some ⟨w.heap.size + 2, 0, none⟩)], .bool true, .bool false, .bool false, .func (.func 44) #[] #[.pointer (some ⟨w.heap.size + 2, 0, none⟩)], .bool false, .bool false, .bool false, .slice A0 n c0, .int .i64 n, .bool false, .bool false, undef, undef, undef, undef, undef, .int .i64 i, .slice A0 n c0, .int .i64 n, .bool false, u36, u37, u38, u39, u40, u41, u42, u43, u44, u45, u46, u47, u48, u49, u50, u51, u52, u53, u54, u55, u56, u57, u58, u59, u60, u61, u62, u63, u64, u65, u66, u67, u68, u69, .func (.func 44) #[] #[.pointer (some ⟨w.heap.size + 2, 0, none⟩)], .int .i64 x.1.1, .int .i64 x.1.2, undef, undef, undef, undef, undef, undef, undef, undef, undef, undef, undef, undef, undef, undef, undef, undef, undef, undef, undef, undef, undef, undef, undef, undef, undef, undef, undef, undef, undef, undef, undef, undef, undef, undef, undef, undef, undef, undef], defers := [] }) (fun x a' => (by rintro _ W W' row h _ _; exact h)) ?assign ?body ?done ?stop
        case assign =>
          rintro l pre x W K hi hK
          gi_wp2
          exact hK _ _ ((KeepsOthers.refl _).from _) ⟨Below.refl _ _, rfl⟩ hi rfl
        case body =>
          rintro l pre x a' W hl hloop hi rfl hlt
          rcases x with ⟨⟨p, q⟩, hp⟩
          dsimp only
          obtain ⟨⟨a, b⟩, hab⟩ : ∃ y, xs[pre.length]? = some y := ⟨_, List.getElem?_eq_getElem hlt⟩
          obtain ⟨g6, cap6, e6, hg6, _⟩ := own_block_slice hi.1.o6 (by omega)
          simp only [Value.slice.injEq, true_and] at e6
          obtain ⟨rfl, rfl⟩ := e6
          obtain ⟨ka, kb⟩ := hi.1.at_ pre.length (a, b) hab
          dsimp only at ka kb
          have k10 : W.cell? ⟨we.heap.size, 0, none⟩ = some (.int .i64 (pre.length : Int)) := blk_cell hi.2.1 0
          have f10 : W.frozen? ⟨we.heap.size, 0, none⟩ = false := blk_frozen hi.2.1 0
          have k6 : W.cell? ⟨w3.heap.size, 0, none⟩ = some (.slice (some ⟨g6, 0, none⟩) xs.length c6) := blk_cell hi.1.b6 0
          have k4 : W.cell? ⟨w.heap.size + 1, 0, none⟩ = some (.bool false) := blk_cell hi.1.b4 0
          have f4 : W.frozen? ⟨w.heap.size + 1, 0, none⟩ = false := blk_frozen hi.1.b4 0
          obtain ⟨k, hk⟩ : ∃ k, pre.length = k := ⟨_, rfl⟩
          rw [hk] at ka kb k10 hlt hab
          have hkb : k ≤ 1000000000000 := by omega
          have hk1 : (k : Int) < (xs.length : Int) := by omega
          have HI := Aside0.mk hi
          have HK := Aside0.mk hk
          have HAB := Aside0.mk hab
          have HLT := Aside0.mk (And.intro hlt hl)
          clear hi hk hab hlt hl hloop
          have hne46 : some we.heap.size ≠ (Value.slice (some ⟨g6, 0, none⟩) xs.length c6).ownBlock := fun e => by have := H6B.out _ e.symm; omega
          have HN6 := Aside0.mk hne46
          clear hne46
          by_cases heq : a = p ∧ b = q
          · obtain ⟨rfl, rfl⟩ := heq
            gi_wp2
            refine ⟨(KeepsOthers.setCell W ⟨we.heap.size, 0, none⟩ _).from _, ⟨Below.setCell (p := ⟨we.heap.size, 0, none⟩) (Below.refl _ W) (by have := H36.out; have := HS.out; show w.heap.size ≤ we.heap.size; omega) _, Below.heap_setCell W ⟨we.heap.size, 0, none⟩ _ (w.heap.size + 2) (by have := H36.out; have := HS.out; show w.heap.size + 2 ≠ we.heap.size; omega)⟩, HI.out.1.other we.heap.size _ H36.out HN6.out, ?_, ?_⟩
            · have := blk_set HI.out.2.1 0 (.int .i64 ((k : Int) + 1))
              rw [List.length_append, List.length_singleton, HK.out]
              rw [show (((k + 1 : Nat)) : Int) = (k : Int) + 1 by omega]
              simpa using this
            · exact next_pre pre k HK.out (a, b) hp HI.out.2.2 HAB.out
          · have hdq : decide (a = p ∧ b = q) = false := decide_eq_false heq
            have HNE := Aside0.mk heq
            clear heq
            gi_wp2
            refine ⟨(KeepsOthers.setCell W ⟨w.heap.size + 1, 0, none⟩ _).from _, ?_⟩
            exact next_ne pre k HK.out (p, q) (a, b) hp HAB.out (fun e => HNE.out (by simp only [Prod.mk.injEq] at e; exact e))
        case done =>
          rintro D ys W hD hys hi hK
          have e1 : ys.length = xs.length := by have := congrArg List.length hys; rw [List.length_map] at this; exact this
          have hi1 := hi.1
          have b10 := hi.2.1
          rw [e1] at b10
          have k10 : W.cell? ⟨we.heap.size, 0, none⟩ = some (.int .i64 (xs.length : Int)) := blk_cell b10 0
          have k6 : W.cell? ⟨w3.heap.size, 0, none⟩ = some (.slice A6 xs.length c6) := blk_cell hi1.b6 0
          have HF := Aside0.mk hi1
          have HB10 := Aside0.mk b10
          have HK := Aside0.mk hK
          have HD := Aside0.mk hD
          clear hi hi1 b10 hK hD e1 hys
          dsimp only
          gi_wp2
          go_wp2_with fail
          obtain ⟨W8, hW8⟩ : ∃ W8, W.alloc (.cells #[.int .i64 0] 3) = W8 := ⟨_, rfl⟩
          have hF8 : FB w W8 w3.heap.size n c0 A0 stop (.slice A6 xs.length c6) xs := by rw [← hW8]; exact HF.out.below (below_alloc (Below.refl _ W) _)
          have b10 : W8.heap[we.heap.size]? = some (.cells #[.int .i64 (xs.length : Int)] 3 (0, 0)) := by rw [← hW8]; exact blk_alloc HB10.out _
          have b13 : W8.heap[W.heap.size]? = some (.cells #[.int .i64 0] 3 (0, 0)) := by rw [← hW8]; exact blk_new W _
          have bD : W8.heap[D]? = some (.deferred (some [])) := by rw [← hW8]; exact blk_alloc HK.out _
          have hz8 : W8.heap.size = W.heap.size + 1 := by rw [← hW8, World.size_alloc]
          rw [hW8]
          have hDW : D < W.heap.size := (Array.getElem?_eq_some_iff.1 HK.out).1
          have HWE := Aside0.mk (show we.heap.size < W.heap.size from blk_lt HB10.out)
          have H13 := Aside0.mk (show some W.heap.size ≠ (Value.slice A6 xs.length c6).ownBlock from fun e => by have := own_lt HF.out.o6 _ e.symm; omega)
          have HF8 := Aside0.mk hF8
          have HI0 := Aside0.mk (show I3 w w3.heap.size we.heap.size W.heap.size D n c0 A0 stop (.slice A6 xs.length c6) xs [] W8 from ⟨⟨hF8, b10, b13⟩, bD⟩)
          have HZ8 := Aside0.mk hz8
          have HDW := Aside0.mk hDW
          have HWW := Aside0.mk (show w.heap.size + 1 < D by have := HD.out; have := HZ6.out; have := H36.out; have := HS.out; omega)
          clear k10 k6 hF8 b10 b13 bD hz8 hDW hW8 HF HB10 HK
          refine (wpIn_wide (n := 4)).1 ?_
          refine wpIn_rangeFunc_ownH rfl (by omega) (gf := 44) (lb := #[.pointer (some ⟨w.heap.size + 2, 0, none⟩)]) rfl trivial (enters_of Try.func44 (by kernel_rfl) rfl)
            (beh_stops (4 - 1) (by omega) (w.heap.size + 2) l0 n HN.out hmx A0 c0 hc0 xs HXS.out w HR0.out W8 HF8.out.hb HF8.out.bs) (fun h k => KeepBox.t h k) (fun W' l o o' => KeepBox.b (by have := HF8.out.hb.size; omega) (by have := HZ8.out; have := HWW.out; have := HDW.out; omega) W' l o o') (Below.refl _ _) (fun _ => rfl)
            (I3 w w3.heap.size we.heap.size W.heap.size D n c0 A0 stop (.slice A6 xs.length c6) xs) (X3 w w3.heap.size we.heap.size W.heap.size D n c0 A0 stop (.slice A6 xs.length c6) xs)
            (I3.kept _ _ _ _ _ _ _ _ _ _ _ (by have := HF8.out.hb.size; omega) (by have := HZ8.out; have := HDW.out; omega)) (fun c => X3.kept _ _ _ _ _ _ _ _ _ _ _ (by have := HF8.out.hb.size; omega) (by have := HZ8.out; have := HDW.out; omega) c) HI0.out
            (fun x a' _ => a' = { tmps := #[.slice A0 n c0, .int .i64 stop, undef, .pointer (some ⟨w.heap.size, 0, none⟩), .pointer (some ⟨w.heap.size + 1, 0, none⟩), .func (.func 44) #[] #[.pointer (some ⟨w.heap.size + 2, 0, none⟩)], .pointer (some ⟨w3.heap.size, 0, none⟩), .int .i64 i, u8, u9, .pointer (some ⟨we.heap.size, 0, none⟩), undef, undef, .pointer (some ⟨W.heap.size, 0, none⟩), .slice A0 n c0, .func (.func 44) #[] #[.pointer (some ⟨w.heap.size + 2, 0, none⟩)], .bool true, .bool false, .bool false, .func (.func 44) #[] #[.pointer (some ⟨w.heap.size + 2, 0, none⟩)], .bool false, .bool false, .bool false, .slice A0 n c0, .int .i64 n, .bool false, .bool false, undef, undef, undef, undef, undef, .int .i64 i, .slice A0 n c0, .int .i64 n, .bool false, u36, u37, u38, u39, u40, u41, u42, u43, u44, u45, u46, u47, u48, u49, u50, u51, u52, u53, u54, u55, u56, u57, u58, u59, u60, u61, u62, u63, u64, u65, u66, u67, u68, u69, .func (.func 44) #[] #[.pointer (some ⟨w.heap.size + 2, 0, none⟩)], undef, undef, undef, undef, undef, undef, undef, undef, undef, undef, undef, undef, undef, undef, undef, undef, undef, undef, .func (.func 44) #[] #[.pointer (some ⟨w.heap.size + 2, 0, none⟩)], .int .i64 x.1.1, .int .i64 x.1.2, undef, undef, undef, undef, undef, undef, undef, undef, undef, undef, undef, undef, undef, undef, undef, undef, undef, undef, undef], defers := [] }) (fun x a' => (by rintro _ W W' row h _ _; exact h)) ?assign2 ?body2 ?done2 ?stop2
          case assign2 =>
            rintro l pre x W' K hi hK
            gi_wp2
            exact hK _ _ ((KeepsOthers.refl _).from _) ⟨Below.refl _ _, rfl⟩ hi rfl
          case body2 =>
            rintro l pre x a' W' hl hloop hi rfl hlt
            dsimp only
            have k13 : W'.cell? ⟨W.heap.size, 0, none⟩ = some (.int .i64 (pre.length : Int)) := blk_cell hi.1.2.2 0
            have f13 : W'.frozen? ⟨W.heap.size, 0, none⟩ = false := blk_frozen hi.1.2.2 0
            have k3 : W'.cell? ⟨w.heap.size, 0, none⟩ = some (.int .i64 stop) := blk_cell hi.1.1.b3 0
            obtain ⟨k, hk⟩ : ∃ k, pre.length = k := ⟨_, rfl⟩
            rw [hk] at k13 hlt
            have hkb : k ≤ 1000000000000 := by omega
            have hnx := hi.next x k hk (by have := H36.out; omega) HWE.out H13.out HDW.out
            have hkp : KeepBox w.heap.size (w.heap.size + 2) W' (W'.setCell ⟨W.heap.size, 0, none⟩ (.int .i64 ((k : Int) + 1))) := ⟨Below.setCell (p := ⟨W.heap.size, 0, none⟩) (Below.refl _ W') (by have := HWW.out; have := HDW.out; show w.heap.size ≤ W.heap.size; omega) _, Below.heap_setCell W' ⟨W.heap.size, 0, none⟩ _ (w.heap.size + 2) (by have := H36.out; have := HS.out; have := HWE.out; show w.heap.size + 2 ≠ W.heap.size; omega)⟩
            have q13 : (W'.setCell ⟨W.heap.size, 0, none⟩ (.int .i64 ((k : Int) + 1))).cell? ⟨W.heap.size, 0, none⟩ = some (.int .i64 ((k : Int) + 1)) := by
              have e := blk_cell hnx.1.2.2 0
              rw [List.length_append, List.length_singleton, hk] at e
              exact e.trans (by simp)
            have q3 : (W'.setCell ⟨W.heap.size, 0, none⟩ (.int .i64 ((k : Int) + 1))).cell? ⟨w.heap.size, 0, none⟩ = some (.int .i64 stop) := blk_cell hnx.1.1.b3 0
            have HNX := Aside0.mk hnx
            have HKP := Aside0.mk hkp
            have HK := Aside0.mk hk
            clear hi hk hl hloop hnx hkp
            by_cases hst : (k : Int) + 1 = stop
            · have hs1 : ((k : Int) + 1 == stop) = true := by simpa using hst
              have hs2 : decide ((k : Int) + 1 = stop) = true := by simpa using hst
              have HST := Aside0.mk hst
              clear hst
              gi_wp2
              refine ⟨(KeepsOthers.setCell W' ⟨W.heap.size, 0, none⟩ _).from _, HNX.out, ?_, rfl⟩
              rw [List.length_append, List.length_singleton, HK.out]
              have := HST.out
              omega
            · have hs1 : ((k : Int) + 1 == stop) = false := by simpa using hst
              have hs2 : decide ((k : Int) + 1 = stop) = false := by simpa using hst
              clear hst
              gi_wp2
              exact ⟨(KeepsOthers.setCell W' ⟨W.heap.size, 0, none⟩ _).from _, HKP.out, HNX.out⟩
          case done2 =>
            rintro D2 ys W2 hD2 hys hi hK2
            have e1 : ys.length = xs.length := by have := congrArg List.length hys; rw [List.length_map] at this; exact this
            have b13 := hi.1.2.2
            rw [e1] at b13
            have k13 : W2.cell? ⟨W.heap.size, 0, none⟩ = some (.int .i64 (xs.length : Int)) := blk_cell b13 0
            have k10 : W2.cell? ⟨we.heap.size, 0, none⟩ = some (.int .i64 (xs.length : Int)) := blk_cell hi.1.2.1 0
            have k6 : W2.cell? ⟨w3.heap.size, 0, none⟩ = some (.slice A6 xs.length c6) := blk_cell hi.1.1.b6 0
            have f4 : W2.frozen? ⟨w.heap.size + 1, 0, none⟩ = false := blk_frozen hi.1.1.b4 0
            have k4 : W2.cell? ⟨w.heap.size + 1, 0, none⟩ = some (.bool false) := blk_cell hi.1.1.b4 0
            have HEND := Aside0.mk (beh_end hi.1.1 hi.2 hK2 HWW.out (by have := HDW.out; have := HZ8.out; omega))
            clear hi hK2 hD2 hys e1 b13
            dsimp only
            gi_wp2
            go_wp2_with fail
            refine ⟨by simp, .inl ⟨_, _, rfl, run_takeDeferred HEND.out.1, ?_⟩⟩
            refine ⟨by simp, .inl ⟨_, _, rfl, run_takeDeferred HEND.out.2.1, ?_⟩⟩
            have f5 := HEND.out.2.2.1
            refine ⟨.bool true, ?_, rfl, HEND.out.2.2.2⟩
            simp [results, Try.f6, go_sem, f5]
          case stop2 =>
            rintro D2 c pre W2 hD2 hp hX hK2
            obtain ⟨hi, hst, rfl⟩ := hX
            have b13 := hi.1.2.2
            rw [hst] at b13
            have k13 : W2.cell? ⟨W.heap.size, 0, none⟩ = some (.int .i64 stop) := blk_cell b13 0
            have k10 : W2.cell? ⟨we.heap.size, 0, none⟩ = some (.int .i64 (xs.length : Int)) := blk_cell hi.1.2.1 0
            have k6 : W2.cell? ⟨w3.heap.size, 0, none⟩ = some (.slice A6 xs.length c6) := blk_cell hi.1.1.b6 0
            have k3 : W2.cell? ⟨w.heap.size, 0, none⟩ = some (.int .i64 stop) := blk_cell hi.1.1.b3 0
            have f4 : W2.frozen? ⟨w.heap.size + 1, 0, none⟩ = false := blk_frozen hi.1.1.b4 0
            have k4 : W2.cell? ⟨w.heap.size + 1, 0, none⟩ = some (.bool false) := blk_cell hi.1.1.b4 0
            have HEND := Aside0.mk (beh_end hi.1.1 hi.2 hK2 HWW.out (by have := HDW.out; have := HZ8.out; omega))
            clear hi hK2 hD2 hp hst b13
            by_cases hq : stop = (xs.length : Int)
            · have hq1 : (stop == (xs.length : Int)) = true := by simpa using hq
              have hq2 : decide (stop = (xs.length : Int)) = true := by simpa using hq
              clear hq
              dsimp only
              gi_wp2
              go_wp2_with fail
              refine ⟨by simp, .inl ⟨_, _, rfl, run_takeDeferred HEND.out.1, ?_⟩⟩
              refine ⟨by simp, .inl ⟨_, _, rfl, run_takeDeferred HEND.out.2.1, ?_⟩⟩
              have f5 := HEND.out.2.2.1
              refine ⟨.bool true, ?_, rfl, HEND.out.2.2.2⟩
              simp [results, Try.f6, go_sem, f5]
            · have hq1 : (stop == (xs.length : Int)) = false := by simpa using hq
              have hq2 : decide (stop = (xs.length : Int)) = false := by simpa using hq
              clear hq
              dsimp only
              gi_wp2
              go_wp2_with fail
              refine ⟨by simp, .inl ⟨_, _, rfl, run_takeDeferred HEND.out.1, ?_⟩⟩
              refine ⟨by simp, .inl ⟨_, _, rfl, run_takeDeferred HEND.out.2.1, ?_⟩⟩
              have f5 := HEND.out.2.2.1
              refine ⟨.bool true, ?_, rfl, HEND.out.2.2.2⟩
              simp [results, Try.f6, go_sem, f5]
        case stop =>
          rintro D c pre W _ hp h _
          exact absurd hp h
theorem pianolalaw08_FlowBehind.calls (A0 : Option Addr) (c0 : Nat) (l0 : List S30) (a1 : Int) (r : Bool) (w : World) (hr0 : Kd.C k30 w A0 l0.length l0) (hc0 : l0.length ≤ c0) (h : pianolalaw08_FlowBehind.f l0 a1 = some r) :
    Calls Try.prog 6 #[.slice A0 l0.length c0, .int .i64 a1] w fun e w' => e = .returned (.bool r) ∧ Below w.heap.size w w' := by
  unfold pianolalaw08_FlowBehind.f at h
  split at h
  · rename_i hb
    obtain rfl := Option.some.inj h
    exact behind_walk A0 c0 l0 a1 l0.length rfl w hr0 hc0 hb.1 hb.2
  · exact absurd h (by simp)

end Go.Proofs.Ytpfbfnbffglbkaa.P
