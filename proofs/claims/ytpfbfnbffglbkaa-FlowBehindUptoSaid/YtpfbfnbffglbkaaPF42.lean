/- Ytpfbfnbffglbkaa: what Go functions come to, and that they do: walks, printed by a program of this session or typed by hand; no statement of the seat stands here. -/
import Derived.Test.YtpfbfnbffglbkaaP0
import Derived.Test.YtpfbfnbffglbkaaPF56
import Derived.Test.YtpfbfnbffglbkaaPF51
import Derived.Deep.RegionLaw
import Derived.Laws.CopyOwn
import Derived.Test.YtpfbfnbffglbkaaPF51
namespace Go.Proofs.Ytpfbfnbffglbkaa.P
open Go.RowKit Go.Proofs.YtpfbfnbffglbkaaW.PrintWords Go.Proofs.YtpfbfnbffglbkaaW.PrintLast Go.Proofs.YtpfbfnbffglbkaaW.PrintMore
attribute [local go_sem] max2_int min2_int max_two min_two max_three min_three max_four min_four   -- for this text's walks alone
set_option linter.unusedVariables false
set_option linter.unusedSimpArgs false


/-! ### slices_Repeat_int_int: function 42 -/
-- IMPORT Derived.Laws.CopyOwn
-- IMPORT Derived.Deep.RegionLaw
-- IMPORT Derived.Test.YtpfbfnbffglbkaaPF51
def slices_Repeat_int_int.f (l0 : List Int) (a1 : Int) : Option (List Int) := if l0.length = 1 ∧ 0 ≤ a1 ∧ a1 ≤ 4000000000000 then some (List.replicate a1.toNat (rd l0 0)) else none
theorem mul_one (n : Int) (h0 : 0 ≤ n) (h1 : n ≤ 4000000000000) : bits_Mul.f 1 n = some (0, n) := by
  have hm : Go.bits .and .u64 n 4294967295 = n % 4294967296 := bits_mask .u64 64 (by decide) (fun n h0 h1 => by rw [IntKind.wrap_u64]; omega) 32 (by decide) n h0 (by omega)
  have h4 : Go.bits .and .u64 1 4294967295 = 1 := by decide +kernel
  have hw : ∀ x : Int, 0 ≤ x → x < 18446744073709551616 → IntKind.u64.wrap x = x := fun x h0 h1 => by rw [IntKind.wrap_u64]; omega
  unfold bits_Mul.f bits_Mul64.f
  rw [Option.bind_some, hm, h4, show (1 : Int) / 4294967296 = 0 by decide]
  have q : n / 4294967296 < 4294967296 := by omega
  have q0 : 0 ≤ n / 4294967296 := by omega
  have r0 : 0 ≤ n % 4294967296 := by omega
  have r1 : n % 4294967296 < 4294967296 := by omega
  have z1 : Go.bits .and .u64 0 4294967295 = 0 := by decide +kernel
  simp only [Int.zero_mul, Int.one_mul]
  generalize hN : n % 4294967296 = N at r0 r1 ⊢
  generalize hM : n / 4294967296 = M at q q0 ⊢
  have w1 : IntKind.u64.wrap 0 = 0 := by decide +kernel
  have w2 : IntKind.u64.wrap N = N := hw _ r0 (by omega)
  have w3 : IntKind.u64.wrap M = M := hw _ q0 (by omega)
  have d1 : N / 4294967296 = 0 := by omega
  have d2 : M / 4294967296 = 0 := by omega
  have d0 : (0 : Int) / 4294967296 = 0 := by decide
  simp only [w1, w2, w3, d1, d2, d0, z1, Int.zero_add, Int.add_zero, hw n h0 (by omega)]
def rowR (y : Int) (n k : Nat) : List Value := nums .i64 (List.replicate k y ++ List.replicate (n - k) 0)
theorem rowR_len (y : Int) (n k : Nat) (h : k ≤ n) : (rowR y n k).length = n := by unfold rowR; rw [nums_length, List.length_append, List.length_replicate, List.length_replicate]; omega
theorem rowR_splice (y : Int) (n k m : Nat) (h : k + m ≤ n) : splice (rowR y n k) k (nums .i64 (List.replicate m y)) = rowR y n (k + m) := by
  unfold splice rowR
  rw [nums_append, nums_append]
  have hk : (nums .i64 (List.replicate k y)).length = k := by rw [nums_length, List.length_replicate]
  rw [List.take_append_of_le_length (by omega), List.take_of_length_le (by omega), nums_length, List.length_replicate, List.drop_append, List.drop_eq_nil_of_le (by omega), List.nil_append, hk]
  rw [show nums .i64 (List.replicate (k + m) y) = nums .i64 (List.replicate k y) ++ nums .i64 (List.replicate m y) by rw [← nums_append, List.replicate_append_replicate]]
  rw [List.append_assoc]
  congr 2
  unfold nums
  rw [List.map_replicate, List.map_replicate, List.drop_replicate]
  congr 1
  omega
theorem add_plain' (g j : Nat) : (⟨g, 0, none⟩ : Addr).add j = ⟨g, 0 + j, none⟩ := by rw [Nat.zero_add]; exact add_plain g j
def RepP (w : World) (r : List Int) (e : Ending) (w' : World) : Prop := ∃ v0_ : Value, e = .returned v0_ ∧ Kd.R (Kd.int .i64) 3 w' w.heap.size (fun _ => True) v0_ r ∧ Below w.heap.size w w'
set_option maxRecDepth 100000 in
set_option maxHeartbeats 1000000 in
theorem repeat_walk (A0 : Option Addr) (c0 : Nat) (y : Int) (n : Nat) (w : World) (hr0 : Kd.C (Kd.int .i64) w A0 1 [y]) (hc0 : 1 ≤ c0) (hn : n ≤ 4000000000000) :
    Calls Try.prog 42 #[.slice A0 1 c0, .int .i64 n] w (RepP w (List.replicate n y)) := by
  have HR0 := Aside0.mk hr0
  have HM := Aside0.mk (mul_one n (by omega) (by omega))
  have hmk := print_make (P := Try.prog) 23 3 .i64 8 Try.underlying23 info3 (by decide) n (by omega)
  have hn0 : ¬ (n : Int) < 0 := by omega
  have hn1 : ¬ (n : Int) > 9223372036854775807 := by omega
  have hn2 : decide ((9223372036854775807 : Int) < (n : Int)) = false := decide_eq_false (by omega)
  have hn3 : decide ((n : Int) < 0) = false := decide_eq_false (by omega)
  clear hr0
  go_enter Try.func42, Try.ntmps42
  go_wp2_with fail
  refine (bits_Mul.calls 1 (n : Int) 0 (n : Int) w HM.out).mono ?_
  rintro e w1 ⟨rfl, hd⟩
  obtain ⟨m1, rfl⟩ := hd.out
  clear hd
  have e1 : madeCells #[Value.int .i64 0] n = (nums .i64 (List.replicate n 0)).toArray := by
    apply Array.ext'
    show (madeCells #[Value.int .i64 0] n).toList = nums .i64 (List.replicate n 0)
    rw [toList_madeCells_one]
    unfold nums
    rw [List.map_replicate]
  have hblk : ((w.drewN m1).alloc (.cells (madeCells #[Value.int .i64 0] n) 3)).heap[w.heap.size]? = some (.cells (nums .i64 (List.replicate n 0)).toArray 3 (0, 0)) := by
    have := blk_new (w.drewN m1) (.cells (madeCells #[Value.int .i64 0] n) 3)
    rw [e1] at this ⊢
    exact this
  have HBLK := Aside0.mk hblk
  have HB1 := Aside0.mk (show Below w.heap.size w ((w.drewN m1).alloc (.cells (madeCells #[Value.int .i64 0] n) 3)) from below_alloc (pw_below_drewN (Below.refl _ w) m1) _)
  obtain ⟨ad, rfl, hcc⟩ := Kd.at_int HR0.out 0 (by omega) (by omega)
  have HC := Aside0.mk hcc
  clear e1 hblk hcc
  obtain ⟨Z, hZ⟩ : ∃ Z, Z = nums .i64 (List.replicate n 0) := ⟨_, rfl⟩
  obtain ⟨X, hX⟩ : ∃ X, X = nums .i64 (List.replicate (min 1 n) y) := ⟨_, rfl⟩
  have hxl : X.length = min 1 n := by rw [hX, nums_length, List.length_replicate]
  have hzl : Z.length = n := by rw [hZ, nums_length, List.length_replicate]
  have hx1 : ∀ v ∈ X, v.oneCell' = true := by
    intro v hv
    rw [hX] at hv
    unfold nums at hv
    obtain ⟨u, _, rfl⟩ := List.mem_map.1 hv
    rfl
  have hsrc : ∀ (W : World), Below w.heap.size w W → ∀ j v, X[j]? = some v → W.cell? (ad.add j) = some v := by
    intro W hb j v hj
    rw [hX] at hj
    unfold nums at hj
    rw [List.getElem?_map, List.getElem?_replicate] at hj
    split at hj
    · rename_i hlt
      obtain rfl : j = 0 := by omega
      have : v = .int .i64 y := by simpa using hj.symm
      rw [this]
      exact pw_cell_below hb HC.out
    · simp at hj
  rw [← hZ] at HBLK
  have HZ := Aside0.mk hZ
  have HX := Aside0.mk hX
  have HXL := Aside0.mk hxl
  have HZL := Aside0.mk hzl
  have HX1 := Aside0.mk hx1
  have HSRC := Aside0.mk hsrc
  clear hZ hX hxl hzl hx1 hsrc
  go_wp2_with ((with_reducible refine gate_builtin (b := .copy) (xs := #[.tmp 31, .tmp 32]) rfl ?_); refine wpList_copy_splice rfl (.tmp 31) (.tmp 32) 23 23 rfl 3 Try.underlying23 (by kernel_rfl) (some ⟨w.heap.size, 0, none⟩) (some ad) n n 1 c0 rfl rfl w.heap.size 0 Z 3 HBLK.out X ?cn ?cp ?cf ?c1 w.heap.size w HB1.out (Nat.le_refl _) ?_; (case cn => exact HXL.out); (case cp => exact fun _ => ⟨rfl, ad, rfl, HSRC.out _ HB1.out⟩); (case cf => have := HXL.out; have := HZL.out; omega); (case c1 => exact HX1.out); intro w2 hg2 hb2)
  have hg2' : w2.heap[w.heap.size]? = some (.cells (rowR y n (min 1 n)).toArray 3 (0, 0)) := by
    have h := hg2.out
    have hz : Z = rowR y n 0 := by rw [HZ.out]; unfold rowR; rw [List.replicate_zero, List.nil_append, Nat.sub_zero]
    rw [hz, HX.out, rowR_splice y n 0 (min 1 n) (by omega), Nat.zero_add] at h
    exact h
  have HG2 := Aside0.mk hg2'
  have HB2 := Aside0.mk hb2
  clear hg2 hb2 hg2'
  go_loopw [8] (fun v8 wr => ∃ k : Nat, v8 = .int .i64 k ∧ k ≤ n ∧ (0 < n → 1 ≤ k) ∧ Hid (wr.heap[w.heap.size]? = some (.cells (rowR y n k).toArray 3 (0, 0))) ∧ Below w.heap.size w wr) (fun v8 _ => n - (intOf v8).toNat)
  case atStart => exact ⟨min 1 n, by rw [HXL.out], by omega, by omega, HG2.out, HB2.out⟩
  case round =>
    obtain ⟨k, rfl, hk, hk1, hg, hb⟩ := hrel
    have HG := Aside0.mk hg.out
    have HB := Aside0.mk hb
    have HK := Aside0.mk hk1
    clear hg hb hk1
    by_cases hlt : k < n
    · have hk1 : 1 ≤ k := HK.out (by omega)
      have hi1 : (k : Int) < (n : Int) := by omega
      have hi0 : (0 : Int) ≤ (k : Int) := by omega
      have hne : ¬ n = k := by omega
      go_upto_region 9 with (fail)
      obtain ⟨m, hm⟩ : ∃ m, m = min k (n - k) := ⟨_, rfl⟩
      obtain ⟨Y, hY⟩ : ∃ Y, Y = nums .i64 (List.replicate m y) := ⟨_, rfl⟩
      have hyl : Y.length = m := by rw [hY, nums_length, List.length_replicate]
      have hy1 : ∀ v ∈ Y, v.oneCell' = true := by
        intro v hv
        rw [hY] at hv
        unfold nums at hv
        obtain ⟨u, _, rfl⟩ := List.mem_map.1 hv
        rfl
      have hsrc : ∀ j v, Y[j]? = some v → (rowR y n k).toArray[0 + j]? = some v := by
        intro j v hj
        rw [hY] at hj
        unfold nums at hj
        rw [List.getElem?_map, List.getElem?_replicate] at hj
        split at hj
        · rename_i hlt
          rw [Nat.zero_add]
          unfold rowR nums
          rw [List.getElem?_toArray, List.getElem?_map, List.getElem?_append_left (by rw [List.length_replicate]; omega), List.getElem?_replicate, if_pos (by omega)]
          exact hj
        · simp at hj
      have HM2 := Aside0.mk hm
      have HY := Aside0.mk hY
      have HYL := Aside0.mk hyl
      have HY1 := Aside0.mk hy1
      have HSR := Aside0.mk hsrc
      have hyb : (Y.length : Int) ≤ (n : Int) - (k : Int) := by omega
      clear hm hY hyl hy1 hsrc
      have hwk : IntKind.i64.wrap ((k : Int) + (Y.length : Int)) = (k : Int) + (Y.length : Int) := by rw [IntKind.wrap_i64]; omega
      go_region_law (refine step_copy_splice rfl (.tmp 41) (.tmp 44) 23 23 rfl 3 Try.underlying23 (by kernel_rfl) (some ⟨w.heap.size, k, none⟩) (some ⟨w.heap.size, 0, none⟩) (n - k) (n - k) k n (by first | (go_simp; done) | (go_simp; rfl)) (by first | (go_simp; done) | (go_simp; rfl)) w.heap.size k (rowR y n k) 3 HG.out Y (by rw [HYL.out, HM2.out]) (fun _ => ⟨rfl, _, rfl, fun j v hj => by rw [add_plain']; exact (blk_cell HG.out _).trans (HSR.out j v hj)⟩) (by rw [rowR_len y n k (by omega)]; omega) HY1.out w.heap.size w (by first | exact HB.out | exact below_drew HB.out | exact pw_below_drewN HB.out _) (Nat.le_refl _) ?_; intro w3 hg3 hb3)
      all_goals (
        simp only [Act.put, List.getElem_toArray, List.getElem_cons_succ, List.getElem_cons_zero, List.setIfInBounds_toArray, List.set_cons_succ, List.set_cons_zero]
        go_roundw
        case rel =>
          have hs := rowR_splice y n k m (by have := HM2.out; omega)
          rw [← HY.out] at hs
          (repeat apply Exists.intro)
          refine ⟨⟨k + m, ?_, ?_, ?_, ?_, hb3⟩, rfl⟩
          · rw [HYL.out]; go_num
          · have := HM2.out; omega
          · have := HM2.out; omega
          · rw [← hs]; exact hg3
        case measure =>
          have h1 := HM2.out
          have h2 := HYL.out
          show n - ((k : Int) + (Y.length : Int)).toNat < n - ((k : Int)).toNat
          omega)
    · have hke : k = n := by omega
      have hi1 : ¬ (k : Int) < (n : Int) := by omega
      have HKE := Aside0.mk hke
      clear hke
      go_wp2_with fail
      go_ret
      refine ⟨_, rfl, ?_, HB.out⟩
      have hg := HG.out
      rw [HKE.out] at hg
      have ho : wr.ownsRow w.heap.size 3 1 (.slice (some ⟨w.heap.size, 0, none⟩) n n) n (nums .i64 (List.replicate n y)) := by
        have e : rowR y n n = nums .i64 (List.replicate n y) := by unfold rowR; rw [Nat.sub_self, List.replicate_zero, List.append_nil]
        rw [e] at hg
        have hl : (nums .i64 (List.replicate n y)).length = n := by rw [nums_length, List.length_replicate]
        exact ⟨by rw [hl, Nat.mul_one], .inr ⟨w.heap.size, n, _, rfl, Nat.le_refl _, hg, Nat.le_refl _, by unfold maxLen; omega, by rw [List.size_toArray, hl, Nat.mul_one], by rw [Nat.mul_one]; show (nums .i64 (List.replicate n y)).take n = _; rw [List.take_of_length_le (by omega)]⟩⟩
      exact Kd.R_of_own (h1 := fun _ => rfl) (by rw [List.length_replicate]; exact ho) (fun _ _ => trivial)
theorem slices_Repeat_int_int.calls (A0 : Option Addr) (c0 : Nat) (l0 : List Int) (a1 : Int) (r : List Int) (w : World) (hr0 : Kd.C (Kd.int .i64) w A0 l0.length l0) (hc0 : l0.length ≤ c0) (h : slices_Repeat_int_int.f l0 a1 = some r) :
    Calls Try.prog 42 #[.slice A0 l0.length c0, .int .i64 a1] w fun e w' => ∃ v0_ : Value, e = .returned v0_ ∧ Kd.R (Kd.int .i64) 3 w' w.heap.size (fun _ => True) v0_ r ∧ Below w.heap.size w w' := by
  unfold slices_Repeat_int_int.f at h
  split at h
  · rename_i hb
    obtain rfl := Option.some.inj h
    obtain ⟨y, rfl⟩ : ∃ y, l0 = [y] := List.length_eq_one_iff.1 hb.1
    obtain ⟨n, rfl⟩ := Int.eq_ofNat_of_zero_le hb.2.1
    exact repeat_walk A0 c0 y n w hr0 hc0 (by omega)
  · exact absurd h (by simp)

end Go.Proofs.Ytpfbfnbffglbkaa.P
