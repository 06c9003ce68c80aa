import Derived.Test.YtjkjpmfenillcaaPF44
import Derived.LoopTactic
import Derived.Test.YtjkjpmfenillcaaCodecM5
import Derived.Test.YtjkjpmfenillcaaWNEv
import Derived.Lib.SlBytesConst
import Derived.Test.YtjkjpmfenillcaaPF37
import Derived.Test.YtjkjpmfenillcaaPF35
import Derived.Test.YtjkjpmfenillcaaInstrAll
import Derived.Test.YtjkjpmfenillcaaPF38
import Derived.Test.YtjkjpmfenillcaaWInvWords
import Derived.Maps.OwnIn
import Derived.RegionTactic
import Derived.BigRegion
import Derived.BigQuiet
/- module.May: whether a module may be; no statement of the seat. -/
set_option linter.unusedVariables false
set_option linter.unusedSimpArgs false
namespace Go.Proofs.Ytjkjpmfenillcaa.P
open Go.RowKit Go.Proofs.YtjkjpmfenillcaaW.PrintWords Go.Proofs.YtjkjpmfenillcaaW.PrintLast Go.Proofs.YtjkjpmfenillcaaW.PrintMore
abbrev FnS := S41
def fnOK (x : FnS) : Bool := decide (0 ≤ x.f0) && decide (x.f0 ≤ 8) && decide (x.f0 ≤ x.f1) && decide (x.f1 ≤ 16) && decide (1 ≤ x.f2.length) && decide (x.f2.length ≤ 4096)
theorem within_is (n a b : Int) : module_within.f n a b = some (decide (a ≤ n) && decide (n ≤ b)) := by
  unfold module_within.f
  by_cases h : n ≥ a
  · rw [if_pos h, decide_eq_true (show a ≤ n from h), Bool.true_and]
  · rw [if_neg h, decide_eq_false (show ¬ a ≤ n from h), Bool.false_and]
theorem wrong_is (x : FnS) : module_wrong.f x.f0 x.f1 x.f2 = some (!fnOK x) := by
  unfold module_wrong.f fnOK
  rw [within_is, within_is, within_is]
  simp only [Option.bind_some]
  cases h1 : (decide (0 ≤ x.f0) && decide (x.f0 ≤ 8))
  · simp
  · simp only [if_true, Bool.true_and]
    cases h2 : (decide (x.f0 ≤ x.f1) && decide (x.f1 ≤ 16))
    · simp [h2]
    · simp only [if_true]
      congr 2
      rw [Bool.true_and]
      congr 1 <;> exact decide_eq_decide.mpr (by omega)
def firstBad : List FnS → Nat → Int
  | [], _ => -1
  | x :: xs, k => if fnOK x = true then firstBad xs (k + 1) else (k : Int)
theorem firstBad_all : ∀ (l : List FnS) (k : Nat), (decide (firstBad l k ≥ 0)) = !(l.all fnOK)
  | [], _ => rfl
  | x :: xs, k => by
    rw [firstBad, List.all_cons]
    by_cases h : fnOK x = true
    · rw [if_pos h, h, Bool.true_and]; exact firstBad_all xs (k + 1)
    · rw [if_neg h]
      have : fnOK x = false := by simpa using h
      rw [this, Bool.false_and, decide_eq_true (by omega)]; rfl
set_option maxRecDepth 100000 in
set_option maxHeartbeats 4000000 in
theorem indexF (A : Option Addr) (c : Nat) (l : List FnS) (w : World) (hr : Kd.C k41 w A l.length l) :
    Calls Try.prog 71 #[.slice A l.length c, .func (.func 44) #[] #[]] w fun e w' => e = .returned (.int .i64 (firstBad l 0)) ∧ Below w.heap.size w w' := by
  have hmx := Kd.C_max hr
  have HR := Aside0.mk hr
  clear hr
  go_enter Try.func71, Try.ntmps71
  go_wp2_with fail
  go_loopw [8] (fun v8 W => ∃ k : Nat, v8 = .int .i64 k ∧ k ≤ l.length ∧ firstBad (l.drop k) k = firstBad l 0 ∧ Below w.heap.size w W) (fun v8 _ => l.length - (intOf v8).toNat)
  case atStart => exact ⟨0, rfl, Nat.zero_le _, rfl, Below.refl _ _⟩
  case round =>
    obtain ⟨k, rfl, hk, hi, hB⟩ := hrel
    have HB := Aside0.mk hB
    clear hB
    by_cases hlt : k < l.length
    · have hC := Kd.C_below HR.out HB.out
      obtain ⟨ad, A2, c2, rfl, a1, a2, a3, hl2, hC2⟩ := at_T41 hC (k : Int) (by omega) (by omega)
      have hx : rd_T41 l (k : Int) = l[k] := by
        unfold rd_T41
        rw [Int.toNat_natCast, List.getD_eq_getElem?_getD, List.getElem?_eq_getElem hlt]
        rfl
      rw [hx] at a1 a2 a3 hl2 hC2
      simp only [Int.toNat_natCast] at a1 a2 a3
      rw [← List.getElem_cons_drop hlt, firstBad] at hi
      have HC2 := Aside0.mk hC2
      have HL2 := Aside0.mk hl2
      clear hC hx hC2 hl2
      by_cases c : fnOK l[k] = true
      · rw [if_pos c] at hi
        have HI := Aside0.mk hi
        have HM := Aside0.mk (show module_wrong.f l[k].f0 l[k].f1 l[k].f2 = some false by rw [wrong_is, c]; rfl)
        clear hi c
        go_wp2_with fail
        refine (module_wrong.calls _ _ _ _ _ false _ (by first | exact HC2.out | exact Kd.C_drewN HC2.out _ | exact Kd.C_drew HC2.out) HL2.out HM.out).mono ?_
        rintro e w1 ⟨rfl, hb⟩
        have HB1 := Aside0.mk (below_step HB.out hb)
        clear hb
        go_wp2_with fail
        go_roundw
        case rel => exact ⟨k + 1, by go_num, by omega, HI.out, HB1.out⟩
        case measure => simp [intOf]; omega
      · rw [if_neg c] at hi
        have HI := Aside0.mk hi
        have HM := Aside0.mk (show module_wrong.f l[k].f0 l[k].f1 l[k].f2 = some true by rw [wrong_is]; cases h : fnOK l[k] <;> simp_all)
        clear hi c
        go_wp2_with fail
        refine (module_wrong.calls _ _ _ _ _ true _ (by first | exact HC2.out | exact Kd.C_drewN HC2.out _ | exact Kd.C_drew HC2.out) HL2.out HM.out).mono ?_
        rintro e w1 ⟨rfl, hb⟩
        have HB1 := Aside0.mk (below_step HB.out hb)
        clear hb
        go_wp2_with fail
        go_ret
        rw [← HI.out]
        exact ⟨rfl, HB1.out⟩
    · obtain rfl : k = l.length := by omega
      rw [List.drop_length, firstBad] at hi
      have HI := Aside0.mk hi
      clear hi
      go_wp2_with fail
      go_ret
      rw [← HI.out]
      exact ⟨rfl, HB.out⟩
set_option maxRecDepth 100000 in
set_option maxHeartbeats 4000000 in
theorem containsF (A : Option Addr) (c : Nat) (l : List FnS) (w : World) (hr : Kd.C k41 w A l.length l) :
    Calls Try.prog 43 #[.slice A l.length c, .func (.func 44) #[] #[]] w fun e w' => e = .returned (.bool (!(l.all fnOK))) ∧ Below w.heap.size w w' := by
  have HR := Aside0.mk hr
  clear hr
  go_enter Try.func43, Try.ntmps43
  go_wp2_with fail
  refine (indexF A c l _ HR.out).mono ?_
  rintro e w1 ⟨rfl, hb⟩
  have HB := Aside0.mk hb
  have HF := Aside0.mk (firstBad_all l 0)
  clear hb
  go_wp2_with fail
  go_ret
  rw [← HF.out]
  exact ⟨rfl, HB.out⟩
def mayM (l0 : List Int) (l1 : List FnS) : Bool := decide (l0.length ≤ 256) && decide (1 ≤ l1.length) && decide (l1.length ≤ 32) && l1.all fnOK
set_option maxRecDepth 100000 in
set_option maxHeartbeats 4000000 in
theorem may_run (A0 : Option Addr) (c0 : Nat) (l0 : List Int) (A1 : Option Addr) (c1 : Nat) (l1 : List FnS) (w : World) (h0 : Kd.C (Kd.int .i64) w A0 l0.length l0) (h1 : Kd.C k41 w A1 l1.length l1) :
    Calls Try.prog 21 #[.agg #[.slice A0 l0.length c0, .slice A1 l1.length c1]] w fun e w' => e = .returned (.int .i64 (if mayM l0 l1 = true then 0 else 60)) ∧ Below w.heap.size w w' := by
  have hm0 := Kd.C_max h0
  have hm1 := Kd.C_max h1
  have H1 := Aside0.mk h1
  clear h0 h1
  have hB0 : Below w.heap.size w (w.alloc (.cells #[.slice A0 l0.length c0, .slice A1 l1.length c1] 27)) := below_alloc (Below.refl _ _) _
  have HB0 := Aside0.mk hB0
  have H1' := Aside0.mk (Kd.C_below H1.out hB0)
  clear hB0
  have key : ∀ r : Bool, mayM l0 l1 = r → Calls Try.prog 21 #[.agg #[.slice A0 l0.length c0, .slice A1 l1.length c1]] w fun e w' => e = .returned (.int .i64 (if r = true then 0 else 60)) ∧ Below w.heap.size w w' := by
    intro r hr
    unfold mayM at hr
    by_cases q0 : (256 : Int) < (l0.length : Int)
    · rw [decide_eq_false (show ¬ l0.length ≤ 256 by omega)] at hr
      simp only [Bool.false_and] at hr
      subst hr
      go_enter Try.func21, Try.ntmps21
      go_wp2_with fail
      go_ret
      exact ⟨rfl, HB0.out⟩
    · have q0' : (l0.length : Int) ≤ 256 := by omega
      rw [decide_eq_true (show l0.length ≤ 256 by omega)] at hr
      clear q0
      cases q1 : (decide (1 ≤ l1.length) && decide (l1.length ≤ 32))
      · have HW := Aside0.mk (show module_within.f (l1.length : Int) 1 32 = some false by
          rw [within_is, ← q1]
          congr 2 <;> exact decide_eq_decide.mpr (by omega))
        rw [Bool.true_and, q1, Bool.false_and] at hr
        subst hr
        clear q1
        go_enter Try.func21, Try.ntmps21
        go_wp2_with fail
        refine (module_within.calls _ _ _ false _ HW.out).mono ?_
        rintro e w1 ⟨rfl, hd⟩
        obtain ⟨m, hm⟩ := hd.out
        have hb : Below (w.alloc (.cells #[.slice A0 l0.length c0, .slice A1 l1.length c1] 27)).heap.size (w.alloc (.cells #[.slice A0 l0.length c0, .slice A1 l1.length c1] 27)) w1 := by subst hm; exact pw_below_drewN (Below.refl _ _) m
        clear hm hd
        have HB1 := Aside0.mk (below_step HB0.out hb)
        clear hb
        go_wp2_with fail
        go_ret
        exact ⟨rfl, HB1.out⟩
      · have HW := Aside0.mk (show module_within.f (l1.length : Int) 1 32 = some true by
          rw [within_is, ← q1]
          congr 2 <;> exact decide_eq_decide.mpr (by omega))
        rw [Bool.true_and, q1, Bool.true_and] at hr
        have HR := Aside0.mk hr
        clear q1 hr
        go_enter Try.func21, Try.ntmps21
        go_wp2_with fail
        refine (module_within.calls _ _ _ true _ HW.out).mono ?_
        rintro e w1 ⟨rfl, hd⟩
        obtain ⟨m, hm⟩ := hd.out
        have hb : Below (w.alloc (.cells #[.slice A0 l0.length c0, .slice A1 l1.length c1] 27)).heap.size (w.alloc (.cells #[.slice A0 l0.length c0, .slice A1 l1.length c1] 27)) w1 := by subst hm; exact pw_below_drewN (Below.refl _ _) m
        clear hm hd
        have HB1 := Aside0.mk (below_step HB0.out hb)
        have c0' : w1.cell? ⟨w.heap.size, 1, none⟩ = some (.slice A1 l1.length c1) := blk_cell (blk_below (blk_new w _) hb) 1
        have H2 := Aside0.mk (Kd.C_below H1'.out hb)
        clear hb
        go_wp2_with fail
        refine (containsF A1 c1 l1 _ H2.out).mono ?_
        rintro e w2 ⟨rfl, hb⟩
        have HB2 := Aside0.mk (below_step HB1.out hb)
        clear hb
        rw [HR.out]
        cases r
        · go_wp2_with fail
          go_ret
          exact ⟨rfl, HB2.out⟩
        · go_wp2_with fail
          go_ret
          exact ⟨rfl, HB2.out⟩
  exact key _ rfl
end Go.Proofs.Ytjkjpmfenillcaa.P
/- module.Encode: a module's code; no statement of the seat. -/
set_option linter.unusedVariables false
set_option linter.unusedSimpArgs false
namespace Go.Proofs.Ytjkjpmfenillcaa.P
open Go.RowKit Go.Proofs.YtjkjpmfenillcaaW.PrintWords Go.Proofs.YtjkjpmfenillcaaW.PrintLast Go.Proofs.YtjkjpmfenillcaaW.PrintMore
def fn3 (x : FnS) : Fn3 := ((x.f0, x.f1), x.f2)
def magicB : List Int := [80, 78, 76, 49]
def encM (l0 : List Int) (l1 : List FnS) : List Int × Int := if mayM l0 l1 = true then encR (wholeS ([], 0) (magicB, l0, l1.map fn3)) else ([], 60)
theorem fn_FK (w wr : World) (x : FnS) (A : Option Addr) (c : Nat) (hb : Below w.heap.size w wr) (hC : Kd.C (Kd.int .u8) w A x.f2.length x.f2) (hc : x.f2.length ≤ c) : Kd.FK kFn wr (fun k => k < w.heap.size) (fn3 x) [.int .i64 x.f0, .int .i64 x.f1, .slice A x.f2.length c] := by
  intro W' hW
  refine ⟨[_, _], [_], rfl, ⟨[_], [_], rfl, rfl, rfl⟩, A, c, rfl, hc, (Kd.heap_int .u8).C (w := w) (fun k hk => ?_) hC⟩
  exact (hW k hk (Nat.lt_of_lt_of_le hk hb.size)).trans (hb.block k hk)
theorem C_magic {w : World} {g : Nat} {z : Nat × Nat} (h : w.heap[g]? = some (.cells #[.int .u8 80, .int .u8 78, .int .u8 76, .int .u8 49] 5 z)) : Kd.C (Kd.int .u8) w (some ⟨g, 0, none⟩) 4 magicB := by
  refine Kd.C_of_reads (d := (0 : Int)) (h1 := fun _ => rfl) ⟨rfl, by decide, fun _ => ⟨⟨g, 0, none⟩, rfl, fun j hj => ?_⟩⟩
  have hc := cell_of_row w g j _ _ _ h
  match j, hj with
  | 0, _ => exact hc
  | 1, _ => exact hc
  | 2, _ => exact hc
  | 3, _ => exact hc
set_option maxRecDepth 100000 in
set_option maxHeartbeats 4000000 in
theorem menc_run (A0 : Option Addr) (c0 : Nat) (l0 : List Int) (A1 : Option Addr) (c1 : Nat) (l1 : List FnS) (w : World) (h0 : Kd.C (Kd.int .i64) w A0 l0.length l0) (hc0 : l0.length ≤ c0) (h1 : Kd.C k41 w A1 l1.length l1) (hc1 : l1.length ≤ c1) :
    Calls Try.prog 13 #[.agg #[.slice A0 l0.length c0, .slice A1 l1.length c1]] w fun e w' => ∃ A' c', e = .returned (.tuple #[.slice A' (encM l0 l1).1.length c', .int .i64 (encM l0 l1).2]) ∧ Kd.C (Kd.int .u8) w' A' (encM l0 l1).1.length (encM l0 l1).1 ∧ (encM l0 l1).1.length ≤ c' ∧ Below w.heap.size w w' := by
  have hm0 := Kd.C_max h0
  have hm1 := Kd.C_max h1
  have H0 := Aside0.mk h0
  have H1 := Aside0.mk h1
  have HC0 := Aside0.mk hc0
  have HC1 := Aside0.mk hc1
  have hB0 : Below w.heap.size w (w.alloc (.cells #[.slice A0 l0.length c0, .slice A1 l1.length c1] 27)) := below_alloc (Below.refl _ _) _
  have HB0 := Aside0.mk hB0
  clear hB0 h0 h1 hc0 hc1
  have key : ∀ r : Bool, mayM l0 l1 = r → Calls Try.prog 13 #[.agg #[.slice A0 l0.length c0, .slice A1 l1.length c1]] w fun e w' => ∃ A' c', e = .returned (.tuple #[.slice A' (encM l0 l1).1.length c', .int .i64 (encM l0 l1).2]) ∧ Kd.C (Kd.int .u8) w' A' (encM l0 l1).1.length (encM l0 l1).1 ∧ (encM l0 l1).1.length ≤ c' ∧ Below w.heap.size w w' := by
    intro r hr
    have HR := Aside0.mk hr
    clear hr
    have kc := fun (w : World) (C : Array Value) (n c : Nat) => Lib.run_convert_bytes_const (P := Try.prog) w 22 5 C n c Try.underlying22 Try.underlying5
    go_enter Try.func13, Try.ntmps13
    go_wp2_with fail
    refine (may_run A0 c0 l0 A1 c1 l1 _ (Kd.C_below H0.out HB0.out) (Kd.C_below H1.out HB0.out)).mono ?_
    rintro e w1 ⟨rfl, hb⟩
    rw [HR.out]
    have hmb : w1.heap[w.heap.size]? = some (.cells #[.slice A0 l0.length c0, .slice A1 l1.length c1] 27 (0, 0)) := blk_below (blk_new w _) hb
    have HB1 := Aside0.mk (below_step HB0.out hb)
    have HMB := Aside0.mk hmb
    clear hb hmb
    cases r
    · simp only [Bool.false_eq_true, if_false]
      go_wp2_with fail
      go_ret2
      unfold encM
      rw [if_neg (by rw [HR.out]; decide)]
      exact ⟨none, 0, rfl, Kd.C_nil _ _, Nat.le_refl _, HB1.out⟩
    · simp only [if_true]
      have m0 : w1.cell? ⟨w.heap.size, 0, none⟩ = some (.slice A0 l0.length c0) := blk_cell HMB.out 0
      have m1 : w1.cell? ⟨w.heap.size, 1, none⟩ = some (.slice A1 l1.length c1) := blk_cell HMB.out 1
      have hl1 := blk_lt HMB.out
      go_wp2_with fail
      have hmay : l1.length ≤ 32 := by
        have h := HR.out
        unfold mayM at h
        simp only [Bool.and_eq_true, decide_eq_true_eq] at h
        exact h.1.2
      obtain ⟨W2, hW2⟩ : ∃ W2, (w1.alloc (.cells #[.int .u8 80, .int .u8 78, .int .u8 76, .int .u8 49] 5 (4, 5))).alloc (.cells #[.slice (some ⟨w1.heap.size, 0, none⟩) 4 4, .slice A0 l0.length c0, .slice none 0 0] 65) = W2 := ⟨_, rfl⟩
      have hb2 : Below w1.heap.size w1 W2 := by rw [← hW2]; exact below_alloc (below_alloc (Below.refl _ _) _) _
      have hz2 : W2.heap.size = w1.heap.size + 2 := by rw [← hW2, World.size_alloc, World.size_alloc]
      have hg2 : W2.heap[w1.heap.size]? = some (.cells #[.int .u8 80, .int .u8 78, .int .u8 76, .int .u8 49] 5 (4, 5)) := by rw [← hW2]; exact blk_alloc (blk_new w1 _) _
      have hx2 : W2.heap[w1.heap.size + 1]? = some (.cells #[.slice (some ⟨w1.heap.size, 0, none⟩) 4 4, .slice A0 l0.length c0, .slice none 0 0] 65 (0, 0)) := by
        rw [← hW2]
        have h := blk_new (w1.alloc (.cells #[.int .u8 80, .int .u8 78, .int .u8 76, .int .u8 49] 5 (4, 5))) (.cells #[.slice (some ⟨w1.heap.size, 0, none⟩) 4 4, .slice A0 l0.length c0, .slice none 0 0] 65)
        rw [World.size_alloc] at h
        exact h
      rw [hW2]
      clear hW2 m0 m1
      have HL2 := Aside0.mk (And.intro hb2 (And.intro hz2 (And.intro hg2 hx2)))
      clear hb2 hz2 hg2 hx2 kc
      go_loopw [23] (fun v23 W => ∃ (k : Nat) (vB : Value), v23 = .int .i64 k ∧ k ≤ l1.length ∧ W.heap[w.heap.size]? = some (.cells #[.slice A0 l0.length c0, .slice A1 l1.length c1] 27 (0, 0)) ∧ W.heap[w1.heap.size]? = some (.cells #[.int .u8 80, .int .u8 78, .int .u8 76, .int .u8 49] 5 (4, 5)) ∧ W.heap[w1.heap.size + 1]? = some (.cells #[.slice (some ⟨w1.heap.size, 0, none⟩) 4 4, .slice A0 l0.length c0, vB] 65 (0, 0)) ∧ Kd.N kFn 76 W (w1.heap.size + 2) (fun b => b ≠ w1.heap.size + 1) vB ((l1.take k).map fn3) ∧ Below w.heap.size w W ∧ w1.heap.size + 2 ≤ W.heap.size) (fun v23 _ => l1.length - (intOf v23).toNat)
      case atStart => exact ⟨0, _, rfl, Nat.zero_le _, blk_below HMB.out HL2.out.1, HL2.out.2.2.1, HL2.out.2.2.2, Kd.N_nil _ _ _ _ _, below_step HB1.out HL2.out.1, by rw [HL2.out.2.1]; exact Nat.le_refl _⟩
      case round =>
        obtain ⟨k, vB, rfl, hk, hmb, hgb, hxb, hN, hB, hsz⟩ := hrel
        obtain ⟨AB, cB, rfl⟩ := Kd.N_slice hN
        have hlk : ((l1.take k).map fn3).length = k := by rw [List.length_map, List.length_take]; omega
        rw [hlk] at hN hxb
        have HLK := Aside0.mk hlk
        have HMB' := Aside0.mk hmb
        have HGB := Aside0.mk hgb
        have HXB := Aside0.mk hxb
        have HN := Aside0.mk hN
        have HB := Aside0.mk hB
        have hle1 := HB1.out.size
        by_cases hlt : k < l1.length
        · obtain ⟨ad, A2, c2, rfl, a1, a2, a3, hl2, hC2⟩ := at_T41 H1.out (k : Int) (by omega) (by omega)
          have hx : rd_T41 l1 (k : Int) = l1[k] := by
            unfold rd_T41
            rw [Int.toNat_natCast, List.getD_eq_getElem?_getD, List.getElem?_eq_getElem hlt]
            rfl
          rw [hx] at a1 a2 a3 hl2 hC2
          simp only [Int.toNat_natCast] at a1 a2 a3
          obtain ⟨x, hxx⟩ : ∃ x, l1[k] = x := ⟨_, rfl⟩
          rw [hxx] at a1 a2 a3 hl2 hC2
          have b1 := pw_cell_below HB.out a1
          have b2 := pw_cell_below HB.out a2
          have b3 := pw_cell_below HB.out a3
          have x2 := blk_cell hxb 2
          have HXX := Aside0.mk hxx
          have hlx := blk_lt hxb
          have hbf : Below wr.heap.size wr (wr.alloc (.cells #[.int .i64 x.f0, .int .i64 x.f1, .slice A2 x.f2.length c2] 41)) := below_alloc (Below.refl _ _) _
          have HFK := Aside0.mk (fn_FK w (wr.alloc (.cells #[.int .i64 x.f0, .int .i64 x.f1, .slice A2 x.f2.length c2] 41)) x A2 c2 (below_step HB.out hbf) hC2 hl2)
          have HN3 := Aside0.mk (Kd.N_alloc HN.out (.cells #[.int .i64 x.f0, .int .i64 x.f1, .slice A2 x.f2.length c2] 41))
          have HX3 := Aside0.mk (blk_alloc hxb (.cells #[.int .i64 x.f0, .int .i64 x.f1, .slice A2 x.f2.length c2] 41))
          have HM3 := Aside0.mk (blk_alloc hmb (.cells #[.int .i64 x.f0, .int .i64 x.f1, .slice A2 x.f2.length c2] 41))
          have HG3 := Aside0.mk (blk_alloc hgb (.cells #[.int .i64 x.f0, .int .i64 x.f1, .slice A2 x.f2.length c2] 41))
          have HBF := Aside0.mk hbf
          have hsz3 : w1.heap.size + 2 ≤ (wr.alloc (.cells #[.int .i64 x.f0, .int .i64 x.f1, .slice A2 x.f2.length c2] 41)).heap.size := by rw [World.size_alloc]; omega
          clear a1 a2 a3 hl2 hC2 hx hxx hmb hgb hxb hbf hlk
          go_wp2_with (at_builtin; go_loud (refine Kd.N_append kFn (w0 := wr) (w1.heap.size + 2) rfl (.tmp 29) (.tmp 38) 61 76 (.agg #[.int .i64 0, .int .i64 0, .slice none 0 0]) 40 rfl Try.underlying61 (by kernel_rfl) rfl (by decide) (by decide) (.slice AB k cB) ((l1.take k).map fn3) (fn3 x) [.int .i64 x.f0, .int .i64 x.f1, .slice A2 x.f2.length c2] (fun b => b ≠ w1.heap.size + 1) (fun b => b < w.heap.size) rfl (by rw [World.size_alloc]; rfl) HFK.out (fun b hb => ⟨by omega, fun he => by have := Kd.N_base HN3.out b he.symm; omega⟩) (fun b hb => by omega) HN3.out (HBF.out.mono (by omega)) hsz3 (by rw [HLK.out]; omega) ?_; intro v1 w2 ho hb1 hg hat; obtain ⟨AN, cN, rfl⟩ := Kd.N_slice ho; have hx2 := blk_grown HX3.out hg (Kd.N_ne HN3.out HX3.out (by decide)); have hm2 := blk_grown HM3.out hg (Kd.N_ne HN3.out HM3.out (by decide)); have hg2 := blk_grown HG3.out hg (fun he => by have := Kd.N_base HN3.out _ he.symm; omega); have z2 := blk_cell hx2 2; have y2 := blkO_free hx2 2; have HY := Aside0.mk (And.intro ho (And.intro hb1 (And.intro hx2 (And.intro hm2 hg2)))); clear ho hb1 hg hat hx2 hm2 hg2))
          go_roundw
          case rel =>
            obtain ⟨ho, hb1, hx2, hm2, hg2⟩ := HY.out
            rw [show ((l1.take k).map fn3 ++ [fn3 x]).length = k + 1 by rw [List.length_append, HLK.out, List.length_singleton]] at ho
            refine ⟨k + 1, _, by go_num, by omega, ?_, ?_, blk_set hx2 2 _, ?_, ?_, ?_⟩
            · exact (Below.heap_setCell w2 ⟨w1.heap.size + 1, 2, none⟩ _ _ (by show w.heap.size ≠ w1.heap.size + 1; omega)).trans hm2
            · exact (Below.heap_setCell w2 ⟨w1.heap.size + 1, 2, none⟩ _ _ (by show w1.heap.size ≠ w1.heap.size + 1; omega)).trans hg2
            · rw [show (l1.take (k + 1)).map fn3 = (l1.take k).map fn3 ++ [fn3 x] by rw [List.take_add_one, List.getElem?_eq_getElem hlt, HXX.out]; simp]
              exact Kd.N_far ho (p := ⟨w1.heap.size + 1, 2, none⟩) (fun b hb => hb) _
            · exact (HB.out.trans (hb1.mono (by omega))).setCell (p := ⟨w1.heap.size + 1, 2, none⟩) (by show w.heap.size ≤ w1.heap.size + 1; omega) _
            · rw [World.size_setCell]
              exact Nat.le_trans (by omega) hb1.size
          case measure => simp [intOf]; omega
        · obtain rfl : k = l1.length := by omega
          obtain ⟨fs, hfs⟩ : ∃ fs, l1.map fn3 = fs := ⟨_, rfl⟩
          have hfl : fs.length = l1.length := by rw [← hfs, List.length_map]
          have hNf := HN.out
          rw [List.take_length, hfs, ← hfl] at hNf
          rw [← hfl] at hxb
          have HF := Aside0.mk hfs
          have HNF := Aside0.mk hNf
          have HXF := Aside0.mk hxb
          have x0 : wr.drew.cell? ⟨w1.heap.size + 1, 0, none⟩ = some (.slice (some ⟨w1.heap.size, 0, none⟩) 4 4) := blk_cell (blk_drew hxb) 0
          have x1 : wr.drew.cell? ⟨w1.heap.size + 1, 1, none⟩ = some (.slice A0 l0.length c0) := blk_cell (blk_drew hxb) 1
          have x2 : wr.drew.cell? ⟨w1.heap.size + 1, 2, none⟩ = some (.slice AB fs.length cB) := blk_cell (blk_drew hxb) 2
          clear hmb hgb hxb hN hB hlk hfs hNf hfl hlt
          go_upto_region 11 with (fail)
          go_region_held3 (fun w' => w'.cell? ⟨w1.heap.size + 1, 0, none⟩ = some (.slice (some ⟨w1.heap.size, 0, none⟩) 4 4) ∧ w'.cell? ⟨w1.heap.size + 1, 1, none⟩ = some (.slice A0 l0.length c0) ∧ w'.cell? ⟨w1.heap.size + 1, 2, none⟩ = some (.slice AB fs.length cB)) (first | (exact ⟨by assumption, by assumption, by assumption⟩) | go_keep) (first
            | (go_at_call 28; go_loud ((with_reducible refine (form_make _).mono ?_); rintro r w3 ⟨ba, bb, rfl, hE, hb3⟩; have hx3 := blk_below (blk_drew HXF.out) hb3; have y0 := blk_cell hx3 0; have y1 := blk_cell hx3 1; have y2 := blk_cell hx3 2; have HE := Aside0.mk hE; have HB3 := Aside0.mk hb3; simp only [wV]; clear hE hb3 hx3))
            | (go_at_call 34; go_loud (refine (enc_W _ HE.out (magicB, l0, fs) (some ⟨w1.heap.size, 0, none⟩) A0 AB 4 c0 cB ⟨[_], [_, _], rfl, ⟨_, _, rfl, Nat.le_refl 4, Kd.C_below (Kd.C_drew (C_magic HGB.out)) HB3.out⟩, [_], [_], rfl, ⟨_, _, rfl, HC0.out, Kd.C_below (Kd.C_drew (Kd.C_below H0.out HB.out)) HB3.out⟩, _, _, rfl, (Kd.N_reads' HNF.out).2.1, Kd.C_below (Kd.C_drew (Kd.N_reads' HNF.out).2.2) HB3.out⟩).mono ?_; rintro r w4 ⟨A', c', rfl, hC4, hl4, hb4⟩; have y0 := pw_cell_below hb4 y0; have y1 := pw_cell_below hb4 y1; have y2 := pw_cell_below hb4 y2; have HZ := Aside0.mk (And.intro hC4 (And.intro hl4 hb4)); clear hC4 hl4 hb4)))
          go_wp2_with fail
          go_ret2
          obtain ⟨hC4, hl4, hb4⟩ := HZ.out
          unfold encM
          rw [if_pos HR.out, HF.out]
          exact ⟨A', c', rfl, hC4, hl4, below_step (below_step (HB.out.trans (below_drew (Below.refl _ _)) |> fun h => h) (by exact HB3.out)) hb4⟩
  exact key _ rfl
end Go.Proofs.Ytjkjpmfenillcaa.P
/- module.Decode: the module of a code; no statement of the seat. -/
set_option linter.unusedVariables false
set_option linter.unusedSimpArgs false
namespace Go.Proofs.Ytjkjpmfenillcaa.P
open Go.RowKit Go.Proofs.YtjkjpmfenillcaaW.PrintWords Go.Proofs.YtjkjpmfenillcaaW.PrintLast Go.Proofs.YtjkjpmfenillcaaW.PrintMore
def unfn (x : Fn3) : FnS := ⟨x.1.1, x.1.2, x.2⟩
def z3 : Fn3 := ((0, 0), [])
theorem at_fn3 {w : World} {A : Option Addr} {n : Nat} {xs : List Fn3} (h : Kd.C kFn w A n xs) (k : Nat) (hk : k < n) : ∃ ad A0 c0, A = some ad ∧ w.cell? (ad.add (k * 3)) = some (.int .i64 (xs.getD k z3).1.1) ∧ w.cell? ⟨(ad.add (k * 3)).block, (ad.add (k * 3)).off + 1, none⟩ = some (.int .i64 (xs.getD k z3).1.2) ∧ w.cell? ⟨(ad.add (k * 3)).block, (ad.add (k * 3)).off + 2, none⟩ = some (.slice A0 (xs.getD k z3).2.length c0) ∧ (xs.getD k z3).2.length ≤ c0 ∧ Kd.C (Kd.int .u8) w A0 (xs.getD k z3).2.length (xs.getD k z3).2 := by
  obtain ⟨ad, cc, hA, hcl, hK, hcc⟩ := Kd.C_get h z3 (k : Int) (by omega) (by omega)
  rw [Int.toNat_natCast] at hK hcc
  obtain ⟨_, _, hce, ⟨_, _, hce2, hK0, hK1⟩, Ae, ce, hK2, hlc, hCe⟩ := hK
  have hK0 : _ = [Value.int .i64 (xs.getD k z3).1.1] := hK0
  have hK1 : _ = [Value.int .i64 (xs.getD k z3).1.2] := hK1
  subst hK0 hK1 hK2 hce2 hce
  have hc := hcc 0 _ rfl
  have hc1 := hcc 1 _ rfl
  have hc2 := hcc 2 _ rfl
  rw [show kFn.sz = 3 from rfl] at hc hc1 hc2
  rw [Nat.add_zero] at hc
  rw [add_field ad (k * 3) 1 (by decide)] at hc1
  rw [add_field ad (k * 3) 2 (by decide)] at hc2
  exact ⟨ad, Ae, ce, hA, hc, hc1, hc2, hlc, hCe⟩
theorem conv_FK {W : World} {ok : Nat → Prop} {x : Fn3} {c : List Value} (h : Kd.FK kFn W ok x c) : Kd.FK k41 W ok (unfn x) c := by
  intro W' hW
  obtain ⟨_, _, rfl, ⟨_, _, rfl, h0, h1⟩, A, d, rfl, hl, hC⟩ := h W' hW
  have h0 : _ = [Value.int .i64 x.1.1] := h0
  have h1 : _ = [Value.int .i64 x.1.2] := h1
  subst h0 h1
  exact ⟨[_], [_, _], rfl, rfl, [_], [_], rfl, rfl, A, d, rfl, hl, hC⟩
theorem magic_is : (strOfNums magicB).toList = [80, 78, 76, 49] := by kernel_rfl
theorem manyIn_len {α : Type} (G : List Int × Bool → α × List Int × Bool) : ∀ (n : Nat) (acc : List α) (s : List Int × Bool), (manyIn G n acc s).1.length ≤ acc.length + n
  | 0, acc, s => by unfold manyIn; simp
  | n + 1, acc, s => by
    unfold manyIn
    split
    · simp only []; omega
    · have h := manyIn_len G n (acc ++ [(G s).1]) (G s).2
      rw [List.length_append, List.length_singleton] at h
      omega
theorem lowI_le (s : List Int × Bool) (most : Int) (hm : 0 ≤ most) : (lowI s 2 most).1 ≤ most := by
  unfold lowI
  simp only []
  split
  · exact hm
  · rename_i h
    simp only [Bool.or_eq_true, Bool.and_eq_true, decide_eq_true_eq, not_or, not_and] at h
    have := h.2 (by decide)
    omega
theorem whole_len (b : List Int) : (decR wholeG zW b).1.2.2.length ≤ 4096 := by
  have h : ∀ s, (wholeG s).1.2.2.length ≤ 4096 := by
    intro s
    show (manyR fnG _).1.length ≤ 4096
    unfold manyR
    refine Nat.le_trans (manyIn_len _ _ _ _) ?_
    rw [List.length_nil, Nat.zero_add]
    exact Int.toNat_le.mpr (lowI_le _ 4096 (by decide))
  unfold decR
  split
  · exact Nat.zero_le _
  · split
    · exact Nat.zero_le _
    · unfold fstR
      simp only []
      split
      · exact Nat.zero_le _
      · exact h _
def decM (b : List Int) : List Int × List FnS × Int :=
  let r := decR wholeG zW b
  if r.2 = 0 ∧ (strOfNums r.1.1).toList = [80, 78, 76, 49] ∧ mayM r.1.2.1 (r.1.2.2.map unfn) = true then (r.1.2.1, r.1.2.2.map unfn, 0) else ([], [], 10)
set_option maxRecDepth 100000 in
set_option maxHeartbeats 4000000 in
theorem mdec_run (A : Option Addr) (c : Nat) (b : List Int) (w : World) (hx : Kd.C (Kd.int .u8) w A b.length b) (hc : b.length ≤ c) (hok : okL b) :
    Calls Try.prog 10 #[.slice A b.length c] w fun e w' => ∃ A0 c0 A1 c1, e = .returned (.tuple #[.agg #[.slice A0 (decM b).1.length c0, .slice A1 (decM b).2.1.length c1], .int .i64 (decM b).2.2]) ∧ (Kd.C (Kd.int .i64) w' A0 (decM b).1.length (decM b).1 ∧ (decM b).1.length ≤ c0) ∧ (Kd.C k41 w' A1 (decM b).2.1.length (decM b).2.1 ∧ (decM b).2.1.length ≤ c1) ∧ Below w.heap.size w w' := by
  have hmx := Kd.C_max hx
  have HX := Aside0.mk hx
  have HOK := Aside0.mk hok
  clear hx hok
  go_enter Try.func10, Try.ntmps10
  go_wp2_with fail
  refine (form_make _).mono ?_
  rintro r w1 ⟨ba, bb, rfl, hE, hb1⟩
  have HE := Aside0.mk hE
  have HB1 := Aside0.mk hb1
  simp only [wV]
  clear hE hb1
  go_wp2_with fail
  refine (dec_W w1 HE.out A c b (Kd.C_below (Kd.C_below HX.out (below_alloc (Below.refl _ _) _)) HB1.out) hc HOK.out).mono ?_
  rintro r w2 ⟨cs, rfl, hM, hb2⟩
  obtain ⟨g, hg⟩ : ∃ g, decR wholeG zW b = g := ⟨_, rfl⟩
  have HG := Aside0.mk hg
  rw [hg] at hM ⊢
  obtain ⟨⟨mg, cn, fs⟩, ec⟩ := g
  obtain ⟨B0, d0, B1, d1, B2, d2, rfl⟩ := kW_open hM
  have hK := kW.K_of_M hM
  have hrows : (Kd.int .i64).R 3 w2 w1.heap.size (fun _ => True) (.slice B1 cn.length d1) cn ∧ kFn.R 76 w2 w1.heap.size (fun _ => True) (.slice B2 fs.length d2) fs := by
    obtain ⟨_, _, e1, ⟨_, q0, _⟩, _, _, e2, ⟨_, q1, R1⟩, _, q2, R2⟩ := hM
    subst q0 q1 q2 e2
    simp only [List.cons_append, List.nil_append, List.cons.injEq, and_true] at e1
    obtain ⟨_, rfl, rfl⟩ := e1
    exact ⟨R1, R2⟩
  have HR1 := Aside0.mk hrows.1
  have HN2 := Aside0.mk (Kd.R_N (Kd.R_bound hrows.2))
  clear hrows
  obtain ⟨_, _, hcs, ⟨_, _, hk0, hl0, hC0⟩, _, _, hcs2, ⟨_, _, hk1, hl1, hC1⟩, _, _, hk2, hl2, hC2⟩ := hK
  subst hk0 hk1 hk2 hcs2
  simp only [List.cons_append, List.nil_append, List.cons.injEq, Value.slice.injEq, and_true, true_and] at hcs
  obtain ⟨⟨rfl, rfl⟩, ⟨rfl, rfl⟩, rfl, rfl⟩ := hcs
  have HC := Aside0.mk (And.intro hC0 (And.intro hl0 (And.intro hC1 (And.intro hl1 (And.intro hC2 hl2)))))
  have hrb : w1.heap[w.heap.size]? = some (.cells #[.slice none 0 0, .slice none 0 0] 27 (0, 0)) := blk_below (blk_new w _) HB1.out
  have HRB := Aside0.mk (blk_below hrb hb2)
  have HB2 := Aside0.mk (below_step (below_step (below_alloc (Below.refl _ _) _) HB1.out) hb2)
  have hm2 := Kd.C_max hC2
  have hw1 : w.heap.size < w1.heap.size := blk_lt hrb
  have hw12 : w1.heap.size ≤ w2.heap.size := hb2.size
  clear hM hC0 hl0 hC1 hl1 hC2 hl2 hrb hb2
  go_wp2_with fail
  have hlen : fs.length ≤ 4096 := by have h := whole_len b; rw [HG.out] at h; exact h
  obtain ⟨W3, hW3⟩ : ∃ W3, (w2.alloc (.cells #[.slice B0 mg.length d0, .slice B1 cn.length d1, .slice B2 fs.length d2] 65)).alloc (.cells #[.slice B1 cn.length d1, .slice none 0 0] 27) = W3 := ⟨_, rfl⟩
  have hb3 : Below w2.heap.size w2 W3 := by rw [← hW3]; exact below_alloc (below_alloc (Below.refl _ _) _) _
  have hz3 : W3.heap.size = w2.heap.size + 2 := by rw [← hW3, World.size_alloc, World.size_alloc]
  have hx3 : W3.heap[w2.heap.size]? = some (.cells #[.slice B0 mg.length d0, .slice B1 cn.length d1, .slice B2 fs.length d2] 65 (0, 0)) := by rw [← hW3]; exact blk_alloc (blk_new w2 _) _
  have hm3 : W3.heap[w2.heap.size + 1]? = some (.cells #[.slice B1 cn.length d1, .slice none 0 0] 27 (0, 0)) := by
    rw [← hW3]
    have h := blk_new (w2.alloc (.cells #[.slice B0 mg.length d0, .slice B1 cn.length d1, .slice B2 fs.length d2] 65)) (.cells #[.slice B1 cn.length d1, .slice none 0 0] 27)
    rw [World.size_alloc] at h
    exact h
  rw [hW3]
  clear hW3
  have HL3 := Aside0.mk (And.intro hb3 (And.intro hz3 (And.intro hx3 hm3)))
  clear hb3 hz3 hx3 hm3
  go_loopw [23] (fun v23 W => ∃ (k : Nat) (vB : Value), v23 = .int .i64 k ∧ k ≤ fs.length ∧ W.heap[w.heap.size]? = some (.cells #[.slice none 0 0, .slice none 0 0] 27 (0, 0)) ∧ W.heap[w2.heap.size]? = some (.cells #[.slice B0 mg.length d0, .slice B1 cn.length d1, .slice B2 fs.length d2] 65 (0, 0)) ∧ W.heap[w2.heap.size + 1]? = some (.cells #[.slice B1 cn.length d1, vB] 27 (0, 0)) ∧ Kd.N k41 41 W (w2.heap.size + 2) (fun b => b ≠ w2.heap.size + 1 ∧ w1.heap.size ≤ b) vB ((fs.take k).map unfn) ∧ Below w2.heap.size w2 W ∧ w2.heap.size + 2 ≤ W.heap.size) (fun v23 _ => fs.length - (intOf v23).toNat)
  case atStart => exact ⟨0, _, rfl, Nat.zero_le _, blk_below HRB.out HL3.out.1, HL3.out.2.2.1, HL3.out.2.2.2, Kd.N_nil _ _ _ _ _, HL3.out.1, by rw [HL3.out.2.1]; exact Nat.le_refl _⟩
  case round =>
    obtain ⟨k, vB, rfl, hk, hrb, hxb, hmb, hN, hB, hsz⟩ := hrel
    obtain ⟨AB, cB, rfl⟩ := Kd.N_slice hN
    have hlk : ((fs.take k).map unfn).length = k := by rw [List.length_map, List.length_take]; omega
    rw [hlk] at hN hmb
    have HLK := Aside0.mk hlk
    have HXB := Aside0.mk hxb
    have HRB' := Aside0.mk hrb
    have HN := Aside0.mk hN
    have HB := Aside0.mk hB
    have hw2 : w.heap.size < w2.heap.size := blk_lt HRB.out
    by_cases hlt : k < fs.length
    · obtain ⟨ad, hA2⟩ := HC.out.2.2.2.2.1.2.2 (by omega)
      obtain ⟨rfl, _⟩ := hA2
      obtain ⟨cc, hcl, hFKe, hcc⟩ := Kd.N_get HN2.out z3 (k : Int) (by omega) (by omega)
      rw [Int.toNat_natCast] at hFKe hcc
      obtain ⟨x, hxx⟩ : ∃ x, fs.getD k z3 = x := ⟨_, rfl⟩
      rw [hxx] at hFKe
      have hFK1 := conv_FK (Kd.FK_mono hFKe (ok' := fun b => w1.heap.size ≤ b ∧ b < w2.heap.size) (fun b hb => ⟨hb.1.2.1, hb.1.2.2.1⟩))
      obtain ⟨_, _, hce, ⟨_, _, hce2, hK0, hK1⟩, A2, c2, hK2, hlc, hCe⟩ := Kd.FK_now hFKe
      have hK0 : _ = [Value.int .i64 x.1.1] := hK0
      have hK1 : _ = [Value.int .i64 x.1.2] := hK1
      subst hK0 hK1 hK2 hce2 hce
      have a1 := hcc 0 _ rfl
      have a2 := hcc 1 _ rfl
      have a3 := hcc 2 _ rfl
      rw [show kFn.sz = 3 from rfl] at a1 a2 a3
      rw [Nat.add_zero] at a1
      rw [add_field ad (k * 3) 1 (by decide)] at a2
      rw [add_field ad (k * 3) 2 (by decide)] at a3
      have b1 := pw_cell_below HB.out a1
      have b2 := pw_cell_below HB.out a2
      have b3 := pw_cell_below HB.out a3
      have x1 := blk_cell hmb 1
      have HXX := Aside0.mk hxx
      have hlx := blk_lt hmb
      have hbf : Below wr.heap.size wr (wr.alloc (.cells #[.int .i64 x.1.1, .int .i64 x.1.2, .slice A2 x.2.length c2] 76)) := below_alloc (Below.refl _ _) _
      have HFK := Aside0.mk (Kd.FK_below hFK1 (below_step HB.out hbf))
      have HN3 := Aside0.mk (Kd.N_alloc HN.out (.cells #[.int .i64 x.1.1, .int .i64 x.1.2, .slice A2 x.2.length c2] 76))
      have HX3 := Aside0.mk (blk_alloc hxb (.cells #[.int .i64 x.1.1, .int .i64 x.1.2, .slice A2 x.2.length c2] 76))
      have HM3 := Aside0.mk (blk_alloc hmb (.cells #[.int .i64 x.1.1, .int .i64 x.1.2, .slice A2 x.2.length c2] 76))
      have HR3 := Aside0.mk (blk_alloc hrb (.cells #[.int .i64 x.1.1, .int .i64 x.1.2, .slice A2 x.2.length c2] 76))
      have HBF := Aside0.mk hbf
      have hsz3 : w2.heap.size + 2 ≤ (wr.alloc (.cells #[.int .i64 x.1.1, .int .i64 x.1.2, .slice A2 x.2.length c2] 76)).heap.size := by rw [World.size_alloc]; omega
      clear a1 a2 a3 hFKe hFK1 hcc hcl hlc hCe hxx hmb hxb hrb hbf hlk
      go_wp2_with (at_builtin; go_loud (refine Kd.N_append k41 (w0 := wr) (w2.heap.size + 2) rfl (.tmp 28) (.tmp 38) 25 41 (.agg #[.int .i64 0, .int .i64 0, .slice none 0 0]) 40 rfl Try.underlying25 (by kernel_rfl) rfl (by decide) (by decide) (.slice AB k cB) ((fs.take k).map unfn) (unfn x) [.int .i64 x.1.1, .int .i64 x.1.2, .slice A2 x.2.length c2] (fun b => b ≠ w2.heap.size + 1 ∧ w1.heap.size ≤ b) (fun b => w1.heap.size ≤ b ∧ b < w2.heap.size) rfl (by rw [World.size_alloc]; rfl) HFK.out (fun b hb => ⟨⟨by omega, hb.1⟩, fun he => by have := Kd.N_base HN3.out b he.symm; omega⟩) (fun b hb => ⟨by omega, by omega⟩) HN3.out (HBF.out.mono (by omega)) hsz3 (by rw [HLK.out]; omega) ?_; intro v1 w4 ho hb1 hg hat; obtain ⟨AN, cN, rfl⟩ := Kd.N_slice ho; have hm4 := blk_grown HM3.out hg (Kd.N_ne HN3.out HM3.out (by decide)); have hx4 := blk_grown HX3.out hg (Kd.N_ne HN3.out HX3.out (by decide)); have hr4 := blk_grown HR3.out hg (Kd.N_ne HN3.out HR3.out (by decide)); have z2 := blk_cell hm4 1; have y2 := blkO_free hm4 1; have HY := Aside0.mk (And.intro ho (And.intro hb1 (And.intro hm4 (And.intro hx4 hr4)))); clear ho hb1 hg hat hm4 hx4 hr4))
      go_roundw
      case rel =>
        obtain ⟨ho, hb1, hm4, hx4, hr4⟩ := HY.out
        rw [show ((fs.take k).map unfn ++ [unfn x]).length = k + 1 by rw [List.length_append, HLK.out, List.length_singleton]] at ho
        refine ⟨k + 1, _, by go_num, by omega, ?_, ?_, blk_set hm4 1 _, ?_, ?_, ?_⟩
        · exact (Below.heap_setCell w4 ⟨w2.heap.size + 1, 1, none⟩ _ _ (by show w.heap.size ≠ w2.heap.size + 1; omega)).trans hr4
        · exact (Below.heap_setCell w4 ⟨w2.heap.size + 1, 1, none⟩ _ _ (by show w2.heap.size ≠ w2.heap.size + 1; omega)).trans hx4
        · rw [show (fs.take (k + 1)).map unfn = (fs.take k).map unfn ++ [unfn x] by rw [List.take_add_one, List.getElem?_eq_getElem hlt, List.map_append, show x = fs[k] by rw [← HXX.out, List.getD_eq_getElem?_getD, List.getElem?_eq_getElem hlt]; rfl]; rfl]
          exact Kd.N_far ho (p := ⟨w2.heap.size + 1, 1, none⟩) (fun b hb => hb.1) _
        · exact (HB.out.trans (hb1.mono (by omega))).setCell (p := ⟨w2.heap.size + 1, 1, none⟩) (by show w2.heap.size ≤ w2.heap.size + 1; omega) _
        · rw [World.size_setCell]
          exact Nat.le_trans (by omega) hb1.size
      case measure => simp [intOf]; omega
    · obtain rfl : k = fs.length := by omega
      have hNf := HN.out
      rw [List.take_length] at hNf
      obtain ⟨gs, hgs⟩ : ∃ gs, fs.map unfn = gs := ⟨_, rfl⟩
      have hgl : gs.length = fs.length := by rw [← hgs, List.length_map]
      rw [hgs, ← hgl] at hNf
      rw [← hgl] at hmb
      have HGS := Aside0.mk hgs
      have HNF := Aside0.mk hNf
      have x0 := blk_cell hxb 0
      have m0 := blk_cell hmb 0
      have m1 := blk_cell hmb 1
      have r0 := blk_cell hrb 0
      have r1 := blk_cell hrb 1
      have g0 := blkO_free hrb 0
      have g1 := blkO_free hrb 1
      have hlw := blk_lt hmb
      have kst := Kd.C_string (P := Try.prog) Try.underlying22 Try.underlying5 Try.underlying9 (c := d0) (Kd.C_below HC.out.1 HB.out)
      have HBW := Aside0.mk (HB2.out.trans (HB.out.mono (by omega)))
      have HMB := Aside0.mk hmb
      clear hN hB hNf hlt hlk hxb hmb hrb hgs hgl
      by_cases he : ec = 0
      · subst he
        by_cases hq : (strOfNums mg).toList = [80, 78, 76, 49]
        · have HQ := Aside0.mk hq
          go_wp2_with fail
          refine (may_run B1 d1 cn AB cB gs wr (Kd.C_below HC.out.2.2.1 HB.out) (Kd.N_reads' HNF.out).2.2).mono ?_
          rintro e w5 ⟨rfl, hb5⟩
          have hr5 := blk_below HRB'.out hb5
          have hm5 := blk_below HMB.out hb5
          have HB5 := Aside0.mk hb5
          have HR5 := Aside0.mk hr5
          have HM5 := Aside0.mk hm5
          have r0 := blk_cell hr5 0
          have r1 := blk_cell hr5 1
          have g0 := blkO_free hr5 0
          have g1 := blkO_free hr5 1
          have m0 := blk_cell hm5 0
          have m1 := blk_cell hm5 1
          have HBX := Aside0.mk (below_step HBW.out hb5)
          clear hb5 hr5 hm5
          cases hmy : mayM cn gs
          · simp only [Bool.false_eq_true, if_false]
            have HMY := Aside0.mk hmy
            clear hmy
            go_wp2_with fail
            have hd : decM b = ([], [], 10) := by
              unfold decM
              simp only [HG.out]
              exact if_neg (by rintro ⟨_, _, h3⟩; rw [HGS.out, HMY.out] at h3; cases h3)
            rw [hd]
            refine bodyPost_ret (v := .tuple #[.agg #[.slice none 0 0, .slice none 0 0], .int .i64 10]) (results_ct (p := 2) (u := 3) (ty := 27) rfl _ _ w.heap.size 27 #[.slice none 0 0, .slice none 0 0] (0, 0) _ rfl (two_set HR5.out _ _) Try.underlying27 rfl (by kernel_rfl)) rfl ⟨none, 0, none, 0, rfl, ⟨Kd.C_nil _ _, Nat.le_refl _⟩, ⟨Kd.C_nil _ _, Nat.le_refl _⟩, ?_⟩
            exact (HBX.out.setCell (p := ⟨w.heap.size, 0, none⟩) (Nat.le_refl _) _).setCell (p := ⟨w.heap.size, 1, none⟩) (Nat.le_refl _) _
          · simp only [if_true]
            have HMY := Aside0.mk hmy
            clear hmy
            go_wp2_with fail
            have hd : decM b = (cn, gs, 0) := by
              unfold decM
              simp only [HG.out]
              rw [if_pos ⟨trivial, HQ.out, by rw [HGS.out]; exact HMY.out⟩, HGS.out]
            rw [hd]
            refine bodyPost_ret (v := .tuple #[.agg #[.slice B1 cn.length d1, .slice AB gs.length cB], .int .i64 0]) (results_ct (p := 2) (u := 3) (ty := 27) rfl _ _ w.heap.size 27 #[.slice B1 cn.length d1, .slice AB gs.length cB] (0, 0) _ rfl (two_set HR5.out _ _) Try.underlying27 rfl (by kernel_rfl)) rfl ⟨B1, d1, AB, cB, rfl, ⟨?_, HC.out.2.2.2.1⟩, ⟨?_, (Kd.N_reads' HNF.out).2.1⟩, ?_⟩
            · have h1 := Kd.R_bound (Kd.R_below (Kd.R_below HR1.out HB.out) HB5.out)
              have h2 := Kd.R_mono (Kd.R_far h1 (p := ⟨w.heap.size, 0, none⟩) (fun b hb => by have := hb.2.1; show b ≠ w.heap.size; omega) (.slice B1 cn.length d1)) (fun _ hk => hk.1)
              have h3 := Kd.R_mono (Kd.R_far (Kd.R_bound h2) (p := ⟨w.heap.size, 1, none⟩) (fun b hb => by have := hb.2.1; show b ≠ w.heap.size; omega) (.slice AB gs.length cB)) (fun _ hk => hk.1)
              exact (Kd.R_reads' h3).2.2
            · have h1 := Kd.N_far (Kd.N_below HNF.out HB5.out) (p := ⟨w.heap.size, 0, none⟩) (fun b hb => by have := hb.2; show b ≠ w.heap.size; omega) (.slice B1 cn.length d1)
              have h2 := Kd.N_far h1 (p := ⟨w.heap.size, 1, none⟩) (fun b hb => by have := hb.2; show b ≠ w.heap.size; omega) (.slice AB gs.length cB)
              exact (Kd.N_reads' h2).2.2
            · exact (HBX.out.setCell (p := ⟨w.heap.size, 0, none⟩) (Nat.le_refl _) _).setCell (p := ⟨w.heap.size, 1, none⟩) (Nat.le_refl _) _
        · have HQ := Aside0.mk hq
          go_wp2_with fail
          have hd : decM b = ([], [], 10) := by
            unfold decM
            simp only [HG.out]
            exact if_neg (by rintro ⟨_, h2, _⟩; exact HQ.out h2)
          rw [hd]
          refine bodyPost_ret (v := .tuple #[.agg #[.slice none 0 0, .slice none 0 0], .int .i64 10]) (results_ct (p := 2) (u := 3) (ty := 27) rfl _ _ w.heap.size 27 #[.slice none 0 0, .slice none 0 0] (0, 0) _ rfl (two_set HRB'.out _ _) Try.underlying27 rfl (by kernel_rfl)) rfl ⟨none, 0, none, 0, rfl, ⟨Kd.C_nil _ _, Nat.le_refl _⟩, ⟨Kd.C_nil _ _, Nat.le_refl _⟩, ?_⟩
          exact (HBW.out.setCell (p := ⟨w.heap.size, 0, none⟩) (Nat.le_refl _) _).setCell (p := ⟨w.heap.size, 1, none⟩) (Nat.le_refl _) _
      · have he1 : (ec != 0) = true := by simpa using he
        have he2 : (ec == 0) = false := by simpa using he
        have HEC := Aside0.mk he
        clear he
        go_wp2_with fail
        have hd : decM b = ([], [], 10) := by
          unfold decM
          simp only [HG.out]
          exact if_neg (by rintro ⟨h2, _⟩; exact HEC.out h2)
        rw [hd]
        refine bodyPost_ret (v := .tuple #[.agg #[.slice none 0 0, .slice none 0 0], .int .i64 10]) (results_ct (p := 2) (u := 3) (ty := 27) rfl _ _ w.heap.size 27 #[.slice none 0 0, .slice none 0 0] (0, 0) _ rfl (two_set HRB'.out _ _) Try.underlying27 rfl (by kernel_rfl)) rfl ⟨none, 0, none, 0, rfl, ⟨Kd.C_nil _ _, Nat.le_refl _⟩, ⟨Kd.C_nil _ _, Nat.le_refl _⟩, ?_⟩
        exact (HBW.out.setCell (p := ⟨w.heap.size, 0, none⟩) (Nat.le_refl _) _).setCell (p := ⟨w.heap.size, 1, none⟩) (Nat.le_refl _) _
end Go.Proofs.Ytjkjpmfenillcaa.P
/- module.Same: whether two modules are the same; no statement of the seat. -/
set_option linter.unusedVariables false
set_option linter.unusedSimpArgs false
namespace Go.Proofs.Ytjkjpmfenillcaa.P
open Go.RowKit Go.Proofs.YtjkjpmfenillcaaW.PrintWords Go.Proofs.YtjkjpmfenillcaaW.PrintLast Go.Proofs.YtjkjpmfenillcaaW.PrintMore
def fnEq (x y : FnS) : Bool := (x.f0 == y.f0) && ((x.f1 == y.f1) && ((strOfNums x.f2).toList == (strOfNums y.f2).toList))
theorem same1_is (x y : FnS) : module_Same_1.f x.f0 x.f1 x.f2 y.f0 y.f1 y.f2 = some (fnEq x y) := by
  unfold module_Same_1.f fnEq
  by_cases h0 : x.f0 = y.f0
  · rw [if_pos h0, h0, beq_self_eq_true, Bool.true_and]
    by_cases h1 : x.f1 = y.f1
    · rw [if_pos h1, h1, beq_self_eq_true, Bool.true_and]
    · rw [if_neg h1, beq_eq_false_iff_ne.mpr h1, Bool.false_and]
  · rw [if_neg h0, beq_eq_false_iff_ne.mpr h0, Bool.false_and]
def eqFs : List FnS → List FnS → Bool
  | [], [] => true
  | x :: xs, y :: ys => fnEq x y && eqFs xs ys
  | _, _ => false
theorem eqFs_len : ∀ (l m : List FnS), l.length ≠ m.length → eqFs l m = false
  | [], [], h => absurd rfl h
  | [], _ :: _, _ => rfl
  | _ :: _, [], _ => rfl
  | x :: xs, y :: ys, h => by
    rw [eqFs, eqFs_len xs ys (by simpa using h), Bool.and_false]
theorem ints_k (x0 x1 : List Int) (hl : x0.length = x1.length) (hm : x0.length ≤ 4611686018427387904) : ∀ (d i k : Nat), i + d = x0.length → slices_Equal_int_int.l0 (k + 1 + d) x0 x1 (x0.length : Int) (i : Int) = some (x0.drop i == x1.drop i)
  | 0, i, k, h => by
    rw [Nat.add_zero, slices_Equal_int_int.l0, if_neg (by omega), List.drop_of_length_le (by omega), List.drop_of_length_le (by omega)]
    rfl
  | d + 1, i, k, h => by
    have hw : wrap64 ((i : Int) + 1) = ((i + 1 : Nat) : Int) := by unfold wrap64; omega
    have h0 : i < x0.length := by omega
    have h1 : i < x1.length := by omega
    have r0 : rd x0 (i : Int) = x0[i] := by unfold rd; rw [Int.toNat_natCast, List.getD_eq_getElem?_getD, List.getElem?_eq_getElem h0]; rfl
    have r1 : rd x1 (i : Int) = x1[i] := by unfold rd; rw [Int.toNat_natCast, List.getD_eq_getElem?_getD, List.getElem?_eq_getElem h1]; rfl
    rw [show k + 1 + (d + 1) = (k + 1 + d) + 1 by omega, slices_Equal_int_int.l0, if_pos (by omega), if_pos (by omega), if_pos (by omega), if_pos (by omega), r0, r1, hw]
    rw [← List.getElem_cons_drop h0, ← List.getElem_cons_drop h1]
    by_cases c : x0[i] = x1[i]
    · rw [if_pos c, ints_k x0 x1 hl hm d (i + 1) k (by omega), c, List.cons_beq_cons, beq_self_eq_true, Bool.true_and]
    · rw [if_neg c, List.cons_beq_cons, beq_eq_false_iff_ne.mpr c, Bool.false_and]
theorem ints_is (x0 x1 : List Int) (hm : x0.length ≤ 4611686018427387904) : ∃ k, slices_Equal_int_int.f k x0 x1 = some (x0 == x1) := by
  by_cases hl : x0.length = x1.length
  · refine ⟨0 + 1 + x0.length, ?_⟩
    unfold slices_Equal_int_int.f
    rw [if_pos (by omega)]
    have := ints_k x0 x1 hl hm x0.length 0 0 (by omega)
    simpa using this
  · refine ⟨0, ?_⟩
    unfold slices_Equal_int_int.f
    rw [if_neg (by omega)]
    congr 1
    symm
    rw [beq_eq_false_iff_ne]
    intro e
    exact hl (by rw [e])
set_option maxRecDepth 100000 in
set_option maxHeartbeats 4000000 in
theorem equalF (A : Option Addr) (c : Nat) (l : List FnS) (B : Option Addr) (d : Nat) (m : List FnS) (w : World) (hr : Kd.C k41 w A l.length l) (hs : Kd.C k41 w B m.length m) :
    Calls Try.prog 36 #[.slice A l.length c, .slice B m.length d, .func (.func 37) #[] #[]] w fun e w' => e = .returned (.bool (eqFs l m)) ∧ Below w.heap.size w w' := by
  have hmx := Kd.C_max hr
  have hmy := Kd.C_max hs
  have HR := Aside0.mk hr
  have HS := Aside0.mk hs
  clear hr hs
  by_cases hl : l.length = m.length
  · have hl1 : ((l.length : Int) != (m.length : Int)) = false := by simp [hl]
    have hl2 : ((l.length : Int) == (m.length : Int)) = true := by simp [hl]
    have HL := Aside0.mk hl
    clear hl
    go_enter Try.func36, Try.ntmps36
    go_wp2_with fail
    go_loopw [17] (fun v17 W => ∃ k : Nat, v17 = .int .i64 k ∧ k ≤ l.length ∧ eqFs (l.drop k) (m.drop k) = eqFs l m ∧ Below w.heap.size w W) (fun v17 _ => l.length - (intOf v17).toNat)
    case atStart => exact ⟨0, rfl, Nat.zero_le _, rfl, Below.refl _ _⟩
    case round =>
      obtain ⟨k, rfl, hk, hi, hB⟩ := hrel
      have HB := Aside0.mk hB
      clear hB
      have hlm := HL.out
      by_cases hlt : k < l.length
      · have hlt2 : k < m.length := by omega
        have hlt3 : (k : Int) < (m.length : Int) := by omega
        have hC := Kd.C_below HR.out HB.out
        have hD := Kd.C_below HS.out HB.out
        obtain ⟨ad, A2, c2, rfl, a1, a2, a3, hl2', hC2⟩ := at_T41 hC (k : Int) (by omega) (by omega)
        obtain ⟨bd, B2, d2, rfl, b1, b2, b3, hm2', hD2⟩ := at_T41 hD (k : Int) (by omega) (by omega)
        have hx : rd_T41 l (k : Int) = l[k] := by
          unfold rd_T41
          rw [Int.toNat_natCast, List.getD_eq_getElem?_getD, List.getElem?_eq_getElem hlt]
          rfl
        have hy : rd_T41 m (k : Int) = m[k] := by
          unfold rd_T41
          rw [Int.toNat_natCast, List.getD_eq_getElem?_getD, List.getElem?_eq_getElem hlt2]
          rfl
        obtain ⟨x, hxx⟩ : ∃ x, l[k] = x := ⟨_, rfl⟩
        obtain ⟨y, hyy⟩ : ∃ y, m[k] = y := ⟨_, rfl⟩
        rw [hx, hxx] at a1 a2 a3 hl2' hC2
        rw [hy, hyy] at b1 b2 b3 hm2' hD2
        simp only [Int.toNat_natCast] at a1 a2 a3 b1 b2 b3
        rw [← List.getElem_cons_drop hlt, ← List.getElem_cons_drop hlt2, hxx, hyy, eqFs] at hi
        have HC2 := Aside0.mk (And.intro hC2 hl2')
        have HD2 := Aside0.mk (And.intro hD2 hm2')
        have b1' : ∀ o, (wr.alloc o).cell? (bd.add (k * 3)) = some (.int .i64 y.f0) := fun o => pw_cell_below (below_alloc (Below.refl _ _) _) b1
        have b2' : ∀ o, (wr.alloc o).cell? ⟨(bd.add (k * 3)).block, (bd.add (k * 3)).off + 1, none⟩ = some (.int .i64 y.f1) := fun o => pw_cell_below (below_alloc (Below.refl _ _) _) b2
        have b3' : ∀ o, (wr.alloc o).cell? ⟨(bd.add (k * 3)).block, (bd.add (k * 3)).off + 2, none⟩ = some (.slice B2 y.f2.length d2) := fun o => pw_cell_below (below_alloc (Below.refl _ _) _) b3
        have HI := Aside0.mk hi
        clear hC hD hx hy hC2 hD2 hl2' hm2' hxx hyy hlm b1 b2 b3 hi
        go_wp2_with fail
        refine (module_Same_1.calls x.f0 x.f1 A2 c2 x.f2 y.f0 y.f1 B2 d2 y.f2 (fnEq x y) _ (Kd.C_alloc (Kd.C_alloc HC2.out.1 _) _) HC2.out.2 (Kd.C_alloc (Kd.C_alloc HD2.out.1 _) _) HD2.out.2 (same1_is x y)).mono ?_
        rintro e w1 ⟨rfl, hb⟩
        have HB1 := Aside0.mk (HB.out.trans (((below_alloc (below_alloc (Below.refl wr.heap.size wr) _) _).trans (hb.mono (by rw [World.size_alloc, World.size_alloc]; omega))).mono HB.out.size))
        clear hb
        cases hq : fnEq x y
        · rw [hq, Bool.false_and] at HI
          go_wp2_with fail
          go_ret
          rw [← HI.out]
          exact ⟨rfl, HB1.out⟩
        · rw [hq, Bool.true_and] at HI
          go_wp2_with fail
          go_roundw
          case rel => exact ⟨k + 1, by go_num, by omega, HI.out, HB1.out⟩
          case measure => simp [intOf]; omega
      · obtain rfl : k = l.length := by omega
        rw [List.drop_length, List.drop_of_length_le (by omega)] at hi
        have HI := Aside0.mk hi
        clear hi
        go_wp2_with fail
        go_ret
        rw [← HI.out]
        exact ⟨rfl, HB.out⟩
  · have hl1 : ((l.length : Int) != (m.length : Int)) = true := by simp; omega
    have hl2 : ((l.length : Int) == (m.length : Int)) = false := by simp; omega
    have HE := Aside0.mk (eqFs_len l m hl)
    clear hl
    go_enter Try.func36, Try.ntmps36
    go_wp2_with fail
    go_ret
    rw [HE.out]
    exact ⟨rfl, Below.refl _ _⟩
set_option maxRecDepth 100000 in
set_option maxHeartbeats 4000000 in
theorem msame_run (A0 : Option Addr) (c0 : Nat) (l0 : List Int) (A1 : Option Addr) (c1 : Nat) (l1 : List FnS) (B0 : Option Addr) (d0 : Nat) (m0 : List Int) (B1 : Option Addr) (d1 : Nat) (m1 : List FnS) (w : World) (h0 : Kd.C (Kd.int .i64) w A0 l0.length l0) (hc0 : l0.length ≤ c0) (h1 : Kd.C k41 w A1 l1.length l1) (g0 : Kd.C (Kd.int .i64) w B0 m0.length m0) (gc0 : m0.length ≤ d0) (g1 : Kd.C k41 w B1 m1.length m1) (hm : l0.length ≤ 4611686018427387904) :
    Calls Try.prog 14 #[.agg #[.slice A0 l0.length c0, .slice A1 l1.length c1], .agg #[.slice B0 m0.length d0, .slice B1 m1.length d1]] w fun e w' => e = .returned (.bool ((l0 == m0) && eqFs l1 m1)) ∧ Below w.heap.size w w' := by
  have H0 := Aside0.mk h0
  have H1 := Aside0.mk h1
  have G0 := Aside0.mk g0
  have G1 := Aside0.mk g1
  obtain ⟨kk, hk⟩ := ints_is l0 m0 hm
  have HK := Aside0.mk hk
  clear h0 h1 g0 g1 hk
  go_enter Try.func14, Try.ntmps14
  go_wp2_with fail
  obtain ⟨W2, hW2⟩ : ∃ W2, (w.alloc (.cells #[.slice A0 l0.length c0, .slice A1 l1.length c1] 27)).alloc (.cells #[.slice B0 m0.length d0, .slice B1 m1.length d1] 27) = W2 := ⟨_, rfl⟩
  have hb2 : Below w.heap.size w W2 := by rw [← hW2]; exact below_alloc (below_alloc (Below.refl _ _) _) _
  have hx2 : W2.heap[w.heap.size]? = some (.cells #[.slice A0 l0.length c0, .slice A1 l1.length c1] 27 (0, 0)) := by rw [← hW2]; exact blk_alloc (blk_new w _) _
  have hy2 : W2.heap[w.heap.size + 1]? = some (.cells #[.slice B0 m0.length d0, .slice B1 m1.length d1] 27 (0, 0)) := by
    rw [← hW2]
    have h := blk_new (w.alloc (.cells #[.slice A0 l0.length c0, .slice A1 l1.length c1] 27)) (.cells #[.slice B0 m0.length d0, .slice B1 m1.length d1] 27)
    rw [World.size_alloc] at h
    exact h
  rw [hW2]
  clear hW2
  refine (slices_Equal_int_int.calls kk A0 c0 l0 B0 d0 m0 (l0 == m0) W2 (Kd.C_below H0.out hb2) hc0 (Kd.C_below G0.out hb2) gc0 HK.out).mono ?_
  rintro e w1 ⟨rfl, hd⟩
  obtain ⟨m, hm'⟩ := hd.out
  subst hm'
  have x1 : (W2.drewN m).cell? ⟨w.heap.size, 1, none⟩ = some (.slice A1 l1.length c1) := blk_cell (blk_drewN hx2 m) 1
  have y1 : (W2.drewN m).cell? ⟨w.heap.size + 1, 1, none⟩ = some (.slice B1 m1.length d1) := blk_cell (blk_drewN hy2 m) 1
  have HB2 := Aside0.mk (pw_below_drewN hb2 m)
  clear hd hx2 hy2 hb2
  cases hq : (l0 == m0)
  · have HQ := Aside0.mk hq
    clear hq
    go_wp2_with fail
    go_ret
    exact ⟨by rw [HQ.out]; rfl, HB2.out⟩
  · have HQ := Aside0.mk hq
    clear hq
    go_wp2_with fail
    refine (equalF A1 c1 l1 B1 d1 m1 _ (Kd.C_below H1.out HB2.out) (Kd.C_below G1.out HB2.out)).mono ?_
    rintro e w3 ⟨rfl, hb3⟩
    have HB3 := Aside0.mk (below_step HB2.out hb3)
    clear hb3
    go_wp2_with fail
    go_ret
    exact ⟨by rw [HQ.out]; rfl, HB3.out⟩
end Go.Proofs.Ytjkjpmfenillcaa.P
/- module.Code: a function's instructions, and where each begins; no statement of the seat. -/
set_option linter.unusedVariables false
set_option linter.unusedSimpArgs false
namespace Go.Proofs.Ytjkjpmfenillcaa.P
open Go.RowKit Go.Proofs.YtjkjpmfenillcaaW.PrintWords Go.Proofs.YtjkjpmfenillcaaW.PrintLast Go.Proofs.YtjkjpmfenillcaaW.PrintMore
abbrev InS := S47
theorem R_own_ty {α : Type} {d : Kd α} {e base : Nat} {W : World} {ok : Nat → Prop} {v : Value} {xs : List α} (h : d.R e W base ok v xs) : ∀ k, v.ownBlock = some k → base ≤ k ∧ k < W.heap.size ∧ ∃ cs, W.heap[k]? = some (.cells cs e (0, 0)) := by
  obtain ⟨_, inner, ho, _⟩ := h
  exact fun k hk => ⟨own_base ho k hk, own_lt ho k hk, own_typed ho k hk⟩
theorem blk_other {W W1 : World} {e' : Nat} {u : Value} (hu : ∀ r, u.ownBlock = some r → ∃ cs, W.heap[r]? = some (.cells cs e' (0, 0))) (hg : W.grownBy W1 u.ownBlock) {k : Nat} {cs : Array Value} {t : TypeId} {z : Nat × Nat} (hb : W.heap[k]? = some (.cells cs t z)) (hne : t ≠ e') : W1.heap[k]? = some (.cells cs t z) := by
  refine blk_grown hb hg (fun e => ?_)
  obtain ⟨cs', h'⟩ := hu k e.symm
  rw [hb] at h'
  cases h'
  exact hne rfl
theorem R_other {α : Type} {d : Kd α} {e e' base : Nat} {W W1 : World} {v u : Value} {xs : List α} (hf : ∀ {ok1 ok2 : Nat → Prop} {x : α} {cs : List Value}, d.M W base ok1 x cs → d.M W base ok2 x cs) (h : d.R e W base (fun _ => True) v xs) (hu : ∀ r, u.ownBlock = some r → ∃ cs, W.heap[r]? = some (.cells cs e' (0, 0))) (hg : W.grownBy W1 u.ownBlock) (hne : e ≠ e') : d.R e W1 base (fun _ => True) v xs := by
  have h2 : d.R e W base (fun k => v.ownBlock = some k) v xs := Kd.R_flat hf h (fun k hk _ => hk)
  refine Kd.R_mono (Kd.R_grown h2 hg (fun k hk e => ?_)) (fun _ _ => trivial)
  obtain ⟨_, _, cs, hc⟩ := R_own_ty h k hk
  obtain ⟨cs', h'⟩ := hu k e.symm
  rw [hc] at h'
  cases h'
  exact hne rfl
/-- The places gathered so far, and what else stays. -/
structure PI (w W0 : World) (Bp : Nat) (A : Option Addr) (n c : Nat) (v0 : Value) (r1 : List InS) (W : World) (v : Value) (m : List Int) : Prop where
  bp : W.heap[Bp]? = some (.cells #[v] 24 (0, 0))
  bs : W.heap[Bp + 1]? = some (.cells #[.slice A n c] 22 (0, 0))
  rp : Kd.R (Kd.int .i64) 3 W (Bp + 2) (fun _ => True) v m
  rl : Kd.R k47 47 W w.heap.size (fun b => b < Bp) v0 r1
  hi : w.heap.size ≤ Bp
  hb : Below w.heap.size w W
theorem PI.keep {w W0 W W1 : World} {Bp : Nat} {A : Option Addr} {n c : Nat} {v0 v : Value} {r1 : List InS} {m : List Int} (h : PI w W0 Bp A n c v0 r1 W v m) {row : Option Nat} (hg : W.grownBy W1 row) (hr : ∀ r, row = some r → w.heap.size ≤ r ∧ ∃ o : Obj, W.heap[r]? = some o ∧ o.isCells = false) : PI w W0 Bp A n c v0 r1 W1 v m :=
  ⟨cells_kept h.bp hg (fun r e => (hr r e).2), cells_kept h.bs hg (fun r e => (hr r e).2), R_keptCells h.rp hg (fun r e => (hr r e).2), R_keptCells h.rl hg (fun r e => (hr r e).2), h.hi, h.hb.grown hg h.hb.size (fun r e => (hr r e).1)⟩
def PG (w W0 : World) (Bp : Nat) (A : Option Addr) (n c : Nat) (v0 : Value) (r1 : List InS) (xs : List Ins) (pre : List { x : Ins // x ∈ xs }) (W : World) : Prop := ∃ v, PI w W0 Bp A n c v0 r1 W v (pre.map (fun q => q.1.1))
theorem PG.kept (w W0 : World) (Bp : Nat) (A : Option Addr) (n c : Nat) (v0 : Value) (r1 : List InS) (xs : List Ins) {B : Nat} (hB : w.heap.size ≤ B) : OwnFrom B (PG w W0 Bp A n c v0 r1 xs) := by
  rintro pre W W' row ⟨v, h⟩ hg hr
  exact ⟨v, h.keep hg (fun r e => ⟨Nat.le_trans hB (hr r e).1, (hr r e).2⟩)⟩
open Go.Shelf in
attribute [local go_sem] Oper.semAt_some in
set_option maxRecDepth 100000 in
set_option maxHeartbeats 4000000 in
theorem mcode_ok (A0 : Option Addr) (c0 : Nat) (l0 : List Int) (A1 : Option Addr) (c1 : Nat) (l1 : List FnS) (f : Nat) (hf : f < l1.length) (x : FnS) (hx : l1[f] = x) (r1 : List InS) (r3 : Int) (xs : List Ins) (w : World) (h1 : Kd.C k41 w A1 l1.length l1) (hd : instr_Decode.f x.f2 = some (r1, 0, r3)) (hxs : allF 200 x.f2 5000 0 = some xs) (hxl : x.f2.length ≤ 4096) :
    Calls Try.prog 15 #[.agg #[.slice A0 l0.length c0, .slice A1 l1.length c1], .int .i64 f] w fun e w' => ∃ v0 v1 : Value, e = .returned (.tuple #[v0, v1, .int .i64 0]) ∧ Kd.R k47 47 w' w.heap.size (fun _ => True) v0 r1 ∧ Kd.R (Kd.int .i64) 3 w' w.heap.size (fun _ => True) v1 (xs.map (·.1)) ∧ Below w.heap.size w w' := by
  have hmx := Kd.C_max h1
  obtain ⟨ad, A2, c2, rfl, a1, a2, a3, hl2, hC2⟩ := at_T41 h1 (f : Int) (by omega) (by omega)
  have hxx : rd_T41 l1 (f : Int) = x := by
    unfold rd_T41
    rw [Int.toNat_natCast, List.getD_eq_getElem?_getD, List.getElem?_eq_getElem hf, Option.getD_some, hx]
  rw [hxx] at a1 a2 a3 hl2 hC2
  simp only [Int.toNat_natCast] at a1 a2 a3
  have HC2 := Aside0.mk hC2
  have HL2 := Aside0.mk hl2
  have HD := Aside0.mk hd
  have HXS := Aside0.mk hxs
  have a3' : ∀ o, (w.alloc o).cell? ⟨(ad.add (f * 3)).block, (ad.add (f * 3)).off + 2, none⟩ = some (.slice A2 x.f2.length c2) := fun o => pw_cell_below (below_alloc (Below.refl _ _) _) a3
  have hfi : (f : Int) < (l1.length : Int) := by omega
  have hf0 : decide ((f : Int) < 0) = false := by simp
  have A3 := Aside0.mk a3
  clear hC2 hl2 hd hxs h1 a1 a2 a3 hx hxx
  refine (callsIn_wide (n := 4)).1 ?_
  refine callsIn_of_wp_marks Try.func15 rfl trivial ?_ rfl
  simp only [Try.ntmps15, List.size_toArray, List.length_cons, List.length_nil, Nat.reduceAdd, Nat.reduceSub, Array.replicate_succ, Array.replicate_zero, List.push_toArray, List.append_toArray, List.nil_append, List.cons_append]
  refine wpIn_wide.2 ?_
  go_wp2_with fail
  refine (instr_Decode.calls A2 c2 x.f2 r1 0 r3 _ (Kd.C_alloc HC2.out _) HL2.out HD.out).mono ?_
  rintro e w2 ⟨v0, rfl, hR, hb2⟩
  have hmb := blk_below (blk_new w (.cells #[.slice A0 l0.length c0, .slice (some ad) l1.length c1] 27)) hb2
  have a4 : w2.cell? ⟨(ad.add (f * 3)).block, (ad.add (f * 3)).off + 2, none⟩ = some (.slice A2 x.f2.length c2) := pw_cell_below (below_step (below_alloc (Below.refl _ _) _) hb2) A3.out
  have a4' : ∀ o, (w2.alloc o).cell? ⟨(ad.add (f * 3)).block, (ad.add (f * 3)).off + 2, none⟩ = some (.slice A2 x.f2.length c2) := fun o => pw_cell_below (below_alloc (Below.refl _ _) _) a4
  have m1 : w2.cell? ⟨w.heap.size, 1, none⟩ = some (.slice (some ad) l1.length c1) := blk_cell hmb 1
  have hlw := blk_lt hmb
  obtain ⟨Av, cv, rfl⟩ := Kd.R_slice hR
  have HR := Aside0.mk hR
  have HB2 := Aside0.mk (below_step (below_alloc (Below.refl _ _) _) hb2)
  clear hR hb2 hmb a3'
  go_wp2_with fail
  refine ((callsIn_wide (n := 4)).1 (all_in 4 A2 x.f2.length c2 _)).mono ?_
  rintro e w3 ⟨rfl, rfl⟩
  go_wp2_with fail
  obtain ⟨W6, hW6⟩ : ∃ W6, (w2.alloc (.cells #[.slice none 0 0] 24)).alloc (.cells #[.slice A2 x.f2.length c2] 22) = W6 := ⟨_, rfl⟩
  have hb6 : Below w2.heap.size w2 W6 := by rw [← hW6]; exact below_alloc (below_alloc (Below.refl _ _) _) _
  have hz6 : W6.heap.size = w2.heap.size + 2 := by rw [← hW6, World.size_alloc, World.size_alloc]
  have hp6 : W6.heap[w2.heap.size]? = some (.cells #[.slice none 0 0] 24 (0, 0)) := by rw [← hW6]; exact blk_alloc (blk_new w2 _) _
  have hs6 : W6.heap[w2.heap.size + 1]? = some (.cells #[.slice A2 x.f2.length c2] 22 (0, 0)) := by
    rw [← hW6]
    have h := blk_new (w2.alloc (.cells #[.slice none 0 0] 24)) (.cells #[.slice A2 x.f2.length c2] 22)
    rw [World.size_alloc] at h
    exact h
  rw [hW6]
  have hP0 : PI w w2 w2.heap.size A2 x.f2.length c2 (.slice Av r1.length cv) r1 W6 (.slice none 0 0) [] :=
    ⟨hp6, hs6, Kd.R_nil _ _ _ _ _, Kd.R_mono (Kd.R_below (Kd.R_bound (Kd.R_lower HR.out (by rw [World.size_alloc]; omega))) hb6) (fun b hb => hb.2.2.1), by omega, below_step HB2.out hb6⟩
  have HP0 := Aside0.mk hP0
  have HZ6 := Aside0.mk hz6
  clear hb6 hz6 hp6 hs6 hW6 hP0
  refine (wpIn_wide (n := 4)).1 ?_
  refine wpIn_rangeFunc_ownH rfl (by omega) (gf := 68) (lb := #[.pointer (some ⟨w2.heap.size + 1, 0, none⟩)]) rfl trivial (enters_of Try.func68 (by kernel_rfl) rfl)
    (all_stops (4 - 1) (by omega) (w2.heap.size + 1) 200 5000 x.f2 A2 c2 HL2.out xs HXS.out w HC2.out W6 HP0.out.hb HP0.out.bs) (fun h k => KeepBox.t h k) (fun W l o o' => KeepBox.b (by have := HP0.out.hb.size; omega) (by have := HZ6.out; omega) W l o o') (Below.refl _ _) (fun _ => rfl)
    (PG w w2 w2.heap.size A2 x.f2.length c2 (.slice Av r1.length cv) r1 xs) (fun _ _ _ => False) (PG.kept _ _ _ _ _ _ _ _ _ (by have := HP0.out.hb.size; omega)) (fun _ _ _ _ _ hs _ _ => hs) ⟨_, HP0.out⟩
    (fun q a' Wb => a' = { tmps := List.toArray ((Value.agg #[Value.slice A0 l0.length c0, Value.slice (some ad) l1.length c1]) :: (Value.int IntKind.i64 f) :: (Value.pointer (some ⟨w.heap.size, 0, none⟩)) :: (undef) :: (Value.slice none 0 0) :: (Value.slice none 0 0) :: (Value.int IntKind.i64 0) :: (Value.slice Av r1.length cv) :: (Value.int IntKind.i64 0) :: (Value.int IntKind.i64 r3) :: (Value.pointer (some ⟨w2.heap.size, 0, none⟩)) :: (Value.int IntKind.i64 q.1.1) :: (Value.int IntKind.i64 f) :: (Value.bool false) :: (Value.bool false) :: (Value.int IntKind.i64 f) :: (Value.pointer (some ⟨w.heap.size, 1, none⟩)) :: (Value.slice (some ad) l1.length c1) :: (Value.int IntKind.i64 l1.length) :: (Value.bool false) :: (Value.bool false) :: (Value.tuple #[Value.slice Av r1.length cv, Value.int IntKind.i64 0, Value.int IntKind.i64 r3]) :: (Value.pointer (some ⟨w.heap.size, 1, none⟩)) :: (Value.slice (some ad) l1.length c1) :: (Value.int IntKind.i64 f) :: (Value.pointer (some (ad.add (f * 3)))) :: (Value.pointer (some ⟨(ad.add (f * 3)).block, (ad.add (f * 3)).off + 2, none⟩)) :: (Value.slice A2 x.f2.length c2) :: (Value.tuple #[Value.slice Av r1.length cv, Value.int IntKind.i64 0, Value.int IntKind.i64 r3]) :: (Value.slice Av r1.length cv) :: (Value.int IntKind.i64 0) :: (Value.int IntKind.i64 r3) :: (Value.int IntKind.i64 0) :: (Value.bool false) :: (undef) :: (Value.pointer (some ⟨w.heap.size, 1, none⟩)) :: (Value.slice (some ad) l1.length c1) :: (Value.int IntKind.i64 f) :: (Value.pointer (some (ad.add (f * 3)))) :: (Value.pointer (some ⟨(ad.add (f * 3)).block, (ad.add (f * 3)).off + 2, none⟩)) :: (Value.slice A2 x.f2.length c2) :: (Value.func (Fn.func 68) #[] #[Value.pointer (some ⟨w2.heap.size + 1, 0, none⟩)]) :: (Value.int IntKind.i64 q.1.1) :: (Value.agg #[Value.int IntKind.i64 q.1.2.f0, Value.int IntKind.i64 q.1.2.f1]) :: (undef) :: (undef) :: (undef) :: (undef) :: (undef) :: (undef) :: []), defers := [] }) (fun q a' => (by rintro _ W W' row h hg hr; exact h)) ?assign ?body ?done ?stop
  case assign =>
    rintro l pre q W K ⟨v, hi⟩ hK
    gi_wp2
    exact hK _ _ ((KeepsOthers.refl _).from _) ⟨Below.refl _ _, rfl⟩ ⟨v, hi⟩ rfl
  case body =>
    rintro l pre q a' W hl hloop ⟨v, hi⟩ rfl hlt
    have hpl : pre.length ≤ 4096 := by
      have h := allF_len 200 x.f2 5000 0 xs HXS.out
      omega
    have b0 : W.cell? ⟨w2.heap.size, 0, none⟩ = some v := blk_cell hi.bp 0
    have hlw' := blk_lt hi.bs
    obtain ⟨i0, hi0, hi1, hi2, hi3⟩ := info_parts info3
    have hty := R_own_ty (Kd.R_alloc hi.rp (.cells #[.int .i64 q.1.1] 3))
    obtain ⟨hk0, inner, hown, hreps⟩ := Kd.R_alloc hi.rp (.cells #[.int .i64 q.1.1] 3)
    have HP := Aside0.mk hi
    have HP2 := Aside0.mk (hi.keep (W1 := W.alloc (.cells #[.int .i64 q.1.1] 3)) (row := none) (World.grownBy_alloc W _ none) (fun r e => by cases e))
    have HK0 := Aside0.mk hk0
    have HREPS := Aside0.mk hreps
    have HOWN := Aside0.mk hown
    have HI := Aside0.mk hi0
    have HI1 := Aside0.mk hi1
    have HI2 := Aside0.mk hi2
    have HI3 := Aside0.mk hi3
    have HTY := Aside0.mk hty
    have HPL := Aside0.mk hpl
    clear hi hk0 hreps hown hi0 hi1 hi2 hi3 hty hlt hl hloop hpl
    have t1 : (pre.map (fun q : { x : Ins // x ∈ xs } => q.1.1)).length + 1 ≤ maxLen := by have := HPL.out; simp [maxLen]; omega
    have t2 : ((pre.map (fun q : { x : Ins // x ∈ xs } => q.1.1)).length + 1) * 8 ≤ 140737488355328 := by have := HPL.out; simp; omega
    have t3 : w2.heap.size + 2 ≤ (W.alloc (.cells #[.int .i64 q.1.1] 3)).heap.size := by rw [World.size_alloc]; omega
    have t4 : ∀ u ∈ [Value.int .i64 q.1.1], u.oneCell' = true := by simp [Value.oneCell']
    have t5 : ∀ j u, [Value.int .i64 q.1.1][j]? = some u → (W.alloc (.cells #[.int .i64 q.1.1] 3)).cell? ((⟨W.heap.size, 0, none⟩ : Addr).add j) = some u := by
      intro j u hj
      match j, hj with
      | 0, hj => simp at hj; subst hj; simp [Addr.add]
    gi_wp2_with (gi_at_builtin; go_loud (refine wpListIn_append_own_at _ rfl _ _ 24 rfl (w2.heap.size + 2) 3 i0 (.int .i64 0) 1 8 Try.underlying24 HI.out HI1.out HI2.out HI3.out rfl (by decide) v _ inner rfl HOWN.out ⟨W.heap.size, 0, none⟩ 1 1 [.int .i64 q.1.1] rfl rfl t5 t4 t1 t2 t3 ?_; intro v' w4 hown' hg _ hat; have hat' : v'.ownBlock = v.ownBlock ∨ ∃ b, v'.ownBlock = some b ∧ (W.alloc (.cells #[.int .i64 q.1.1] 3)).heap.size ≤ b := (hat.elim .inl (fun e => .inr ⟨_, e, Nat.le_refl _⟩)); have hR1 := Kd.R_appended (d := Kd.int .i64) (okp := fun _ => False) HK0.out HREPS.out (show (Kd.int .i64).M (W.alloc (.cells #[.int .i64 q.1.1] 3)) (w2.heap.size + 2) (fun _ => False) q.1.1 [.int .i64 q.1.1] from rfl) (fun _ hk => hk.elim) (fun _ _ => trivial) hown' hg hat'; obtain ⟨g', cap', hv'⟩ := ownsRow_succ hown'; subst hv'; have hu : ∀ r, v.ownBlock = some r → ∃ cs, (W.alloc (.cells #[.int .i64 q.1.1] 3)).heap[r]? = some (.cells cs 3 (0, 0)) := fun r e => (HTY.out r e).2.2; have hp4 := blk_other hu hg HP2.out.bp (by decide); have z0 := blk_cell hp4 0; have y0 := blk_frozen hp4 0; have HR1 := Aside0.mk hR1; have HG := Aside0.mk hg; have HU := Aside0.mk hu; have HP4 := Aside0.mk hp4; clear hR1 hg hat hat' hown' hu hp4))
    have hbs4 := blk_other HU.out HG.out HP2.out.bs (by decide)
    have hlo := HP.out.hi
    have hbw : Below w.heap.size W ((w4.setCell ⟨w2.heap.size, 0, none⟩ (.slice (some ⟨g', 0, none⟩) (pre.length + 1) cap'))) := (((Below.refl w.heap.size W).alloc HP.out.hb.size _).grown HG.out (by rw [World.size_alloc]; have := HP.out.hb.size; omega) (fun r e => by have := (HTY.out r e).1; omega)).setCell (p := ⟨w2.heap.size, 0, none⟩) hlo _
    have hbs5 : (w4.setCell ⟨w2.heap.size, 0, none⟩ (.slice (some ⟨g', 0, none⟩) (pre.length + 1) cap')).heap[w2.heap.size + 1]? = some (.cells #[.slice A2 x.f2.length c2] 22 (0, 0)) := (Below.heap_setCell w4 ⟨w2.heap.size, 0, none⟩ _ _ (by show w2.heap.size + 1 ≠ w2.heap.size; omega)).trans hbs4
    refine ⟨(((KeepsOthers.alloc _ _).trans (KeepsOthers.of_grownBy HG.out (fun j o e ho => by obtain ⟨cs, hc⟩ := HU.out j e; rw [hc] at ho; cases ho; rfl))).trans (KeepsOthers.setCell _ _ _)).from _, ⟨hbw, hbs5.trans HP.out.bs.symm⟩, ⟨_, blk_set HP4.out 0 _, hbs5, ?_, ?_, hlo, HP.out.hb.trans hbw⟩⟩
    · have h := HR1.out
      simp only [List.length_map] at h
      rw [List.map_append]
      exact R_late (w1 := w4.setCell ⟨w2.heap.size, 0, none⟩ (.slice (some ⟨g', 0, none⟩) (pre.length + 1) cap')) h (fun k hk _ => Below.heap_setCell w4 _ _ k (by show k ≠ w2.heap.size; omega))
    · exact Kd.R_far (Kd.R_grown HP2.out.rl HG.out (fun k hk e => by have := (HTY.out k e.symm).1; omega)) (p := ⟨w2.heap.size, 0, none⟩) (fun k hk => by show k ≠ w2.heap.size; omega) _
  case done =>
    rintro D ys W hD hys ⟨v, hi⟩ hK
    have e9 : ys.map (fun q => q.1.1) = xs.map (·.1) := by
      have h := congrArg (List.map Prod.fst) hys
      rw [List.map_map] at h
      exact h
    have d8 : ∀ nq, (W.drewN nq).cell? ⟨w2.heap.size, 0, none⟩ = some v := fun nq => blk_cell (blk_drewN hi.bp nq) 0
    have r9 := hi.rp
    rw [e9] at r9
    obtain ⟨Ap, cp, hv⟩ := Kd.R_slice r9
    subst hv
    have HR9 := Aside0.mk r9
    have HRL := Aside0.mk hi.rl
    have HBD := Aside0.mk hi.hb
    have HLO := Aside0.mk hi.hi
    have HKD := Aside0.mk hK
    have HDD := Aside0.mk hD
    have HZ7 := HZ6.out
    clear hi hK hD r9 e9
    gi_wp2
    go_wp2_with fail
    go_quiet (fail)
    go_wp2_with fail
    have hKd : (W.drewN nq).heap[D]? = some (.deferred (some [])) := HKD.out
    have hDw : w.heap.size ≤ D := by have := HDD.out; have := HBD.out.size; have := HLO.out; omega
    have hbl : Below w.heap.size w ((W.drewN nq).putObj D (.deferred none)) := (pw_below_drewN HBD.out nq).trans (belowK_b (w := w) (Nat.le_refl _) (W.drewN nq) D _ _ hDw hKd rfl rfl)
    have hR8 := R_keptCells (Kd.R_drewN HRL.out nq) (grownBy_putObj' (W.drewN nq) D (.deferred none)) (fun r e => by cases e; exact ⟨_, hKd, rfl⟩)
    have hR9 := R_keptCells (Kd.R_drewN HR9.out nq) (grownBy_putObj' (W.drewN nq) D (.deferred none)) (fun r e => by cases e; exact ⟨_, hKd, rfl⟩)
    have hlow : w.heap.size ≤ w2.heap.size + 2 := by have := HLO.out; omega
    refine ⟨by simp, .inl ⟨_, _, rfl, run_takeDeferred hKd, ?_⟩⟩
    refine ⟨.tuple #[.slice Av r1.length cv, .slice Ap (xs.map (·.1)).length cp, .int .i64 0], ?_, _, _, rfl, Kd.R_mono hR8 (fun _ _ => trivial), Kd.R_lower hR9 hlow, hbl⟩
    simp [results, Try.f15, go_sem]
  case stop =>
    rintro D c pre W _ _ h _
    exact h.elim
end Go.Proofs.Ytjkjpmfenillcaa.P
