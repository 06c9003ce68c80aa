/- Ytdcjbkhfopdgnaa: what Go functions come to, and that they do: walks, printed by a program of this session or typed by hand; no statement of the seat stands here. -/
import Derived.Test.YtdcjbkhfopdgnaaP0
import Derived.Test.YtdcjbkhfopdgnaaPF33
import Derived.Test.YtdcjbkhfopdgnaaPF53
import Derived.BigRegion
import Derived.Deep.DeepCutAuto
import Derived.Deep.RegionHeld3
import Derived.LoopTactic
import Derived.RegionTactic
import Derived.Test.YtdcjbkhfopdgnaaPF33
import Derived.Test.YtdcjbkhfopdgnaaPF53
namespace Go.Proofs.Ytdcjbkhfopdgnaa.P
open Go.RowKit Go.Proofs.YtdcjbkhfopdgnaaW.PrintWords Go.Proofs.YtdcjbkhfopdgnaaW.PrintLast Go.Proofs.YtdcjbkhfopdgnaaW.PrintMore
attribute [local go_sem] max2_int min2_int max_two min_two max_three min_three max_four min_four   -- for this text's walks alone
set_option linter.unusedVariables false
set_option linter.unusedSimpArgs false


/-! ### instr_Encode: function 25 -/
-- IMPORT Derived.LoopTactic
-- IMPORT Derived.RegionTactic
-- IMPORT Derived.BigRegion
-- IMPORT Derived.Deep.RegionHeld3
-- IMPORT Derived.Deep.DeepCutAuto
-- IMPORT Derived.Test.YtdcjbkhfopdgnaaPF53
-- IMPORT Derived.Test.YtdcjbkhfopdgnaaPF33
/-- The first instruction that may not be. -/
def idxI : List S58 → Nat → Option Int
  | [], _ => some (-1)
  | x :: xs, k => (instr_may.f 200 x.f0 x.f1).bind fun m => if m = true then idxI xs (k + 1) else some (k : Int)
set_option maxRecDepth 100000 in
set_option maxHeartbeats 2000000 in
theorem notmay (a b : Int) (r : Bool) (w : World) (h : instr_may.f 200 a b = some r) :
    Calls Try.prog 52 #[.agg #[.int .i64 a, .int .i64 b]] w fun e w' => e = .returned (.bool (!r)) ∧ Below w.heap.size w w' := by
  go_enter Try.func52, Try.ntmps52
  go_wp2_with fail
  refine (instr_may.calls 200 a b r _ h).mono ?_
  rintro e w1 ⟨rfl, hb⟩
  go_wp2_with fail
  go_ret
  exact ⟨rfl, ((Below.refl w.heap.size w).alloc (Nat.le_refl _) _).trans (hb.mono (by simp))⟩
set_option maxRecDepth 100000 in
set_option maxHeartbeats 4000000 in
theorem indexFunc (A : Option Addr) (c : Nat) (l : List S58) (r : Int) (w : World) (hr : Kd.C k58 w A l.length l) (h : idxI l 0 = some r) :
    Calls Try.prog 51 #[.slice A l.length c, .func (.func 52) #[] #[]] w fun e w' => e = .returned (.int .i64 r) ∧ Below w.heap.size w w' := by
  have hmx := Kd.C_max hr
  have HR := Aside0.mk hr
  have H := Aside0.mk h
  clear hr h
  go_enter Try.func51, Try.ntmps51
  go_wp2_with fail
  go_loopw [8] (fun v8 W => ∃ k : Nat, v8 = .int .i64 k ∧ k ≤ l.length ∧ idxI (l.drop k) k = some r ∧ Below w.heap.size w W) (fun v8 _ => l.length - (intOf v8).toNat)
  case atStart => exact ⟨0, rfl, Nat.zero_le _, H.out, Below.refl _ _⟩
  case round =>
    obtain ⟨k, rfl, hk, hi, hB⟩ := hrel
    have HB := Aside0.mk hB
    clear hB
    by_cases hlt : k < l.length
    · have hC := Kd.C_below HR.out HB.out
      obtain ⟨ad, rfl, a1, a2⟩ := at_T58 hC (k : Int) (by omega) (by omega)
      have hx : rd_T58 l (k : Int) = l[k] := by
        unfold rd_T58
        rw [Int.toNat_natCast, List.getD_eq_getElem?_getD, List.getElem?_eq_getElem hlt]
        rfl
      rw [hx] at a1 a2
      simp only [Int.toNat_natCast] at a1 a2
      rw [← List.getElem_cons_drop hlt, idxI] at hi
      obtain ⟨m, hm, hi⟩ := Option.bind_eq_some_iff.mp hi
      have HM := Aside0.mk hm
      clear hm hC hx
      by_cases c : m = true
      · rw [if_pos c] at hi
        have HI := Aside0.mk hi
        subst c
        clear hi
        go_wp2_with fail
        refine (notmay _ _ true _ HM.out).mono ?_
        rintro e w1 ⟨rfl, hb⟩
        have HB1 := Aside0.mk (below_step HB.out hb)
        clear hb
        go_wp2_with fail
        go_roundw
        case rel => exact ⟨k + 1, by go_num, by omega, HI.out, HB1.out⟩
        case measure => simp [intOf]; omega
      · rw [if_neg c] at hi
        have c' : m = false := by cases m <;> simp_all
        subst c'
        obtain rfl := Option.some.inj hi
        clear hi c
        go_wp2_with fail
        refine (notmay _ _ false _ HM.out).mono ?_
        rintro e w1 ⟨rfl, hb⟩
        have HB1 := Aside0.mk (below_step HB.out hb)
        clear hb
        go_wp2_with fail
        go_ret
        exact ⟨rfl, HB1.out⟩
    · obtain rfl : k = l.length := by omega
      rw [List.drop_length, idxI] at hi
      obtain rfl := Option.some.inj hi
      clear hi
      go_wp2_with fail
      go_ret
      exact ⟨rfl, HB.out⟩
def ins3 (x : S58) : List Int := [IntKind.u8.wrap x.f0, IntKind.u8.wrap x.f1, IntKind.u8.wrap (x.f1 / 256)]
def insBytes (x : S58) (s : Int) : List Int := (ins3 x).take s.toNat
theorem C_new8 (w : World) (xs : List Int) (hn : xs.length ≤ 100) : Kd.C (Kd.int .u8) (w.alloc (.cells (encs (Value.int .u8) xs).toArray 5)) (some ⟨w.heap.size, 0, none⟩) xs.length xs := by
  have h := own_lit_of (enc := Value.int .u8) w w.heap.size 5 xs (Nat.le_refl _) (by omega)
  obtain ⟨A, c, he, hr⟩ := own_reads_of (d := (0 : Int)) h
  simp only [Value.slice.injEq] at he
  obtain ⟨rfl, _, _⟩ := he
  exact Kd.C_of_reads (h1 := fun _ => rfl) hr
theorem C_ins (w : World) (x : S58) (m : Nat) (hm : m ≤ 3) : Kd.C (Kd.int .u8) (w.alloc (.cells #[.int .u8 (IntKind.u8.wrap x.f0), .int .u8 (IntKind.u8.wrap x.f1), .int .u8 (IntKind.u8.wrap (x.f1 / 256))] 5)) (some ⟨w.heap.size, 0, none⟩) m ((ins3 x).take m) := by
  have h := Kd.C_take (m := m) (C_new8 w (ins3 x) (by simp [ins3])) hm
  have e : ((ins3 x).take m).length = m := by rw [List.length_take]; simp [ins3]; omega
  rw [e] at h
  exact h
/-- The bytes of instructions; false: too long. -/
def encL : List S58 → List Int → Option (List Int × Bool)
  | [], o => some (o, true)
  | x :: xs, o => (instr_Size.f 200 x.f0).bind fun s => if 0 ≤ s ∧ s ≤ 3 then (if (o ++ insBytes x s).length > 4096 then some ([], false) else encL xs (o ++ insBytes x s)) else none
def instr_Encode.f (l0 : List S58) : Option (List Int × Int × Int) :=
  (idxI l0 0).bind fun i => if i ≥ 0 then some ([], 50, i) else (encL l0 []).bind fun r => if r.2 = true then some (r.1, 0, (r.1.length : Int)) else some ([], 3, 0)
set_option maxRecDepth 100000 in
set_option maxHeartbeats 4000000 in
theorem enc_run (A : Option Addr) (c : Nat) (l : List S58) (w : World) (hr : Kd.C k58 w A l.length l) (hi : idxI l 0 = some (-1)) (o : List Int) (ok : Bool) (he : encL l [] = some (o, ok)) :
    Calls Try.prog 25 #[.slice A l.length c] w fun e w' => ∃ v0_ : Value, e = .returned (.tuple #[v0_, .int .i64 (if ok = true then 0 else 3), .int .i64 (if ok = true then o.length else 0)]) ∧ Kd.R (Kd.int .u8) 5 w' w.heap.size (fun _ => True) v0_ (if ok = true then o else []) ∧ Below w.heap.size w w' := by
  have hmx := Kd.C_max hr
  have HR := Aside0.mk hr
  have HE := Aside0.mk he
  have HI := Aside0.mk hi
  clear hr he hi
  go_enter Try.func25, Try.ntmps25
  go_wp2_with fail
  refine (indexFunc A c l (-1) _ HR.out HI.out).mono ?_
  rintro e w0 ⟨rfl, hb0⟩
  have HB0 := Aside0.mk hb0
  clear hb0
  go_wp2_with fail
  go_loopw [6, 16] (fun v6 v16 W => ∃ (k : Nat) (p : List Int), v16 = .int .i64 k ∧ k ≤ l.length ∧ p.length ≤ 4096 ∧ encL (l.drop k) p = some (o, ok) ∧ Kd.R (Kd.int .u8) 5 W w.heap.size (fun _ => True) v6 p ∧ Below w.heap.size w W) (fun _ v16 _ => l.length - (intOf v16).toNat)
  case atStart => exact ⟨0, [], rfl, Nat.zero_le _, by simp, HE.out, Kd.R_nil _ _ _ _ _, HB0.out⟩
  case round =>
    obtain ⟨k, p, rfl, hk, hp, hi, hR, hB⟩ := hrel
    obtain ⟨A6, c6, hv⟩ := Kd.R_slice hR
    subst hv
    have HB := Aside0.mk hB
    have HRp := Aside0.mk hR
    clear hB hR
    by_cases hlt : k < l.length
    · have hC := Kd.C_below HR.out HB.out
      obtain ⟨ad, rfl, a1, a2⟩ := at_T58 hC (k : Int) (by omega) (by omega)
      have hx : rd_T58 l (k : Int) = l[k] := by
        unfold rd_T58
        rw [Int.toNat_natCast, List.getD_eq_getElem?_getD, List.getElem?_eq_getElem hlt]
        rfl
      rw [hx] at a1 a2
      simp only [Int.toNat_natCast] at a1 a2
      rw [← List.getElem_cons_drop hlt, encL] at hi
      obtain ⟨s, hs, hi⟩ := Option.bind_eq_some_iff.mp hi
      obtain ⟨x, hxx⟩ : ∃ x, x = l[k] := ⟨_, rfl⟩
      rw [← hxx] at a1 a2 hi hs
      have HSz := Aside0.mk hs
      have HI2 := Aside0.mk hi
      have HXX := Aside0.mk hxx
      clear hs hC hx hi hxx
      go_upto_region 8 with (fail)
      obtain ⟨W2, hW2⟩ : ∃ W2, W2 = wr.alloc (.cells #[.int .i64 x.f0, .int .i64 x.f1] 58) := ⟨_, rfl⟩
      rw [← hW2]
      have hbx : W2.heap[wr.heap.size]? = some (.cells #[.int .i64 x.f0, .int .i64 x.f1] 58 (0, 0)) := by rw [hW2]; exact heap_alloc_new wr _
      have x0 : W2.cell? ⟨wr.heap.size, 0, none⟩ = some (.int .i64 x.f0) := blk_cell hbx 0
      have x1 : W2.cell? ⟨wr.heap.size, 1, none⟩ = some (.int .i64 x.f1) := blk_cell hbx 1
      have hz2 : W2.heap.size = wr.heap.size + 1 := by rw [hW2]; exact World.size_alloc _ _
      have lx : wr.heap.size < W2.heap.size := by omega
      have HB2 := Aside0.mk (show Below w.heap.size w W2 by rw [hW2]; exact HB.out.alloc HB.out.size _)
      have HR2 := Aside0.mk (show Kd.R (Kd.int .u8) 5 W2 w.heap.size (fun _ => True) (.slice A6 p.length c6) p by rw [hW2]; exact Kd.R_alloc HRp.out _)
      have Z2 := Aside0.mk hz2
      have hne0 : some wr.heap.size ≠ (Value.slice A6 p.length c6).ownBlock := by
        obtain ⟨inner, hown⟩ := Kd.R_own HR2.out
        exact own_ne hown hbx (by decide)
      clear hbx hW2 hz2 a1 a2
      have hsx : 0 ≤ s ∧ s ≤ 3 := by
        by_cases c : 0 ≤ s ∧ s ≤ 3
        · exact c
        · have h := HI2.out; rw [if_neg c] at h; cases h
      have hs4 : s = 0 ∨ s = 1 ∨ s = 2 ∨ s = 3 := by omega
      rcases hs4 with rfl | rfl | rfl | rfl
      · obtain ⟨q, hq⟩ : ∃ q, q = p ++ (ins3 x).take 0 := ⟨_, rfl⟩
        have HI3 := Aside0.mk (show (if q.length > 4096 then some ([], false) else encL (l.drop (k + 1)) q) = some (o, ok) by have h := HI2.out; rw [if_pos (by decide)] at h; rw [hq]; exact h)
        have HQ := Aside0.mk hq
        clear hq HI2
        go_region_held3 (fun w' => w'.cell? ⟨wr.heap.size, 0, none⟩ = some (.int .i64 x.f0) ∧ w'.cell? ⟨wr.heap.size, 1, none⟩ = some (.int .i64 x.f1)) (go_keep) (first
          | (refine goes_ Try.func33 (by kernel_rfl) rfl #[.int .i64 x.f0] rfl rfl rfl (by first | rfl | (simp only [List.map_toArray, List.map_cons, List.map_nil]; rfl) | (simp [Act.eval, Act.put])) ?_; refine (instr_Size.calls 200 x.f0 0 _ HSz.out).mono ?_; rintro e w1 ⟨rfl, hd⟩; obtain ⟨m, rfl⟩ := hd.out; refine ⟨_, rfl, ?_⟩)
          | (refine Kd.R_append_rows_step (Kd.int .u8) (Rr := fun x cs => cs = [.int .u8 x]) (w0 := w) w.heap.size rfl (.tmp 20) (.tmp 35) 46 5 (.int .u8 0) 1 rfl Try.underlying46 info5 rfl (by decide) (by decide) (.slice A6 p.length c6) p ((ins3 x).take 0) (some ⟨W2.heap.size, 0, none⟩) 0 3 (fun _ => True) (fun _ => False) ?h1 ?h2 ?aO ?aR (fun _ _ h => h) (fun _ hk => hk.elim) (fun _ _ => trivial) ?aB ?aS ?aL ?_; (case h1 => first | rfl | simp [Act.eval, Act.put]); (case h2 => first | rfl | simp [Act.eval, Act.put]); (case aO => (with_reducible repeat (first | apply Kd.R_drewN | apply Kd.R_drew | apply Kd.R_alloc)); exact HR2.out); (case aR => show Kd.C (Kd.int .u8) _ (some ⟨W2.heap.size, 0, none⟩) 0 ((ins3 x).take 0); (with_reducible repeat (first | apply Kd.C_drewN | apply Kd.C_drew)); exact C_ins W2 x 0 (by decide)); (case aB => repeat (first | (with_reducible first | exact HB2.out | apply below_alloc | apply pw_below_drewN | apply below_drew1) | exact HB2.out)); (case aL => omega); (case aS => exact below_size (by repeat (first | (with_reducible first | exact HB2.out | apply below_alloc | apply pw_below_drewN | apply below_drew1) | exact HB2.out))); intro v1 w1 ho hb1 hg hat; have g0 : w1.cell? ⟨wr.heap.size, 0, none⟩ = some (.int .i64 x.f0) := hg.cell (by first | assumption | exact pw_cell_below (by repeat (first | exact Below.refl _ _ | apply below_alloc | apply pw_below_drewN | apply below_drew1)) x0) hne0; have g1 : w1.cell? ⟨wr.heap.size, 1, none⟩ = some (.int .i64 x.f1) := hg.cell (by first | assumption | exact pw_cell_below (by repeat (first | exact Below.refl _ _ | apply below_alloc | apply pw_below_drewN | apply below_drew1)) x1) hne0; rw [← HQ.out] at ho; obtain ⟨A1, c1, hv1⟩ := Kd.R_slice ho; subst hv1; have HO1 := Aside0.mk ho; have HBB := Aside0.mk hb1; clear ho hb1 hg hat))
        all_goals
          have hI := HI3.out
          clear g0 g1
          by_cases hgt : q.length > 4096
          · rw [if_pos hgt] at hI
            simp only [Option.some.injEq, Prod.mk.injEq] at hI
            obtain ⟨rfl, rfl⟩ := hI
            have hgt1 : (4096 : Int) < (q.length : Int) := by omega
            go_wp2_with fail
            go_ret3
            exact ⟨_, rfl, Kd.R_nil _ _ _ _ _, HBB.out⟩
          · rw [if_neg hgt] at hI
            have HI4 := Aside0.mk hI
            clear hI
            have hgt1 : (q.length : Int) ≤ 4096 := by omega
            go_wp2_with fail
            go_roundw
            case rel => exact ⟨k + 1, q, by go_num, by omega, by omega, HI4.out, HO1.out, HBB.out⟩
            case measure => simp [intOf]; omega
      · obtain ⟨q, hq⟩ : ∃ q, q = p ++ (ins3 x).take 1 := ⟨_, rfl⟩
        have HI3 := Aside0.mk (show (if q.length > 4096 then some ([], false) else encL (l.drop (k + 1)) q) = some (o, ok) by have h := HI2.out; rw [if_pos (by decide)] at h; rw [hq]; exact h)
        have HQ := Aside0.mk hq
        clear hq HI2
        go_region_held3 (fun w' => w'.cell? ⟨wr.heap.size, 0, none⟩ = some (.int .i64 x.f0) ∧ w'.cell? ⟨wr.heap.size, 1, none⟩ = some (.int .i64 x.f1)) (go_keep) (first
          | (refine goes_ Try.func33 (by kernel_rfl) rfl #[.int .i64 x.f0] rfl rfl rfl (by first | rfl | (simp only [List.map_toArray, List.map_cons, List.map_nil]; rfl) | (simp [Act.eval, Act.put])) ?_; refine (instr_Size.calls 200 x.f0 1 _ HSz.out).mono ?_; rintro e w1 ⟨rfl, hd⟩; obtain ⟨m, rfl⟩ := hd.out; refine ⟨_, rfl, ?_⟩)
          | (refine Kd.R_append_rows_step (Kd.int .u8) (Rr := fun x cs => cs = [.int .u8 x]) (w0 := w) w.heap.size rfl (.tmp 20) (.tmp 35) 46 5 (.int .u8 0) 1 rfl Try.underlying46 info5 rfl (by decide) (by decide) (.slice A6 p.length c6) p ((ins3 x).take 1) (some ⟨W2.heap.size, 0, none⟩) 1 3 (fun _ => True) (fun _ => False) ?h1 ?h2 ?aO ?aR (fun _ _ h => h) (fun _ hk => hk.elim) (fun _ _ => trivial) ?aB ?aS ?aL ?_; (case h1 => first | rfl | simp [Act.eval, Act.put]); (case h2 => first | rfl | simp [Act.eval, Act.put]); (case aO => (with_reducible repeat (first | apply Kd.R_drewN | apply Kd.R_drew | apply Kd.R_alloc)); exact HR2.out); (case aR => show Kd.C (Kd.int .u8) _ (some ⟨W2.heap.size, 0, none⟩) 1 ((ins3 x).take 1); (with_reducible repeat (first | apply Kd.C_drewN | apply Kd.C_drew)); exact C_ins W2 x 1 (by decide)); (case aB => repeat (first | (with_reducible first | exact HB2.out | apply below_alloc | apply pw_below_drewN | apply below_drew1) | exact HB2.out)); (case aL => omega); (case aS => exact below_size (by repeat (first | (with_reducible first | exact HB2.out | apply below_alloc | apply pw_below_drewN | apply below_drew1) | exact HB2.out))); intro v1 w1 ho hb1 hg hat; have g0 : w1.cell? ⟨wr.heap.size, 0, none⟩ = some (.int .i64 x.f0) := hg.cell (by first | assumption | exact pw_cell_below (by repeat (first | exact Below.refl _ _ | apply below_alloc | apply pw_below_drewN | apply below_drew1)) x0) hne0; have g1 : w1.cell? ⟨wr.heap.size, 1, none⟩ = some (.int .i64 x.f1) := hg.cell (by first | assumption | exact pw_cell_below (by repeat (first | exact Below.refl _ _ | apply below_alloc | apply pw_below_drewN | apply below_drew1)) x1) hne0; rw [← HQ.out] at ho; obtain ⟨A1, c1, hv1⟩ := Kd.R_slice ho; subst hv1; have HO1 := Aside0.mk ho; have HBB := Aside0.mk hb1; clear ho hb1 hg hat))
        all_goals
          have hI := HI3.out
          clear g0 g1
          by_cases hgt : q.length > 4096
          · rw [if_pos hgt] at hI
            simp only [Option.some.injEq, Prod.mk.injEq] at hI
            obtain ⟨rfl, rfl⟩ := hI
            have hgt1 : (4096 : Int) < (q.length : Int) := by omega
            go_wp2_with fail
            go_ret3
            exact ⟨_, rfl, Kd.R_nil _ _ _ _ _, HBB.out⟩
          · rw [if_neg hgt] at hI
            have HI4 := Aside0.mk hI
            clear hI
            have hgt1 : (q.length : Int) ≤ 4096 := by omega
            go_wp2_with fail
            go_roundw
            case rel => exact ⟨k + 1, q, by go_num, by omega, by omega, HI4.out, HO1.out, HBB.out⟩
            case measure => simp [intOf]; omega
      · obtain ⟨q, hq⟩ : ∃ q, q = p ++ (ins3 x).take 2 := ⟨_, rfl⟩
        have HI3 := Aside0.mk (show (if q.length > 4096 then some ([], false) else encL (l.drop (k + 1)) q) = some (o, ok) by have h := HI2.out; rw [if_pos (by decide)] at h; rw [hq]; exact h)
        have HQ := Aside0.mk hq
        clear hq HI2
        go_region_held3 (fun w' => w'.cell? ⟨wr.heap.size, 0, none⟩ = some (.int .i64 x.f0) ∧ w'.cell? ⟨wr.heap.size, 1, none⟩ = some (.int .i64 x.f1)) (go_keep) (first
          | (refine goes_ Try.func33 (by kernel_rfl) rfl #[.int .i64 x.f0] rfl rfl rfl (by first | rfl | (simp only [List.map_toArray, List.map_cons, List.map_nil]; rfl) | (simp [Act.eval, Act.put])) ?_; refine (instr_Size.calls 200 x.f0 2 _ HSz.out).mono ?_; rintro e w1 ⟨rfl, hd⟩; obtain ⟨m, rfl⟩ := hd.out; refine ⟨_, rfl, ?_⟩)
          | (refine Kd.R_append_rows_step (Kd.int .u8) (Rr := fun x cs => cs = [.int .u8 x]) (w0 := w) w.heap.size rfl (.tmp 20) (.tmp 35) 46 5 (.int .u8 0) 1 rfl Try.underlying46 info5 rfl (by decide) (by decide) (.slice A6 p.length c6) p ((ins3 x).take 2) (some ⟨W2.heap.size, 0, none⟩) 2 3 (fun _ => True) (fun _ => False) ?h1 ?h2 ?aO ?aR (fun _ _ h => h) (fun _ hk => hk.elim) (fun _ _ => trivial) ?aB ?aS ?aL ?_; (case h1 => first | rfl | simp [Act.eval, Act.put]); (case h2 => first | rfl | simp [Act.eval, Act.put]); (case aO => (with_reducible repeat (first | apply Kd.R_drewN | apply Kd.R_drew | apply Kd.R_alloc)); exact HR2.out); (case aR => show Kd.C (Kd.int .u8) _ (some ⟨W2.heap.size, 0, none⟩) 2 ((ins3 x).take 2); (with_reducible repeat (first | apply Kd.C_drewN | apply Kd.C_drew)); exact C_ins W2 x 2 (by decide)); (case aB => repeat (first | (with_reducible first | exact HB2.out | apply below_alloc | apply pw_below_drewN | apply below_drew1) | exact HB2.out)); (case aL => omega); (case aS => exact below_size (by repeat (first | (with_reducible first | exact HB2.out | apply below_alloc | apply pw_below_drewN | apply below_drew1) | exact HB2.out))); intro v1 w1 ho hb1 hg hat; have g0 : w1.cell? ⟨wr.heap.size, 0, none⟩ = some (.int .i64 x.f0) := hg.cell (by first | assumption | exact pw_cell_below (by repeat (first | exact Below.refl _ _ | apply below_alloc | apply pw_below_drewN | apply below_drew1)) x0) hne0; have g1 : w1.cell? ⟨wr.heap.size, 1, none⟩ = some (.int .i64 x.f1) := hg.cell (by first | assumption | exact pw_cell_below (by repeat (first | exact Below.refl _ _ | apply below_alloc | apply pw_below_drewN | apply below_drew1)) x1) hne0; rw [← HQ.out] at ho; obtain ⟨A1, c1, hv1⟩ := Kd.R_slice ho; subst hv1; have HO1 := Aside0.mk ho; have HBB := Aside0.mk hb1; clear ho hb1 hg hat))
        all_goals
          have hI := HI3.out
          clear g0 g1
          by_cases hgt : q.length > 4096
          · rw [if_pos hgt] at hI
            simp only [Option.some.injEq, Prod.mk.injEq] at hI
            obtain ⟨rfl, rfl⟩ := hI
            have hgt1 : (4096 : Int) < (q.length : Int) := by omega
            go_wp2_with fail
            go_ret3
            exact ⟨_, rfl, Kd.R_nil _ _ _ _ _, HBB.out⟩
          · rw [if_neg hgt] at hI
            have HI4 := Aside0.mk hI
            clear hI
            have hgt1 : (q.length : Int) ≤ 4096 := by omega
            go_wp2_with fail
            go_roundw
            case rel => exact ⟨k + 1, q, by go_num, by omega, by omega, HI4.out, HO1.out, HBB.out⟩
            case measure => simp [intOf]; omega
      · obtain ⟨q, hq⟩ : ∃ q, q = p ++ (ins3 x).take 3 := ⟨_, rfl⟩
        have HI3 := Aside0.mk (show (if q.length > 4096 then some ([], false) else encL (l.drop (k + 1)) q) = some (o, ok) by have h := HI2.out; rw [if_pos (by decide)] at h; rw [hq]; exact h)
        have HQ := Aside0.mk hq
        clear hq HI2
        go_region_held3 (fun w' => w'.cell? ⟨wr.heap.size, 0, none⟩ = some (.int .i64 x.f0) ∧ w'.cell? ⟨wr.heap.size, 1, none⟩ = some (.int .i64 x.f1)) (go_keep) (first
          | (refine goes_ Try.func33 (by kernel_rfl) rfl #[.int .i64 x.f0] rfl rfl rfl (by first | rfl | (simp only [List.map_toArray, List.map_cons, List.map_nil]; rfl) | (simp [Act.eval, Act.put])) ?_; refine (instr_Size.calls 200 x.f0 3 _ HSz.out).mono ?_; rintro e w1 ⟨rfl, hd⟩; obtain ⟨m, rfl⟩ := hd.out; refine ⟨_, rfl, ?_⟩)
          | (refine Kd.R_append_rows_step (Kd.int .u8) (Rr := fun x cs => cs = [.int .u8 x]) (w0 := w) w.heap.size rfl (.tmp 20) (.tmp 35) 46 5 (.int .u8 0) 1 rfl Try.underlying46 info5 rfl (by decide) (by decide) (.slice A6 p.length c6) p ((ins3 x).take 3) (some ⟨W2.heap.size, 0, none⟩) 3 3 (fun _ => True) (fun _ => False) ?h1 ?h2 ?aO ?aR (fun _ _ h => h) (fun _ hk => hk.elim) (fun _ _ => trivial) ?aB ?aS ?aL ?_; (case h1 => first | rfl | simp [Act.eval, Act.put]); (case h2 => first | rfl | simp [Act.eval, Act.put]); (case aO => (with_reducible repeat (first | apply Kd.R_drewN | apply Kd.R_drew | apply Kd.R_alloc)); exact HR2.out); (case aR => show Kd.C (Kd.int .u8) _ (some ⟨W2.heap.size, 0, none⟩) 3 ((ins3 x).take 3); (with_reducible repeat (first | apply Kd.C_drewN | apply Kd.C_drew)); exact C_ins W2 x 3 (by decide)); (case aB => repeat (first | (with_reducible first | exact HB2.out | apply below_alloc | apply pw_below_drewN | apply below_drew1) | exact HB2.out)); (case aL => omega); (case aS => exact below_size (by repeat (first | (with_reducible first | exact HB2.out | apply below_alloc | apply pw_below_drewN | apply below_drew1) | exact HB2.out))); intro v1 w1 ho hb1 hg hat; have g0 : w1.cell? ⟨wr.heap.size, 0, none⟩ = some (.int .i64 x.f0) := hg.cell (by first | assumption | exact pw_cell_below (by repeat (first | exact Below.refl _ _ | apply below_alloc | apply pw_below_drewN | apply below_drew1)) x0) hne0; have g1 : w1.cell? ⟨wr.heap.size, 1, none⟩ = some (.int .i64 x.f1) := hg.cell (by first | assumption | exact pw_cell_below (by repeat (first | exact Below.refl _ _ | apply below_alloc | apply pw_below_drewN | apply below_drew1)) x1) hne0; rw [← HQ.out] at ho; obtain ⟨A1, c1, hv1⟩ := Kd.R_slice ho; subst hv1; have HO1 := Aside0.mk ho; have HBB := Aside0.mk hb1; clear ho hb1 hg hat))
        all_goals
          have hI := HI3.out
          clear g0 g1
          by_cases hgt : q.length > 4096
          · rw [if_pos hgt] at hI
            simp only [Option.some.injEq, Prod.mk.injEq] at hI
            obtain ⟨rfl, rfl⟩ := hI
            have hgt1 : (4096 : Int) < (q.length : Int) := by omega
            go_wp2_with fail
            go_ret3
            exact ⟨_, rfl, Kd.R_nil _ _ _ _ _, HBB.out⟩
          · rw [if_neg hgt] at hI
            have HI4 := Aside0.mk hI
            clear hI
            have hgt1 : (q.length : Int) ≤ 4096 := by omega
            go_wp2_with fail
            go_roundw
            case rel => exact ⟨k + 1, q, by go_num, by omega, by omega, HI4.out, HO1.out, HBB.out⟩
            case measure => simp [intOf]; omega
    · obtain rfl : k = l.length := by omega
      rw [List.drop_length, encL] at hi
      simp only [Option.some.injEq, Prod.mk.injEq] at hi
      obtain ⟨rfl, rfl⟩ := hi
      go_wp2_with fail
      go_ret3
      exact ⟨_, rfl, HRp.out, HB.out⟩
set_option maxRecDepth 100000 in
set_option maxHeartbeats 4000000 in
theorem enc_bad (A : Option Addr) (c : Nat) (l : List S58) (w : World) (hr : Kd.C k58 w A l.length l) (i : Int) (h0 : 0 ≤ i) (hi : idxI l 0 = some i) :
    Calls Try.prog 25 #[.slice A l.length c] w fun e w' => ∃ v0_ : Value, e = .returned (.tuple #[v0_, .int .i64 50, .int .i64 i]) ∧ Kd.R (Kd.int .u8) 5 w' w.heap.size (fun _ => True) v0_ [] ∧ Below w.heap.size w w' := by
  have HR := Aside0.mk hr
  have HI := Aside0.mk hi
  clear hr hi
  go_enter Try.func25, Try.ntmps25
  go_wp2_with fail
  refine (indexFunc A c l i _ HR.out HI.out).mono ?_
  rintro e w0 ⟨rfl, hb0⟩
  have HB0 := Aside0.mk hb0
  clear hb0
  go_wp2_with fail
  go_ret3
  exact ⟨_, rfl, Kd.R_nil _ _ _ _ _, HB0.out⟩
theorem idx_neg : ∀ (l : List S58) (k : Nat) (i : Int), idxI l k = some i → i < 0 → i = -1
  | [], _, i, h, _ => by simp only [idxI, Option.some.injEq] at h; exact h.symm
  | x :: xs, k, i, h, hn => by
    rw [idxI] at h
    obtain ⟨m, _, h⟩ := Option.bind_eq_some_iff.mp h
    cases m with
    | true => rw [if_pos rfl] at h; exact idx_neg xs _ _ h hn
    | false => rw [if_neg (by decide)] at h; simp only [Option.some.injEq] at h; omega
theorem instr_Encode.calls (A0 : Option Addr) (c0 : Nat) (l0 : List S58) (r1 : List Int) (r2 : Int) (r3 : Int) (w : World) (hr0 : Kd.C k58 w A0 l0.length l0) (hc0 : l0.length ≤ c0) (h : instr_Encode.f l0 = some (r1, r2, r3)) :
    Calls Try.prog 25 #[.slice A0 l0.length c0] w fun e w' => ∃ v0_ : Value, e = .returned (.tuple #[v0_, .int .i64 r2, .int .i64 r3]) ∧ Kd.R (Kd.int .u8) 5 w' w.heap.size (fun _ => True) v0_ r1 ∧ Below w.heap.size w w' := by
  unfold instr_Encode.f at h
  obtain ⟨i, hi, h⟩ := Option.bind_eq_some_iff.mp h
  by_cases hi0 : i ≥ 0
  · rw [if_pos hi0] at h
    simp only [Option.some.injEq, Prod.mk.injEq] at h
    obtain ⟨rfl, rfl, rfl⟩ := h
    exact enc_bad A0 c0 l0 w hr0 i hi0 hi
  · rw [if_neg hi0] at h
    obtain rfl := idx_neg _ _ _ hi (by omega)
    obtain ⟨⟨o, ok⟩, he, h⟩ := Option.bind_eq_some_iff.mp h
    have hg := enc_run A0 c0 l0 w hr0 hi o ok he
    cases ok with
    | true =>
      simp only [if_true, Option.some.injEq, Prod.mk.injEq] at h hg
      obtain ⟨rfl, rfl, rfl⟩ := h
      exact hg
    | false =>
      simp only [Bool.false_eq_true, if_false, Option.some.injEq, Prod.mk.injEq] at h hg
      obtain ⟨rfl, rfl, rfl⟩ := h
      exact hg

end Go.Proofs.Ytdcjbkhfopdgnaa.P
