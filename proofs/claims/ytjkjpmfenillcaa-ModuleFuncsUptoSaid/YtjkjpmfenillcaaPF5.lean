/- Ytjkjpmfenillcaa: what Go functions come to, and that they do: walks, printed by a program of this session or typed by hand; no statement of the seat stands here. -/
import Derived.Test.YtjkjpmfenillcaaP0
import Derived.Test.YtjkjpmfenillcaaPF16
import Derived.Test.YtjkjpmfenillcaaPF17
import Derived.Test.YtjkjpmfenillcaaPF18
import Derived.BigQuiet
import Derived.Test.YtjkjpmfenillcaaModF
namespace Go.Proofs.Ytjkjpmfenillcaa.P
open Go.RowKit Go.Proofs.YtjkjpmfenillcaaW.PrintWords Go.Proofs.YtjkjpmfenillcaaW.PrintLast Go.Proofs.YtjkjpmfenillcaaW.PrintMore
attribute [local go_sem] max2_int min2_int max_two min_two max_three min_three max_four min_four   -- for this text's walks alone
set_option linter.unusedVariables false
set_option linter.unusedSimpArgs false


/-! ### pianolalaw06_ModuleFuncs: function 5 -/
-- IMPORT Derived.Test.YtjkjpmfenillcaaModF
-- IMPORT Derived.BigQuiet
attribute [local go_sem] eq48
def okFs (l1 : List FnS) : Bool := l1.all (fun x => decide (x.f2.length ≤ 1048576))
def pianolalaw06_ModuleFuncs.f (l0_0 : List Int) (l0_1 : List FnS) (a1 : Int) : Option Bool := if (okMod l0_0 l0_1 && okFs l0_1) = true then some true else none
set_option maxRecDepth 100000 in
set_option maxHeartbeats 8000000 in
theorem pianolalaw06_ModuleFuncs.calls (A0_0 : Option Addr) (c0_0 : Nat) (l0_0 : List Int) (A0_1 : Option Addr) (c0_1 : Nat) (l0_1 : List FnS) (a1 : Int) (r : Bool) (w : World) (hr0_0 : Kd.C (Kd.int .i64) w A0_0 l0_0.length l0_0) (hc0_0 : l0_0.length ≤ c0_0) (hr0_1 : Kd.C k41 w A0_1 l0_1.length l0_1) (hc0_1 : l0_1.length ≤ c0_1) (h : pianolalaw06_ModuleFuncs.f l0_0 l0_1 a1 = some r) :
    Calls Try.prog 5 #[.agg #[.slice A0_0 l0_0.length c0_0, .slice A0_1 l0_1.length c0_1], .int .i64 a1] w fun e w' => e = .returned (.bool r) ∧ Below w.heap.size w w' := by
  have hok : (okMod l0_0 l0_1 && okFs l0_1) = true := by
    unfold pianolalaw06_ModuleFuncs.f at h
    split at h
    · assumption
    · cases h
  obtain rfl : r = true := by
    unfold pianolalaw06_ModuleFuncs.f at h
    rw [if_pos hok] at h
    exact (Option.some.inj h).symm
  clear h
  rw [Bool.and_eq_true] at hok
  have hbk := (okMod_is hok.1).2.2.2
  have hsz : ∀ x ∈ l0_1, okB x.f2 ∧ x.f2.length ≤ 1048576 := by
    intro x hx
    have h := hok.2
    unfold okFs at h
    rw [List.all_eq_true] at h
    exact ⟨hbk x hx, by simpa using h x hx⟩
  have HSZ := Aside0.mk hsz
  have HBK := Aside0.mk hbk
  have H00 := Aside0.mk hr0_0
  have H01 := Aside0.mk hr0_1
  have hmx1 := Kd.C_max hr0_1
  clear hr0_0 hr0_1 hc0_0 hc0_1 hok hbk hsz
  by_cases h100 : (100 : Int) < (l0_1.length : Int)
  · go_enter Try.func5, Try.ntmps5
    go_wp2_with fail
    refine (lives_run _).mono ?_
    rintro r w0 ⟨rfl, hb0⟩
    have HB0 := Aside0.mk (below_step (below_alloc (Below.refl _ _) _) hb0)
    clear hb0
    go_wp2_with fail
    go_ret
    exact ⟨rfl, HB0.out⟩
  have h100' : (l0_1.length : Int) ≤ 100 := by omega
  clear h100
  obtain ⟨xs, hxs⟩ : ∃ xs, wantGo insB 0 l0_1 = xs := ⟨_, rfl⟩
  have hwl : xs.length ≤ 104857600 := by
    have h := wants_len l0_1 0 HSZ.out
    rw [hxs] at h
    omega
  have HCL := Aside0.mk (show ∀ (most : Int) (w' : World), Below w.heap.size w w' → Calls Try.prog 19 #[.agg #[.slice A0_0 l0_0.length c0_0, .slice A0_1 l0_1.length c0_1], .int .i64 most] w' fun e w'' => ∃ v : Value, e = .returned (.tuple #[v, .bool true]) ∧ Kd.R kI2 48 w'' w'.heap.size (fun _ => True) v (resC xs most) ∧ Below w'.heap.size w' w'' from fun most w' hb => by
    rw [← hxs]
    exact lcalls_run insB A0_0 l0_0.length c0_0 A0_1 c0_1 l0_1 most w' (Kd.C_below H01.out hb) (fun x hx => ⟨_, insB_all x.f2 (HBK.out x hx)⟩) (by rw [hxs]; omega))
  have HXS := Aside0.mk hxs
  have HWL := Aside0.mk hwl
  have HRUN := Aside0.mk (fun w h1 => mcode_run A0_0 c0_0 l0_0 A0_1 c0_1 l0_1 a1 w h1 HBK.out)
  clear hxs hwl
  by_cases hf : a1 < 0 ∨ a1 ≥ (l0_1.length : Int)
  · have hrun := HRUN.out
    rw [code_out l0_1 a1 hf] at hrun
    have HRUN := Aside0.mk hrun
    clear hrun
    go_enter Try.func5, Try.ntmps5
    go_upto_region 1 with (fail)
    obtain ⟨W2, hW2⟩ : ∃ W2, w.alloc (.cells #[.slice A0_0 l0_0.length c0_0, .slice A0_1 l0_1.length c0_1] 27) = W2 := ⟨_, rfl⟩
    have hb2 : Below w.heap.size w W2 := by rw [← hW2]; exact below_alloc (Below.refl _ _) _
    have hx2 : W2.heap[w.heap.size]? = some (.cells #[.slice A0_0 l0_0.length c0_0, .slice A0_1 l0_1.length c0_1] 27 (0, 0)) := by rw [← hW2]; exact blk_new w _
    rw [hW2]
    clear hW2
    have p0 := blk_cell hx2 0
    have p1 := blk_cell hx2 1
    have HB2 := Aside0.mk hb2
    have HX2 := Aside0.mk hx2
    clear hb2 hx2
    go_wp2_with fail
    refine (HRUN.out W2 (Kd.C_below H01.out HB2.out)).mono ?_
    rintro r w3 ⟨v0, v1, rfl, hR0, hR1, hb3⟩
    obtain ⟨Al, cl, rfl⟩ := Kd.R_slice hR0
    obtain ⟨At, ct, rfl⟩ := Kd.R_slice hR1
    have HX3 := Aside0.mk (blk_below HX2.out hb3)
    have HB3 := Aside0.mk (below_step HB2.out hb3)
    clear hR0 hR1 hb3 p0 p1
    go_wp2_with fail
    refine (lives_run _).mono ?_
    rintro r w4 ⟨rfl, hb4⟩
    have HX4 := Aside0.mk (blk_below HX3.out hb4)
    have HB4 := Aside0.mk (below_step HB3.out hb4)
    have p0 := blk_cell HX4.out 0
    have p1 := blk_cell HX4.out 1
    clear hb4
    go_wp2_with fail
    all_goals (
      obtain ⟨WX, hWX⟩ : ∃ WX, w4 = WX := ⟨_, rfl⟩
      rw [hWX] at HX4 HB4 ⊢
      have HMX := Aside0.mk HX4.out
      have HBX0 := Aside0.mk HB4.out
      clear hWX HX4 HB4 p0 p1
      go_loopw [14, 15] (fun v14 v15 W => ∃ (i : Nat) (pre : List (Int × Int)), v15 = .int .i64 i ∧ i ≤ l0_1.length ∧ xs = pre ++ wantGo insB i (l0_1.drop i) ∧ Kd.R kI2 48 W WX.heap.size (fun _ => True) v14 pre ∧ Below WX.heap.size WX W) (fun _ v15 _ => l0_1.length - (intOf v15).toNat)
      case atStart => exact ⟨0, [], rfl, Nat.zero_le _, by rw [List.nil_append, List.drop_zero]; exact HXS.out.symm, Kd.R_nil _ _ _ _ _, Below.refl _ _⟩
      case round =>
        obtain ⟨i, pre, rfl, hi, hpx, hR, hbx⟩ := hrel
        obtain ⟨AW, cW, rfl⟩ := Kd.R_slice hR
        have HPX := Aside0.mk hpx
        have HR := Aside0.mk hR
        have HBX := Aside0.mk hbx
        have HBW := Aside0.mk (below_step HBX0.out hbx)
        have HM := Aside0.mk (blk_below HMX.out hbx)
        clear hpx hR hbx
        by_cases hlt : i < l0_1.length
        · as_aux_lemma =>
            obtain ⟨ad, A2, c2, hA, b1, b2, b3, hl2, hC2⟩ := at_T41 H01.out (i : Int) (by omega) (by omega)
            subst hA
            have hx : rd_T41 l0_1 (i : Int) = l0_1[i] := by
              unfold rd_T41
              rw [Int.toNat_natCast, List.getD_eq_getElem?_getD, List.getElem?_eq_getElem hlt]
              rfl
            rw [hx] at b1 b2 b3 hl2 hC2
            simp only [Int.toNat_natCast] at b1 b2 b3
            obtain ⟨x, hxx⟩ : ∃ x, l0_1[i] = x := ⟨_, rfl⟩
            rw [hxx] at b1 b2 b3 hl2 hC2
            have c3 := pw_cell_below HBW.out b3
            have q1 : wr.cell? ⟨w.heap.size, 1, none⟩ = some (.slice (some ad) l0_1.length c0_1) := blk_cell HM.out 1
            have hxm : x ∈ l0_1 := by rw [← hxx]; exact List.getElem_mem hlt
            have hkk := starts_is x.f2 (HBK.out x hxm) (HSZ.out x hxm).2
            obtain ⟨q, hq⟩ : ∃ q, insB x.f2 = q := ⟨_, rfl⟩
            have hql : q.length ≤ 1048576 := by rw [← hq]; exact Nat.le_trans (insB_len x.f2 (HBK.out x hxm)) (HSZ.out x hxm).2
            rw [hq] at hkk
            have HNX := Aside0.mk (want_next l0_1 i hlt x hxx)
            have HQ := Aside0.mk hq
            have HKK := Aside0.mk hkk
            have HC2 := Aside0.mk hC2
            have HL2 := Aside0.mk hl2
            clear b1 b2 b3 hx hxx hl2 hC2 hxm hkk hq
            go_wp2_with fail
            refine (pianolaref06_Starts.calls _ A2 c2 x.f2 _ _ wr (Kd.C_below HC2.out HBW.out) HL2.out HKK.out).mono ?_
            rintro e wa ⟨vS, vP, rfl, hS, hP, hba⟩
            obtain ⟨AS, cS, rfl⟩ := Kd.R_slice hS
            obtain ⟨AP, cP, rfl⟩ := Kd.R_slice hP
            rw [List.length_map]
            have HSX := Aside0.mk (Kd.R_below (Kd.R_bound hS) (Below.refl _ _))
            have HRA := Aside0.mk (Kd.R_below HR.out hba)
            have HBA := Aside0.mk (below_step HBX.out hba)
            have hza := hba.size
            clear hS hP hba q1 c3
            go_wp2_with fail
            go_loopw [14, 18] (fun v14 v18 W => ∃ k : Nat, v18 = .int .i64 k ∧ k ≤ q.length ∧ Kd.R kI2 48 W WX.heap.size (fun _ => True) v14 (pre ++ wantP i (q.take k)) ∧ Kd.R k47 47 W wr.heap.size (fun _ => True) (.slice AS (q.map (·.2)).length cS) (q.map (·.2)) ∧ Below WX.heap.size WX W) (fun _ v18 _ => q.length - (intOf v18).toNat)
            case atStart => exact ⟨0, rfl, Nat.zero_le _, by rw [List.take_zero, show wantP i [] = [] from rfl, List.append_nil]; exact HRA.out, Kd.R_mono HSX.out (fun _ _ => trivial), HBA.out⟩
            case round =>
              obtain ⟨k, rfl, hk, hRk, hSk, hbk⟩ := hrel
              obtain ⟨AV, cV, rfl⟩ := Kd.R_slice hRk
              have HRK := Aside0.mk hRk
              have HSK := Aside0.mk hSk
              have HBKX := Aside0.mk hbk
              clear hRk hSk hbk
              by_cases hkl : k < q.length
              · as_aux_lemma =>
                  obtain ⟨ad2, hA2, s1, s2⟩ := at_T47 (Kd.R_reads' HSK.out).2.2 (k : Int) (by omega) (by rw [List.length_map]; omega)
                  subst hA2
                  have hy : rd_T47 (q.map (·.2)) (k : Int) = q[k].2 := by
                    unfold rd_T47
                    rw [Int.toNat_natCast, List.getD_eq_getElem?_getD, List.getElem?_map, List.getElem?_eq_getElem hkl]
                    rfl
                  rw [hy] at s1 s2
                  simp only [Int.toNat_natCast] at s1 s2
                  obtain ⟨y, hyy⟩ : ∃ y, q[k] = y := ⟨_, rfl⟩
                  rw [hyy] at s1 s2
                  have htk : wantP i (q.take (k + 1)) = wantP i (q.take k) ++ (if y.2.f0 = 31 then [((i : Int), y.2.f1)] else []) := by
                    have h := ins_take x.f2 k (by rw [HQ.out]; exact hkl) i
                    simp only [HQ.out, hyy] at h
                    exact h
                  have HTK := Aside0.mk htk
                  have hpl : (pre ++ wantP i (q.take k)).length ≤ xs.length := by
                    have h1 := wantP_app i (q.take k) (q.drop k)
                    rw [List.take_append_drop] at h1
                    rw [HPX.out, HNX.out, HQ.out, h1]
                    simp only [List.length_append]
                    omega
                  have HPL := Aside0.mk hpl
                  clear hy hyy htk hpl
                  by_cases h31 : y.2.f0 = 31
                  · have h31' : (y.2.f0 == 31) = true := by simpa using h31
                    rw [if_pos h31] at HTK
                    clear h31
                    go_wp2_with (at_builtin; go_loud (refine Kd.R_append kI2 (w0 := WX) WX.heap.size rfl (.tmp 153) (.tmp 161) 45 48 (.agg #[.int .i64 0, .int .i64 0]) 16 rfl Try.underlying45 (by kernel_rfl) rfl (by decide) (by decide) (.slice AV (pre ++ wantP i (q.take k)).length cV) (pre ++ wantP i (q.take k)) ((i : Int), y.2.f1) [.int .i64 i, .int .i64 y.2.f1] (fun _ => True) (fun _ => False) (by first | rfl | simp [Act.eval]) (by first | rfl | simp [Act.eval]) ⟨[_], [_], rfl, rfl, rfl⟩ (fun _ hk => hk.elim) (fun _ _ => trivial) HRK.out HBKX.out HBKX.out.size (by have := HPL.out; have := HWL.out; omega) ?_; intro v1 wb ho hb1 hg hat; obtain ⟨AN, cN, rfl⟩ := Kd.R_slice ho; have hs2 := R_typed HSK.out HRK.out hg (by decide) (by decide); have HY := Aside0.mk (And.intro ho (And.intro hb1 hs2)); clear ho hb1 hg hat hs2))
                    go_roundw
                    case rel =>
                      obtain ⟨ho, hb1, hs2⟩ := HY.out
                      refine ⟨k + 1, by go_num, by omega, ?_, hs2, hb1⟩
                      rw [show (pre ++ wantP i (q.take k) ++ [((i : Int), y.2.f1)]).length = pre.length + ((wantP i (q.take k)).length + 1) by rw [List.length_append, List.length_append, List.length_singleton]; omega] at ho
                      rw [HTK.out, ← List.append_assoc]
                      exact ho
                    case measure => simp [intOf]; omega
                  · have h31' : (y.2.f0 == 31) = false := by simpa using h31
                    rw [if_neg h31, List.append_nil] at HTK
                    clear h31
                    go_wp2_with fail
                    go_roundw
                    case rel =>
                      refine ⟨k + 1, by go_num, by omega, ?_, HSK.out, HBKX.out⟩
                      rw [HTK.out]
                      exact HRK.out
                    case measure => simp [intOf]; omega
              · have hkq : k = q.length := by omega
                subst hkq
                go_wp2_with fail
                go_roundw
                case rel =>
                  have hfin : xs = (pre ++ wantP i q) ++ wantGo insB (i + 1) (l0_1.drop (i + 1)) := by rw [HPX.out, HNX.out, HQ.out, List.append_assoc]
                  have h := HRK.out
                  rw [List.take_length] at h
                  first
                  | (refine ⟨i + 1, pre ++ wantP i q, by go_num, by omega, hfin, ?_, HBKX.out⟩; rw [List.take_length]; exact h)
                  | (refine ⟨i + 1, by go_num, by omega, pre ++ wantP i q, hfin, ?_, HBKX.out⟩; rw [List.length_append] at h; exact h)
                case measure => simp [intOf]; omega
        · have hil : i = l0_1.length := by omega
          have hpe : xs = pre := by
            have h := HPX.out
            rw [List.drop_of_length_le (by omega), wantGo, List.append_nil] at h
            exact h
          subst hpe
          clear hil
          have q0 := blk_cell HM.out 0
          have q1 := blk_cell HM.out 1
          go_wp2_with fail
          refine (HCL.out (-1) wr HBW.out).mono ?_
          rintro e wc ⟨va, rfl, hRa, hbc⟩
          rw [show resC xs (-1) = xs from if_neg (by rintro ⟨h, _⟩; revert h; decide)] at hRa
          obtain ⟨Aa, ca, rfl⟩ := Kd.R_slice hRa
          have HMc := Aside0.mk (blk_below HM.out hbc)
          have HBc := Aside0.mk (below_step HBW.out hbc)
          have HWc := Aside0.mk (Kd.C_below (Kd.R_reads' HR.out).2.2 hbc)
          have HAc := Aside0.mk (Kd.R_reads' hRa).2.2
          have q0 := blk_cell HMc.out 0
          have q1 := blk_cell HMc.out 1
          clear hRa hbc
          go_wp2_with fail
          refine (HCL.out 1 wc HBc.out).mono ?_
          rintro e wd ⟨vb, rfl, hRb, hbd⟩
          have HBd := Aside0.mk (below_step HBc.out hbd)
          have hWd := Kd.C_below HWc.out hbd
          have hAd := Kd.C_below HAc.out hbd
          have HWd := Aside0.mk hWd
          have HAd := Aside0.mk hAd
          have HBE := Aside0.mk (Kd.R_reads hRb)
          clear hRb hbd q0 q1 hWd hAd
          cases xs with
          | nil =>
            obtain ⟨Ab, cb, hvb, _, hCb⟩ := HBE.out
            subst hvb
            rw [show resC ([] : List (Int × Int)) 1 = [] from if_neg (by simp)] at hCb ⊢
            go_upto_region 30 with (fail)
            go_quiet (fail)
            go_wp2_with fail
            go_loopw [23] (fun v23 W => ∃ k : Nat, v23 = .int .i64 k ∧ k ≤ ([] : List (Int × Int)).length ∧ Below wd.heap.size wd W) (fun v23 _ => ([] : List (Int × Int)).length - (intOf v23).toNat)
            case atStart => exact ⟨0, rfl, Nat.zero_le _, by first | exact Below.refl _ _ | exact pw_below_drewN (Below.refl _ _) _⟩
            case round =>
              obtain ⟨k, rfl, hk, hbk⟩ := hrel
              have HBK2 := Aside0.mk hbk
              have hwk := Kd.C_below HWd.out hbk
              have hak := Kd.C_below HAd.out hbk
              clear hbk
              by_cases hkl : k < ([] : List (Int × Int)).length
              · exact absurd hkl (by simp)
              · have hkq : k = ([] : List (Int × Int)).length := by omega
                clear hwk hak
                go_wp2_with fail
                go_ret
                exact ⟨rfl, HBd.out.trans (HBK2.out.mono HBd.out.size)⟩
          | cons y ys =>
            obtain ⟨Ab, cb, hvb, _, hCb⟩ := HBE.out
            subst hvb
            rw [show resC (y :: ys) 1 = [y] from if_pos ⟨by decide, by simp; omega⟩] at hCb ⊢
            obtain ⟨ad1, hA1, e1, e2⟩ := at_I2 hCb 0 (by simp)
            obtain ⟨ad2, hA2, f1, f2⟩ := at_I2 HWd.out 0 (by simp)
            subst hA1 hA2
            simp only [List.getD_cons_zero] at e1 e2 f1 f2
            have E1 : ∀ nq, (wd.drewN nq).cell? (ad1.add 0) = some (.int .i64 y.1) := fun nq => e1
            have E2 : ∀ nq, (wd.drewN nq).cell? ⟨(ad1.add 0).block, (ad1.add 0).off + 1, none⟩ = some (.int .i64 y.2) := fun nq => e2
            have F1 : ∀ nq, (wd.drewN nq).cell? (ad2.add 0) = some (.int .i64 y.1) := fun nq => f1
            have F2 : ∀ nq, (wd.drewN nq).cell? ⟨(ad2.add 0).block, (ad2.add 0).off + 1, none⟩ = some (.int .i64 y.2) := fun nq => f2
            have E3 : ∀ nq, (wd.drewN nq).cell? ad1 = some (.int .i64 y.1) := fun nq => e1
            have E4 : ∀ nq, (wd.drewN nq).cell? ⟨ad1.block, ad1.off + 1, none⟩ = some (.int .i64 y.2) := fun nq => e2
            have F3 : ∀ nq, (wd.drewN nq).cell? ad2 = some (.int .i64 y.1) := fun nq => f1
            have F4 : ∀ nq, (wd.drewN nq).cell? ⟨ad2.block, ad2.off + 1, none⟩ = some (.int .i64 y.2) := fun nq => f2
            clear e1 e2 f1 f2 hCb
            have hys : ys.length ≤ 104857600 := by have h := HWL.out; rw [List.length_cons] at h; omega
            go_upto_region 30 with (fail)
            go_quiet (fail)
            clear E1 E2 E3 E4 F1 F2 F3 F4
            go_wp2_with fail
            go_loopw [23] (fun v23 W => ∃ k : Nat, v23 = .int .i64 k ∧ k ≤ (y :: ys).length ∧ Below wd.heap.size wd W) (fun v23 _ => (y :: ys).length - (intOf v23).toNat)
            case atStart => exact ⟨0, rfl, Nat.zero_le _, by first | exact Below.refl _ _ | exact pw_below_drewN (Below.refl _ _) _⟩
            case round =>
              obtain ⟨k, rfl, hk, hbk⟩ := hrel
              have HBK2 := Aside0.mk hbk
              have hwk := Kd.C_below HWd.out hbk
              have hak := Kd.C_below HAd.out hbk
              clear hbk
              by_cases hkl : k < (y :: ys).length
              · have hkl1 : k < ys.length + 1 := hkl
                obtain ⟨ad3, hA1, e1, e2⟩ := at_I2 hwk k hkl
                obtain ⟨ad4, hA2, f1, f2⟩ := at_I2 hak k hkl
                obtain rfl : ad2 = ad3 := Option.some.inj hA1
                subst hA2
                obtain ⟨z, hz⟩ : ∃ z, (y :: ys).getD k (0, 0) = z := ⟨_, rfl⟩
                rw [hz] at e1 e2 f1 f2
                have E1 : ∀ nq, (wr.drewN nq).cell? (ad2.add (k * 2)) = some (.int .i64 z.1) := fun nq => e1
                have E2 : ∀ nq, (wr.drewN nq).cell? ⟨(ad2.add (k * 2)).block, (ad2.add (k * 2)).off + 1, none⟩ = some (.int .i64 z.2) := fun nq => e2
                have F1 : ∀ nq, (wr.drewN nq).cell? (ad4.add (k * 2)) = some (.int .i64 z.1) := fun nq => f1
                have F2 : ∀ nq, (wr.drewN nq).cell? ⟨(ad4.add (k * 2)).block, (ad4.add (k * 2)).off + 1, none⟩ = some (.int .i64 z.2) := fun nq => f2
                clear hwk hak e1 e2 f1 f2 hz
                go_wp2_with fail
                go_quiet (fail)
                go_wp2_with fail
                go_roundw
                case rel => exact ⟨k + 1, by go_num, by omega, pw_below_drewN HBK2.out nq⟩
                case measure => simp [intOf]; omega
              · have hkq : k = ys.length + 1 := by have h : k ≤ ys.length + 1 := hk; have h2 : ¬ k < ys.length + 1 := hkl; omega
                clear hwk hak
                go_wp2_with fail
                go_ret
                exact ⟨rfl, HBd.out.trans (HBK2.out.mono HBd.out.size)⟩)
  · obtain ⟨n, hn0⟩ : ∃ n : Nat, a1 = (n : Int) := ⟨a1.toNat, by omega⟩
    subst hn0
    have hn : n < l0_1.length := by omega
    clear hf
    obtain ⟨x, hx⟩ : ∃ x, l0_1[n] = x := ⟨_, rfl⟩
    have hxm : x ∈ l0_1 := by rw [← hx]; exact List.getElem_mem hn
    have hok := HBK.out x hxm
    have hsz := (HSZ.out x hxm).2
    have hrun := HRUN.out
    rw [code_at l0_1 n hn x.f2 (by rw [hx])] at hrun
    have hdec := Pl.rdec_all x.f2 hok 0
    have hsta := starts_is x.f2 hok hsz
    have hqn := insB_len x.f2 hok
    have hdl : (Pl.decR x.f2).1.length ≤ 1048576 := by
      unfold Pl.decR
      split
      · exact Nat.zero_le _
      · split
        · exact Nat.zero_le _
        · rw [List.length_map]; exact Nat.le_trans hqn hsz
    obtain ⟨ls, ec, n3, hd⟩ : ∃ ls ec n3, Pl.decR x.f2 = (ls, ec, n3) := ⟨_, _, _, rfl⟩
    rw [hd] at hrun hdec hdl
    dsimp only at hdl
    obtain ⟨q, hq⟩ : ∃ q, insB x.f2 = q := ⟨_, rfl⟩
    rw [hq] at hrun hsta hqn
    have hsame := Pl.same_f 0 ls (by omega)
    have hbne : (ec != ec) = false := by simp
    obtain ⟨ad, A2, c2, hA, b1, b2, b3, hl2, hC2⟩ := at_T41 H01.out (n : Int) (by omega) (by omega)
    subst hA
    have hxx : rd_T41 l0_1 (n : Int) = x := by
      unfold rd_T41
      rw [Int.toNat_natCast, List.getD_eq_getElem?_getD, List.getElem?_eq_getElem hn, Option.getD_some, hx]
    rw [hxx] at b3 hl2 hC2
    simp only [Int.toNat_natCast] at b3
    have hql : q.length ≤ 1048576 := by omega
    have HB3 := Aside0.mk b3
    have HC2 := Aside0.mk hC2
    have HL2 := Aside0.mk hl2
    have HRUN := Aside0.mk hrun
    have HDEC := Aside0.mk hdec
    have HSTA := Aside0.mk hsta
    have HSAME := Aside0.mk hsame
    clear b1 b2 b3 hl2 hC2 hrun hdec hsta hsame hx hxx hxm hok hsz hdl hqn hd hq
    obtain ⟨ats, hats⟩ : ∃ ats, (if ec = 0 then q.map (·.1) else []) = ats := ⟨_, rfl⟩
    rw [show (if (ls, ec, n3).2.1 = 0 then q.map (·.1) else []) = ats from hats] at HRUN
    dsimp only at HRUN
    have key : ∀ ce : Bool, decide (ec = 0) = ce → Calls Try.prog 5 #[.agg #[.slice A0_0 l0_0.length c0_0, .slice (some ad) l0_1.length c0_1], .int .i64 n] w fun e w' => e = .returned (.bool true) ∧ Below w.heap.size w w' := by
      intro ce hce
      have hec1 : (ec == 0) = ce := hce
      have hec2 : (ec != 0) = !ce := by rw [← hce]; rfl
      have hatl : ats = if ce = true then q.map (·.1) else [] := by
        rw [← hats, ← hce]
        by_cases c : ec = 0 <;> simp [c]
      have HATL := Aside0.mk hatl
      clear hce hats hatl
      go_enter Try.func5, Try.ntmps5
      go_upto_region 1 with (fail)
      obtain ⟨W2, hW2⟩ : ∃ W2, w.alloc (.cells #[.slice A0_0 l0_0.length c0_0, .slice (some ad) l0_1.length c0_1] 27) = W2 := ⟨_, rfl⟩
      have hb2 : Below w.heap.size w W2 := by rw [← hW2]; exact below_alloc (Below.refl _ _) _
      have hx2 : W2.heap[w.heap.size]? = some (.cells #[.slice A0_0 l0_0.length c0_0, .slice (some ad) l0_1.length c0_1] 27 (0, 0)) := by rw [← hW2]; exact blk_new w _
      rw [hW2]
      clear hW2
      have p0 := blk_cell hx2 0
      have p1 := blk_cell hx2 1
      have HB2 := Aside0.mk hb2
      have HX2 := Aside0.mk hx2
      clear hb2 hx2
      go_wp2_with fail
      refine (HRUN.out W2 (Kd.C_below H01.out HB2.out)).mono ?_
      rintro r w3 ⟨v0, v1, rfl, hR0, hR1, hb3⟩
      obtain ⟨Al, cl, rfl⟩ := Kd.R_slice hR0
      obtain ⟨At, ct, rfl⟩ := Kd.R_slice hR1
      have HX3 := Aside0.mk (blk_below HX2.out hb3)
      have HBB := Aside0.mk (below_step HB2.out hb3)
      have HL3 := Aside0.mk (Kd.R_reads' hR0).2
      have HA3 := Aside0.mk (Kd.R_reads' hR1).2.2
      clear hR0 hR1 hb3 p0 p1
      go_wp2_with fail
      refine (lives_run _).mono ?_
      rintro r w4 ⟨rfl, hb4⟩
      have HX4 := Aside0.mk (blk_below HX3.out hb4)
      have HB4 := Aside0.mk (below_step HBB.out hb4)
      have HL4 := Aside0.mk (Kd.C_below HL3.out.2 hb4)
      have HA4 := Aside0.mk (Kd.C_below HA3.out hb4)
      have p0 := blk_cell HX4.out 0
      have p1 := blk_cell HX4.out 1
      have c3 := pw_cell_below HB4.out HB3.out
      have hnl : (n : Int) < (l0_1.length : Int) := by omega
      clear hb4
      go_wp2_with fail
      refine (pianolaref05_Decode.calls _ A2 c2 x.f2 ls ec n3 w4 (Kd.C_below HC2.out HB4.out) HL2.out HDEC.out).mono ?_
      rintro e w5 ⟨vd, rfl, hRd, hb5⟩
      obtain ⟨Ad, cd, rfl⟩ := Kd.R_slice hRd
      have HX5 := Aside0.mk (blk_below HX4.out hb5)
      have HB5 := Aside0.mk (below_step HB4.out hb5)
      have HL5 := Aside0.mk (Kd.C_below HL4.out hb5)
      have HA5 := Aside0.mk (Kd.C_below HA4.out hb5)
      have HD5 := Aside0.mk (Kd.R_reads' hRd).2
      have p0 := blk_cell HX5.out 0
      have p1 := blk_cell HX5.out 1
      have c3 := pw_cell_below HB5.out HB3.out
      clear hRd hb5
      go_wp2_with fail
      refine (pianolaref06_Starts.calls _ A2 c2 x.f2 _ _ w5 (Kd.C_below HC2.out HB5.out) HL2.out HSTA.out).mono ?_
      rintro e w6 ⟨vs, vp, rfl, hRs, hRp, hb6⟩
      obtain ⟨As, cs, rfl⟩ := Kd.R_slice hRs
      obtain ⟨Ap, cp, rfl⟩ := Kd.R_slice hRp
      have HX6 := Aside0.mk (blk_below HX5.out hb6)
      have HB6 := Aside0.mk (below_step HB5.out hb6)
      have HL6 := Aside0.mk (Kd.C_below HL5.out hb6)
      have HA6 := Aside0.mk (Kd.C_below HA5.out hb6)
      have HD6 := Aside0.mk (Kd.C_below HD5.out.2 hb6)
      have HP6 := Aside0.mk (Kd.R_reads' hRp).2.2
      clear hRs hRp hb6 p0 p1 c3
      go_wp2_with fail
      refine (pianolalaw05_Same.calls _ Al cl ls Ad cd ls true w6 HL6.out HL3.out.1 HD6.out HD5.out.1 HSAME.out).mono ?_
      rintro e w7 ⟨rfl, hd7⟩
      have hb7 : Below w6.heap.size w6 w7 := by obtain ⟨m, hm⟩ := hd7.out; subst hm; exact pw_below_drewN (Below.refl _ _) m
      have HX7 := Aside0.mk (blk_below HX6.out hb7)
      have HB7 := Aside0.mk (below_step HB6.out hb7)
      have HA7 := Aside0.mk (Kd.C_below HA6.out hb7)
      have HP7 := Aside0.mk (Kd.C_below HP6.out hb7)
      clear hd7 hb7
      have hatl := HATL.out
      cases ce
      · rw [if_neg (by decide)] at hatl
        subst hatl
        go_wp2_with fail
        go_loopw [13] (fun v13 W => ∃ j : Nat, v13 = .int .i64 j ∧ j ≤ 0 ∧ Below w7.heap.size w7 W) (fun v13 _ => 0 - (intOf v13).toNat)
        case atStart => exact ⟨0, rfl, Nat.zero_le _, Below.refl _ _⟩
        case round =>
          obtain ⟨j, rfl, hj, hbj⟩ := hrel
          have HBJ := Aside0.mk hbj
          clear hbj
          by_cases hjl : j < 0
          · exact absurd hjl (by omega)
          · have hjq : j = 0 := by omega
            subst hjq
            go_wp2_with fail
            obtain ⟨WX, hWX⟩ : ∃ WX, wr = WX := ⟨_, rfl⟩
            rw [hWX] at HBJ ⊢
            have HMX := Aside0.mk (blk_below HX7.out HBJ.out)
            have HBX0 := Aside0.mk (below_step HB7.out HBJ.out)
            clear hWX hj hjl
            go_loopw [14, 15] (fun v14 v15 W => ∃ (i : Nat) (pre : List (Int × Int)), v15 = .int .i64 i ∧ i ≤ l0_1.length ∧ xs = pre ++ wantGo insB i (l0_1.drop i) ∧ Kd.R kI2 48 W WX.heap.size (fun _ => True) v14 pre ∧ Below WX.heap.size WX W) (fun _ v15 _ => l0_1.length - (intOf v15).toNat)
            case atStart => exact ⟨0, [], rfl, Nat.zero_le _, by rw [List.nil_append, List.drop_zero]; exact HXS.out.symm, Kd.R_nil _ _ _ _ _, Below.refl _ _⟩
            case round =>
              obtain ⟨i, pre, rfl, hi, hpx, hR, hbx⟩ := hrel
              obtain ⟨AW, cW, rfl⟩ := Kd.R_slice hR
              have HPX := Aside0.mk hpx
              have HR := Aside0.mk hR
              have HBX := Aside0.mk hbx
              have HBW := Aside0.mk (below_step HBX0.out hbx)
              have HM := Aside0.mk (blk_below HMX.out hbx)
              clear hpx hR hbx
              by_cases hlt : i < l0_1.length
              · as_aux_lemma =>
                  obtain ⟨ad9, A2, c2, hA, b1, b2, b3, hl2, hC2⟩ := at_T41 H01.out (i : Int) (by omega) (by omega)
                  obtain rfl : ad = ad9 := Option.some.inj hA
                  have hx : rd_T41 l0_1 (i : Int) = l0_1[i] := by
                    unfold rd_T41
                    rw [Int.toNat_natCast, List.getD_eq_getElem?_getD, List.getElem?_eq_getElem hlt]
                    rfl
                  rw [hx] at b1 b2 b3 hl2 hC2
                  simp only [Int.toNat_natCast] at b1 b2 b3
                  obtain ⟨x, hxx⟩ : ∃ x, l0_1[i] = x := ⟨_, rfl⟩
                  rw [hxx] at b1 b2 b3 hl2 hC2
                  have c3 := pw_cell_below HBW.out b3
                  have q1 : wr.cell? ⟨w.heap.size, 1, none⟩ = some (.slice (some ad) l0_1.length c0_1) := blk_cell HM.out 1
                  have hxm : x ∈ l0_1 := by rw [← hxx]; exact List.getElem_mem hlt
                  have hkk := starts_is x.f2 (HBK.out x hxm) (HSZ.out x hxm).2
                  obtain ⟨q, hq⟩ : ∃ q, insB x.f2 = q := ⟨_, rfl⟩
                  have hql : q.length ≤ 1048576 := by rw [← hq]; exact Nat.le_trans (insB_len x.f2 (HBK.out x hxm)) (HSZ.out x hxm).2
                  rw [hq] at hkk
                  have HNX := Aside0.mk (want_next l0_1 i hlt x hxx)
                  have HQ := Aside0.mk hq
                  have HKK := Aside0.mk hkk
                  have HC2 := Aside0.mk hC2
                  have HL2 := Aside0.mk hl2
                  clear b1 b2 b3 hx hxx hl2 hC2 hxm hkk hq
                  go_wp2_with fail
                  refine (pianolaref06_Starts.calls _ A2 c2 x.f2 _ _ wr (Kd.C_below HC2.out HBW.out) HL2.out HKK.out).mono ?_
                  rintro e wa ⟨vS, vP, rfl, hS, hP, hba⟩
                  obtain ⟨AS, cS, rfl⟩ := Kd.R_slice hS
                  obtain ⟨AP, cP, rfl⟩ := Kd.R_slice hP
                  rw [List.length_map]
                  have HSX := Aside0.mk (Kd.R_below (Kd.R_bound hS) (Below.refl _ _))
                  have HRA := Aside0.mk (Kd.R_below HR.out hba)
                  have HBA := Aside0.mk (below_step HBX.out hba)
                  have hza := hba.size
                  clear hS hP hba q1 c3
                  go_wp2_with fail
                  go_loopw [14, 18] (fun v14 v18 W => ∃ k : Nat, v18 = .int .i64 k ∧ k ≤ q.length ∧ Kd.R kI2 48 W WX.heap.size (fun _ => True) v14 (pre ++ wantP i (q.take k)) ∧ Kd.R k47 47 W wr.heap.size (fun _ => True) (.slice AS (q.map (·.2)).length cS) (q.map (·.2)) ∧ Below WX.heap.size WX W) (fun _ v18 _ => q.length - (intOf v18).toNat)
                  case atStart => exact ⟨0, rfl, Nat.zero_le _, by rw [List.take_zero, show wantP i [] = [] from rfl, List.append_nil]; exact HRA.out, Kd.R_mono HSX.out (fun _ _ => trivial), HBA.out⟩
                  case round =>
                    obtain ⟨k, rfl, hk, hRk, hSk, hbk⟩ := hrel
                    obtain ⟨AV, cV, rfl⟩ := Kd.R_slice hRk
                    have HRK := Aside0.mk hRk
                    have HSK := Aside0.mk hSk
                    have HBKX := Aside0.mk hbk
                    clear hRk hSk hbk
                    by_cases hkl : k < q.length
                    · as_aux_lemma =>
                        obtain ⟨ad2, hA2, s1, s2⟩ := at_T47 (Kd.R_reads' HSK.out).2.2 (k : Int) (by omega) (by rw [List.length_map]; omega)
                        subst hA2
                        have hy : rd_T47 (q.map (·.2)) (k : Int) = q[k].2 := by
                          unfold rd_T47
                          rw [Int.toNat_natCast, List.getD_eq_getElem?_getD, List.getElem?_map, List.getElem?_eq_getElem hkl]
                          rfl
                        rw [hy] at s1 s2
                        simp only [Int.toNat_natCast] at s1 s2
                        obtain ⟨y, hyy⟩ : ∃ y, q[k] = y := ⟨_, rfl⟩
                        rw [hyy] at s1 s2
                        have htk : wantP i (q.take (k + 1)) = wantP i (q.take k) ++ (if y.2.f0 = 31 then [((i : Int), y.2.f1)] else []) := by
                          have h := ins_take x.f2 k (by rw [HQ.out]; exact hkl) i
                          simp only [HQ.out, hyy] at h
                          exact h
                        have HTK := Aside0.mk htk
                        have hpl : (pre ++ wantP i (q.take k)).length ≤ xs.length := by
                          have h1 := wantP_app i (q.take k) (q.drop k)
                          rw [List.take_append_drop] at h1
                          rw [HPX.out, HNX.out, HQ.out, h1]
                          simp only [List.length_append]
                          omega
                        have HPL := Aside0.mk hpl
                        clear hy hyy htk hpl
                        by_cases h31 : y.2.f0 = 31
                        · have h31' : (y.2.f0 == 31) = true := by simpa using h31
                          rw [if_pos h31] at HTK
                          clear h31
                          go_wp2_with (at_builtin; go_loud (refine Kd.R_append kI2 (w0 := WX) WX.heap.size rfl (.tmp 153) (.tmp 161) 45 48 (.agg #[.int .i64 0, .int .i64 0]) 16 rfl Try.underlying45 (by kernel_rfl) rfl (by decide) (by decide) (.slice AV (pre ++ wantP i (q.take k)).length cV) (pre ++ wantP i (q.take k)) ((i : Int), y.2.f1) [.int .i64 i, .int .i64 y.2.f1] (fun _ => True) (fun _ => False) (by first | rfl | simp [Act.eval]) (by first | rfl | simp [Act.eval]) ⟨[_], [_], rfl, rfl, rfl⟩ (fun _ hk => hk.elim) (fun _ _ => trivial) HRK.out HBKX.out HBKX.out.size (by have := HPL.out; have := HWL.out; omega) ?_; intro v1 wb ho hb1 hg hat; obtain ⟨AN, cN, rfl⟩ := Kd.R_slice ho; have hs2 := R_typed HSK.out HRK.out hg (by decide) (by decide); have HY := Aside0.mk (And.intro ho (And.intro hb1 hs2)); clear ho hb1 hg hat hs2))
                          go_roundw
                          case rel =>
                            obtain ⟨ho, hb1, hs2⟩ := HY.out
                            refine ⟨k + 1, by go_num, by omega, ?_, hs2, hb1⟩
                            rw [show (pre ++ wantP i (q.take k) ++ [((i : Int), y.2.f1)]).length = pre.length + ((wantP i (q.take k)).length + 1) by rw [List.length_append, List.length_append, List.length_singleton]; omega] at ho
                            rw [HTK.out, ← List.append_assoc]
                            exact ho
                          case measure => simp [intOf]; omega
                        · have h31' : (y.2.f0 == 31) = false := by simpa using h31
                          rw [if_neg h31, List.append_nil] at HTK
                          clear h31
                          go_wp2_with fail
                          go_roundw
                          case rel =>
                            refine ⟨k + 1, by go_num, by omega, ?_, HSK.out, HBKX.out⟩
                            rw [HTK.out]
                            exact HRK.out
                          case measure => simp [intOf]; omega
                    · have hkq : k = q.length := by omega
                      subst hkq
                      go_wp2_with fail
                      go_roundw
                      case rel =>
                        have hfin : xs = (pre ++ wantP i q) ++ wantGo insB (i + 1) (l0_1.drop (i + 1)) := by rw [HPX.out, HNX.out, HQ.out, List.append_assoc]
                        have h := HRK.out
                        rw [List.take_length] at h
                        first
                        | (refine ⟨i + 1, pre ++ wantP i q, by go_num, by omega, hfin, ?_, HBKX.out⟩; rw [List.take_length]; exact h)
                        | (refine ⟨i + 1, by go_num, by omega, pre ++ wantP i q, hfin, ?_, HBKX.out⟩; rw [List.length_append] at h; exact h)
                      case measure => simp [intOf]; omega
              · have hil : i = l0_1.length := by omega
                have hpe : xs = pre := by
                  have h := HPX.out
                  rw [List.drop_of_length_le (by omega), wantGo, List.append_nil] at h
                  exact h
                subst hpe
                clear hil
                have q0 := blk_cell HM.out 0
                have q1 := blk_cell HM.out 1
                go_wp2_with fail
                refine (HCL.out (-1) wr HBW.out).mono ?_
                rintro e wc ⟨va, rfl, hRa, hbc⟩
                rw [show resC xs (-1) = xs from if_neg (by rintro ⟨h, _⟩; revert h; decide)] at hRa
                obtain ⟨Aa, ca, rfl⟩ := Kd.R_slice hRa
                have HMc := Aside0.mk (blk_below HM.out hbc)
                have HBc := Aside0.mk (below_step HBW.out hbc)
                have HWc := Aside0.mk (Kd.C_below (Kd.R_reads' HR.out).2.2 hbc)
                have HAc := Aside0.mk (Kd.R_reads' hRa).2.2
                have q0 := blk_cell HMc.out 0
                have q1 := blk_cell HMc.out 1
                clear hRa hbc
                go_wp2_with fail
                refine (HCL.out 1 wc HBc.out).mono ?_
                rintro e wd ⟨vb, rfl, hRb, hbd⟩
                have HBd := Aside0.mk (below_step HBc.out hbd)
                have hWd := Kd.C_below HWc.out hbd
                have hAd := Kd.C_below HAc.out hbd
                have HWd := Aside0.mk hWd
                have HAd := Aside0.mk hAd
                have HBE := Aside0.mk (Kd.R_reads hRb)
                clear hRb hbd q0 q1 hWd hAd
                cases xs with
                | nil =>
                  obtain ⟨Ab, cb, hvb, _, hCb⟩ := HBE.out
                  subst hvb
                  rw [show resC ([] : List (Int × Int)) 1 = [] from if_neg (by simp)] at hCb ⊢
                  go_upto_region 30 with (fail)
                  go_quiet (fail)
                  go_wp2_with fail
                  go_loopw [23] (fun v23 W => ∃ k : Nat, v23 = .int .i64 k ∧ k ≤ ([] : List (Int × Int)).length ∧ Below wd.heap.size wd W) (fun v23 _ => ([] : List (Int × Int)).length - (intOf v23).toNat)
                  case atStart => exact ⟨0, rfl, Nat.zero_le _, by first | exact Below.refl _ _ | exact pw_below_drewN (Below.refl _ _) _⟩
                  case round =>
                    obtain ⟨k, rfl, hk, hbk⟩ := hrel
                    have HBK2 := Aside0.mk hbk
                    have hwk := Kd.C_below HWd.out hbk
                    have hak := Kd.C_below HAd.out hbk
                    clear hbk
                    by_cases hkl : k < ([] : List (Int × Int)).length
                    · exact absurd hkl (by simp)
                    · have hkq : k = ([] : List (Int × Int)).length := by omega
                      clear hwk hak
                      go_wp2_with fail
                      go_ret
                      exact ⟨rfl, HBd.out.trans (HBK2.out.mono HBd.out.size)⟩
                | cons y ys =>
                  obtain ⟨Ab, cb, hvb, _, hCb⟩ := HBE.out
                  subst hvb
                  rw [show resC (y :: ys) 1 = [y] from if_pos ⟨by decide, by simp; omega⟩] at hCb ⊢
                  obtain ⟨ad1, hA1, e1, e2⟩ := at_I2 hCb 0 (by simp)
                  obtain ⟨ad2, hA2, f1, f2⟩ := at_I2 HWd.out 0 (by simp)
                  subst hA1 hA2
                  simp only [List.getD_cons_zero] at e1 e2 f1 f2
                  have E1 : ∀ nq, (wd.drewN nq).cell? (ad1.add 0) = some (.int .i64 y.1) := fun nq => e1
                  have E2 : ∀ nq, (wd.drewN nq).cell? ⟨(ad1.add 0).block, (ad1.add 0).off + 1, none⟩ = some (.int .i64 y.2) := fun nq => e2
                  have F1 : ∀ nq, (wd.drewN nq).cell? (ad2.add 0) = some (.int .i64 y.1) := fun nq => f1
                  have F2 : ∀ nq, (wd.drewN nq).cell? ⟨(ad2.add 0).block, (ad2.add 0).off + 1, none⟩ = some (.int .i64 y.2) := fun nq => f2
                  have E3 : ∀ nq, (wd.drewN nq).cell? ad1 = some (.int .i64 y.1) := fun nq => e1
                  have E4 : ∀ nq, (wd.drewN nq).cell? ⟨ad1.block, ad1.off + 1, none⟩ = some (.int .i64 y.2) := fun nq => e2
                  have F3 : ∀ nq, (wd.drewN nq).cell? ad2 = some (.int .i64 y.1) := fun nq => f1
                  have F4 : ∀ nq, (wd.drewN nq).cell? ⟨ad2.block, ad2.off + 1, none⟩ = some (.int .i64 y.2) := fun nq => f2
                  clear e1 e2 f1 f2 hCb
                  have hys : ys.length ≤ 104857600 := by have h := HWL.out; rw [List.length_cons] at h; omega
                  go_upto_region 30 with (fail)
                  go_quiet (fail)
                  clear E1 E2 E3 E4 F1 F2 F3 F4
                  go_wp2_with fail
                  go_loopw [23] (fun v23 W => ∃ k : Nat, v23 = .int .i64 k ∧ k ≤ (y :: ys).length ∧ Below wd.heap.size wd W) (fun v23 _ => (y :: ys).length - (intOf v23).toNat)
                  case atStart => exact ⟨0, rfl, Nat.zero_le _, by first | exact Below.refl _ _ | exact pw_below_drewN (Below.refl _ _) _⟩
                  case round =>
                    obtain ⟨k, rfl, hk, hbk⟩ := hrel
                    have HBK2 := Aside0.mk hbk
                    have hwk := Kd.C_below HWd.out hbk
                    have hak := Kd.C_below HAd.out hbk
                    clear hbk
                    by_cases hkl : k < (y :: ys).length
                    · have hkl1 : k < ys.length + 1 := hkl
                      obtain ⟨ad3, hA1, e1, e2⟩ := at_I2 hwk k hkl
                      obtain ⟨ad4, hA2, f1, f2⟩ := at_I2 hak k hkl
                      obtain rfl : ad2 = ad3 := Option.some.inj hA1
                      subst hA2
                      obtain ⟨z, hz⟩ : ∃ z, (y :: ys).getD k (0, 0) = z := ⟨_, rfl⟩
                      rw [hz] at e1 e2 f1 f2
                      have E1 : ∀ nq, (wr.drewN nq).cell? (ad2.add (k * 2)) = some (.int .i64 z.1) := fun nq => e1
                      have E2 : ∀ nq, (wr.drewN nq).cell? ⟨(ad2.add (k * 2)).block, (ad2.add (k * 2)).off + 1, none⟩ = some (.int .i64 z.2) := fun nq => e2
                      have F1 : ∀ nq, (wr.drewN nq).cell? (ad4.add (k * 2)) = some (.int .i64 z.1) := fun nq => f1
                      have F2 : ∀ nq, (wr.drewN nq).cell? ⟨(ad4.add (k * 2)).block, (ad4.add (k * 2)).off + 1, none⟩ = some (.int .i64 z.2) := fun nq => f2
                      clear hwk hak e1 e2 f1 f2 hz
                      go_wp2_with fail
                      go_quiet (fail)
                      go_wp2_with fail
                      go_roundw
                      case rel => exact ⟨k + 1, by go_num, by omega, pw_below_drewN HBK2.out nq⟩
                      case measure => simp [intOf]; omega
                    · have hkq : k = ys.length + 1 := by have h : k ≤ ys.length + 1 := hk; have h2 : ¬ k < ys.length + 1 := hkl; omega
                      clear hwk hak
                      go_wp2_with fail
                      go_ret
                      exact ⟨rfl, HBd.out.trans (HBK2.out.mono HBd.out.size)⟩
      · rw [if_pos rfl] at hatl
        subst hatl
        go_wp2_with fail
        go_loopw [13] (fun v13 W => ∃ j : Nat, v13 = .int .i64 j ∧ j ≤ q.length ∧ Below w7.heap.size w7 W) (fun v13 _ => q.length - (intOf v13).toNat)
        case atStart => exact ⟨0, rfl, Nat.zero_le _, Below.refl _ _⟩
        case round =>
          obtain ⟨j, rfl, hj, hbj⟩ := hrel
          have HBJ := Aside0.mk hbj
          clear hbj
          by_cases hjl : j < q.length
          · obtain ⟨ad5, hA5, e1⟩ := Kd.at_int (Kd.C_below HA7.out HBJ.out) (j : Int) (by omega) (by rw [List.length_map]; omega)
            obtain ⟨ad6, hA6, f1⟩ := Kd.at_int (Kd.C_below HP7.out HBJ.out) (j : Int) (by omega) (by rw [List.length_map]; omega)
            subst hA5 hA6
            simp only [Int.toNat_natCast] at e1 f1
            obtain ⟨z, hz⟩ : ∃ z, rd (q.map (·.1)) (j : Int) = z := ⟨_, rfl⟩
            rw [hz] at e1 f1
            have E1 : ∀ nq, (wr.drewN nq).cell? (ad5.add j) = some (.int .i64 z) := fun nq => e1
            have F1 : ∀ nq, (wr.drewN nq).cell? (ad6.add j) = some (.int .i64 z) := fun nq => f1
            clear e1 f1 hz
            go_wp2_with fail
            go_quiet (fail)
            go_wp2_with fail
            go_roundw
            case rel => exact ⟨j + 1, by go_num, by omega, pw_below_drewN HBJ.out nq⟩
            case measure => simp [intOf]; omega
          · have hjq : j = q.length := by omega
            subst hjq
            go_wp2_with fail
            obtain ⟨WX, hWX⟩ : ∃ WX, wr = WX := ⟨_, rfl⟩
            rw [hWX] at HBJ ⊢
            have HMX := Aside0.mk (blk_below HX7.out HBJ.out)
            have HBX0 := Aside0.mk (below_step HB7.out HBJ.out)
            clear hWX hj hjl
            go_loopw [14, 15] (fun v14 v15 W => ∃ (i : Nat) (pre : List (Int × Int)), v15 = .int .i64 i ∧ i ≤ l0_1.length ∧ xs = pre ++ wantGo insB i (l0_1.drop i) ∧ Kd.R kI2 48 W WX.heap.size (fun _ => True) v14 pre ∧ Below WX.heap.size WX W) (fun _ v15 _ => l0_1.length - (intOf v15).toNat)
            case atStart => exact ⟨0, [], rfl, Nat.zero_le _, by rw [List.nil_append, List.drop_zero]; exact HXS.out.symm, Kd.R_nil _ _ _ _ _, Below.refl _ _⟩
            case round =>
              obtain ⟨i, pre, rfl, hi, hpx, hR, hbx⟩ := hrel
              obtain ⟨AW, cW, rfl⟩ := Kd.R_slice hR
              have HPX := Aside0.mk hpx
              have HR := Aside0.mk hR
              have HBX := Aside0.mk hbx
              have HBW := Aside0.mk (below_step HBX0.out hbx)
              have HM := Aside0.mk (blk_below HMX.out hbx)
              clear hpx hR hbx
              by_cases hlt : i < l0_1.length
              · as_aux_lemma =>
                  obtain ⟨ad9, A2, c2, hA, b1, b2, b3, hl2, hC2⟩ := at_T41 H01.out (i : Int) (by omega) (by omega)
                  obtain rfl : ad = ad9 := Option.some.inj hA
                  have hx : rd_T41 l0_1 (i : Int) = l0_1[i] := by
                    unfold rd_T41
                    rw [Int.toNat_natCast, List.getD_eq_getElem?_getD, List.getElem?_eq_getElem hlt]
                    rfl
                  rw [hx] at b1 b2 b3 hl2 hC2
                  simp only [Int.toNat_natCast] at b1 b2 b3
                  obtain ⟨x, hxx⟩ : ∃ x, l0_1[i] = x := ⟨_, rfl⟩
                  rw [hxx] at b1 b2 b3 hl2 hC2
                  have c3 := pw_cell_below HBW.out b3
                  have q1 : wr.cell? ⟨w.heap.size, 1, none⟩ = some (.slice (some ad) l0_1.length c0_1) := blk_cell HM.out 1
                  have hxm : x ∈ l0_1 := by rw [← hxx]; exact List.getElem_mem hlt
                  have hkk := starts_is x.f2 (HBK.out x hxm) (HSZ.out x hxm).2
                  obtain ⟨q, hq⟩ : ∃ q, insB x.f2 = q := ⟨_, rfl⟩
                  have hql : q.length ≤ 1048576 := by rw [← hq]; exact Nat.le_trans (insB_len x.f2 (HBK.out x hxm)) (HSZ.out x hxm).2
                  rw [hq] at hkk
                  have HNX := Aside0.mk (want_next l0_1 i hlt x hxx)
                  have HQ := Aside0.mk hq
                  have HKK := Aside0.mk hkk
                  have HC2 := Aside0.mk hC2
                  have HL2 := Aside0.mk hl2
                  clear b1 b2 b3 hx hxx hl2 hC2 hxm hkk hq
                  go_wp2_with fail
                  refine (pianolaref06_Starts.calls _ A2 c2 x.f2 _ _ wr (Kd.C_below HC2.out HBW.out) HL2.out HKK.out).mono ?_
                  rintro e wa ⟨vS, vP, rfl, hS, hP, hba⟩
                  obtain ⟨AS, cS, rfl⟩ := Kd.R_slice hS
                  obtain ⟨AP, cP, rfl⟩ := Kd.R_slice hP
                  rw [List.length_map]
                  have HSX := Aside0.mk (Kd.R_below (Kd.R_bound hS) (Below.refl _ _))
                  have HRA := Aside0.mk (Kd.R_below HR.out hba)
                  have HBA := Aside0.mk (below_step HBX.out hba)
                  have hza := hba.size
                  clear hS hP hba q1 c3
                  go_wp2_with fail
                  go_loopw [14, 18] (fun v14 v18 W => ∃ k : Nat, v18 = .int .i64 k ∧ k ≤ q.length ∧ Kd.R kI2 48 W WX.heap.size (fun _ => True) v14 (pre ++ wantP i (q.take k)) ∧ Kd.R k47 47 W wr.heap.size (fun _ => True) (.slice AS (q.map (·.2)).length cS) (q.map (·.2)) ∧ Below WX.heap.size WX W) (fun _ v18 _ => q.length - (intOf v18).toNat)
                  case atStart => exact ⟨0, rfl, Nat.zero_le _, by rw [List.take_zero, show wantP i [] = [] from rfl, List.append_nil]; exact HRA.out, Kd.R_mono HSX.out (fun _ _ => trivial), HBA.out⟩
                  case round =>
                    obtain ⟨k, rfl, hk, hRk, hSk, hbk⟩ := hrel
                    obtain ⟨AV, cV, rfl⟩ := Kd.R_slice hRk
                    have HRK := Aside0.mk hRk
                    have HSK := Aside0.mk hSk
                    have HBKX := Aside0.mk hbk
                    clear hRk hSk hbk
                    by_cases hkl : k < q.length
                    · as_aux_lemma =>
                        obtain ⟨ad2, hA2, s1, s2⟩ := at_T47 (Kd.R_reads' HSK.out).2.2 (k : Int) (by omega) (by rw [List.length_map]; omega)
                        subst hA2
                        have hy : rd_T47 (q.map (·.2)) (k : Int) = q[k].2 := by
                          unfold rd_T47
                          rw [Int.toNat_natCast, List.getD_eq_getElem?_getD, List.getElem?_map, List.getElem?_eq_getElem hkl]
                          rfl
                        rw [hy] at s1 s2
                        simp only [Int.toNat_natCast] at s1 s2
                        obtain ⟨y, hyy⟩ : ∃ y, q[k] = y := ⟨_, rfl⟩
                        rw [hyy] at s1 s2
                        have htk : wantP i (q.take (k + 1)) = wantP i (q.take k) ++ (if y.2.f0 = 31 then [((i : Int), y.2.f1)] else []) := by
                          have h := ins_take x.f2 k (by rw [HQ.out]; exact hkl) i
                          simp only [HQ.out, hyy] at h
                          exact h
                        have HTK := Aside0.mk htk
                        have hpl : (pre ++ wantP i (q.take k)).length ≤ xs.length := by
                          have h1 := wantP_app i (q.take k) (q.drop k)
                          rw [List.take_append_drop] at h1
                          rw [HPX.out, HNX.out, HQ.out, h1]
                          simp only [List.length_append]
                          omega
                        have HPL := Aside0.mk hpl
                        clear hy hyy htk hpl
                        by_cases h31 : y.2.f0 = 31
                        · have h31' : (y.2.f0 == 31) = true := by simpa using h31
                          rw [if_pos h31] at HTK
                          clear h31
                          go_wp2_with (at_builtin; go_loud (refine Kd.R_append kI2 (w0 := WX) WX.heap.size rfl (.tmp 153) (.tmp 161) 45 48 (.agg #[.int .i64 0, .int .i64 0]) 16 rfl Try.underlying45 (by kernel_rfl) rfl (by decide) (by decide) (.slice AV (pre ++ wantP i (q.take k)).length cV) (pre ++ wantP i (q.take k)) ((i : Int), y.2.f1) [.int .i64 i, .int .i64 y.2.f1] (fun _ => True) (fun _ => False) (by first | rfl | simp [Act.eval]) (by first | rfl | simp [Act.eval]) ⟨[_], [_], rfl, rfl, rfl⟩ (fun _ hk => hk.elim) (fun _ _ => trivial) HRK.out HBKX.out HBKX.out.size (by have := HPL.out; have := HWL.out; omega) ?_; intro v1 wb ho hb1 hg hat; obtain ⟨AN, cN, rfl⟩ := Kd.R_slice ho; have hs2 := R_typed HSK.out HRK.out hg (by decide) (by decide); have HY := Aside0.mk (And.intro ho (And.intro hb1 hs2)); clear ho hb1 hg hat hs2))
                          go_roundw
                          case rel =>
                            obtain ⟨ho, hb1, hs2⟩ := HY.out
                            refine ⟨k + 1, by go_num, by omega, ?_, hs2, hb1⟩
                            rw [show (pre ++ wantP i (q.take k) ++ [((i : Int), y.2.f1)]).length = pre.length + ((wantP i (q.take k)).length + 1) by rw [List.length_append, List.length_append, List.length_singleton]; omega] at ho
                            rw [HTK.out, ← List.append_assoc]
                            exact ho
                          case measure => simp [intOf]; omega
                        · have h31' : (y.2.f0 == 31) = false := by simpa using h31
                          rw [if_neg h31, List.append_nil] at HTK
                          clear h31
                          go_wp2_with fail
                          go_roundw
                          case rel =>
                            refine ⟨k + 1, by go_num, by omega, ?_, HSK.out, HBKX.out⟩
                            rw [HTK.out]
                            exact HRK.out
                          case measure => simp [intOf]; omega
                    · have hkq : k = q.length := by omega
                      subst hkq
                      go_wp2_with fail
                      go_roundw
                      case rel =>
                        have hfin : xs = (pre ++ wantP i q) ++ wantGo insB (i + 1) (l0_1.drop (i + 1)) := by rw [HPX.out, HNX.out, HQ.out, List.append_assoc]
                        have h := HRK.out
                        rw [List.take_length] at h
                        first
                        | (refine ⟨i + 1, pre ++ wantP i q, by go_num, by omega, hfin, ?_, HBKX.out⟩; rw [List.take_length]; exact h)
                        | (refine ⟨i + 1, by go_num, by omega, pre ++ wantP i q, hfin, ?_, HBKX.out⟩; rw [List.length_append] at h; exact h)
                      case measure => simp [intOf]; omega
              · have hil : i = l0_1.length := by omega
                have hpe : xs = pre := by
                  have h := HPX.out
                  rw [List.drop_of_length_le (by omega), wantGo, List.append_nil] at h
                  exact h
                subst hpe
                clear hil
                have q0 := blk_cell HM.out 0
                have q1 := blk_cell HM.out 1
                go_wp2_with fail
                refine (HCL.out (-1) wr HBW.out).mono ?_
                rintro e wc ⟨va, rfl, hRa, hbc⟩
                rw [show resC xs (-1) = xs from if_neg (by rintro ⟨h, _⟩; revert h; decide)] at hRa
                obtain ⟨Aa, ca, rfl⟩ := Kd.R_slice hRa
                have HMc := Aside0.mk (blk_below HM.out hbc)
                have HBc := Aside0.mk (below_step HBW.out hbc)
                have HWc := Aside0.mk (Kd.C_below (Kd.R_reads' HR.out).2.2 hbc)
                have HAc := Aside0.mk (Kd.R_reads' hRa).2.2
                have q0 := blk_cell HMc.out 0
                have q1 := blk_cell HMc.out 1
                clear hRa hbc
                go_wp2_with fail
                refine (HCL.out 1 wc HBc.out).mono ?_
                rintro e wd ⟨vb, rfl, hRb, hbd⟩
                have HBd := Aside0.mk (below_step HBc.out hbd)
                have hWd := Kd.C_below HWc.out hbd
                have hAd := Kd.C_below HAc.out hbd
                have HWd := Aside0.mk hWd
                have HAd := Aside0.mk hAd
                have HBE := Aside0.mk (Kd.R_reads hRb)
                clear hRb hbd q0 q1 hWd hAd
                cases xs with
                | nil =>
                  obtain ⟨Ab, cb, hvb, _, hCb⟩ := HBE.out
                  subst hvb
                  rw [show resC ([] : List (Int × Int)) 1 = [] from if_neg (by simp)] at hCb ⊢
                  go_upto_region 30 with (fail)
                  go_quiet (fail)
                  go_wp2_with fail
                  go_loopw [23] (fun v23 W => ∃ k : Nat, v23 = .int .i64 k ∧ k ≤ ([] : List (Int × Int)).length ∧ Below wd.heap.size wd W) (fun v23 _ => ([] : List (Int × Int)).length - (intOf v23).toNat)
                  case atStart => exact ⟨0, rfl, Nat.zero_le _, by first | exact Below.refl _ _ | exact pw_below_drewN (Below.refl _ _) _⟩
                  case round =>
                    obtain ⟨k, rfl, hk, hbk⟩ := hrel
                    have HBK2 := Aside0.mk hbk
                    have hwk := Kd.C_below HWd.out hbk
                    have hak := Kd.C_below HAd.out hbk
                    clear hbk
                    by_cases hkl : k < ([] : List (Int × Int)).length
                    · exact absurd hkl (by simp)
                    · have hkq : k = ([] : List (Int × Int)).length := by omega
                      clear hwk hak
                      go_wp2_with fail
                      go_ret
                      exact ⟨rfl, HBd.out.trans (HBK2.out.mono HBd.out.size)⟩
                | cons y ys =>
                  obtain ⟨Ab, cb, hvb, _, hCb⟩ := HBE.out
                  subst hvb
                  rw [show resC (y :: ys) 1 = [y] from if_pos ⟨by decide, by simp; omega⟩] at hCb ⊢
                  obtain ⟨ad1, hA1, e1, e2⟩ := at_I2 hCb 0 (by simp)
                  obtain ⟨ad2, hA2, f1, f2⟩ := at_I2 HWd.out 0 (by simp)
                  subst hA1 hA2
                  simp only [List.getD_cons_zero] at e1 e2 f1 f2
                  have E1 : ∀ nq, (wd.drewN nq).cell? (ad1.add 0) = some (.int .i64 y.1) := fun nq => e1
                  have E2 : ∀ nq, (wd.drewN nq).cell? ⟨(ad1.add 0).block, (ad1.add 0).off + 1, none⟩ = some (.int .i64 y.2) := fun nq => e2
                  have F1 : ∀ nq, (wd.drewN nq).cell? (ad2.add 0) = some (.int .i64 y.1) := fun nq => f1
                  have F2 : ∀ nq, (wd.drewN nq).cell? ⟨(ad2.add 0).block, (ad2.add 0).off + 1, none⟩ = some (.int .i64 y.2) := fun nq => f2
                  have E3 : ∀ nq, (wd.drewN nq).cell? ad1 = some (.int .i64 y.1) := fun nq => e1
                  have E4 : ∀ nq, (wd.drewN nq).cell? ⟨ad1.block, ad1.off + 1, none⟩ = some (.int .i64 y.2) := fun nq => e2
                  have F3 : ∀ nq, (wd.drewN nq).cell? ad2 = some (.int .i64 y.1) := fun nq => f1
                  have F4 : ∀ nq, (wd.drewN nq).cell? ⟨ad2.block, ad2.off + 1, none⟩ = some (.int .i64 y.2) := fun nq => f2
                  clear e1 e2 f1 f2 hCb
                  have hys : ys.length ≤ 104857600 := by have h := HWL.out; rw [List.length_cons] at h; omega
                  go_upto_region 30 with (fail)
                  go_quiet (fail)
                  clear E1 E2 E3 E4 F1 F2 F3 F4
                  go_wp2_with fail
                  go_loopw [23] (fun v23 W => ∃ k : Nat, v23 = .int .i64 k ∧ k ≤ (y :: ys).length ∧ Below wd.heap.size wd W) (fun v23 _ => (y :: ys).length - (intOf v23).toNat)
                  case atStart => exact ⟨0, rfl, Nat.zero_le _, by first | exact Below.refl _ _ | exact pw_below_drewN (Below.refl _ _) _⟩
                  case round =>
                    obtain ⟨k, rfl, hk, hbk⟩ := hrel
                    have HBK2 := Aside0.mk hbk
                    have hwk := Kd.C_below HWd.out hbk
                    have hak := Kd.C_below HAd.out hbk
                    clear hbk
                    by_cases hkl : k < (y :: ys).length
                    · have hkl1 : k < ys.length + 1 := hkl
                      obtain ⟨ad3, hA1, e1, e2⟩ := at_I2 hwk k hkl
                      obtain ⟨ad4, hA2, f1, f2⟩ := at_I2 hak k hkl
                      obtain rfl : ad2 = ad3 := Option.some.inj hA1
                      subst hA2
                      obtain ⟨z, hz⟩ : ∃ z, (y :: ys).getD k (0, 0) = z := ⟨_, rfl⟩
                      rw [hz] at e1 e2 f1 f2
                      have E1 : ∀ nq, (wr.drewN nq).cell? (ad2.add (k * 2)) = some (.int .i64 z.1) := fun nq => e1
                      have E2 : ∀ nq, (wr.drewN nq).cell? ⟨(ad2.add (k * 2)).block, (ad2.add (k * 2)).off + 1, none⟩ = some (.int .i64 z.2) := fun nq => e2
                      have F1 : ∀ nq, (wr.drewN nq).cell? (ad4.add (k * 2)) = some (.int .i64 z.1) := fun nq => f1
                      have F2 : ∀ nq, (wr.drewN nq).cell? ⟨(ad4.add (k * 2)).block, (ad4.add (k * 2)).off + 1, none⟩ = some (.int .i64 z.2) := fun nq => f2
                      clear hwk hak e1 e2 f1 f2 hz
                      go_wp2_with fail
                      go_quiet (fail)
                      go_wp2_with fail
                      go_roundw
                      case rel => exact ⟨k + 1, by go_num, by omega, pw_below_drewN HBK2.out nq⟩
                      case measure => simp [intOf]; omega
                    · have hkq : k = ys.length + 1 := by have h : k ≤ ys.length + 1 := hk; have h2 : ¬ k < ys.length + 1 := hkl; omega
                      clear hwk hak
                      go_wp2_with fail
                      go_ret
                      exact ⟨rfl, HBd.out.trans (HBK2.out.mono HBd.out.size)⟩
    exact key _ rfl

end Go.Proofs.Ytjkjpmfenillcaa.P
