/- Ytpfbfnbffglbkaa: what Go functions come to, and that they do: walks, printed by a program of this session or typed by hand; no statement of the seat stands here. -/
import Derived.Test.YtpfbfnbffglbkaaP0
import Derived.Test.YtpfbfnbffglbkaaPF21
import Derived.Test.YtpfbfnbffglbkaaPF42
import Derived.Test.YtpfbfnbffglbkaaPF43
import Derived.Deep.DeepCutAuto
import Derived.Deep.RegionHeld3
import Derived.Laws.EntriesVeiled
import Derived.Test.YtpfbfnbffglbkaaFlowE
namespace Go.Proofs.Ytpfbfnbffglbkaa.P
open Go.RowKit Go.Proofs.YtpfbfnbffglbkaaW.PrintWords Go.Proofs.YtpfbfnbffglbkaaW.PrintLast Go.Proofs.YtpfbfnbffglbkaaW.PrintMore
attribute [local go_sem] max2_int min2_int max_two min_two max_three min_three max_four min_four   -- for this text's walks alone
set_option linter.unusedVariables false
set_option linter.unusedSimpArgs false


/-! ### flow_Over: function 22 -/
-- IMPORT Derived.Test.YtpfbfnbffglbkaaFlowE
-- IMPORT Derived.Deep.DeepCutAuto
-- IMPORT Derived.Laws.EntriesVeiled
-- IMPORT Derived.Deep.RegionHeld3
def OverP (w : World) (l0 : List S30) (rr : List Int) (e : Ending) (w' : World) : Prop := ∃ v0_ : Value, e = .returned v0_ ∧ Kd.R (Kd.int .i64) 3 w' w.heap.size (fun _ => True) v0_ (if 0 < (ordB l0).length then rr.set 0 (-1) else rr) ∧ Below w.heap.size w w'
attribute [local go_sem] Oper.semAt_some
set_option maxRecDepth 100000 in
set_option maxHeartbeats 4000000 in
theorem over_walk (A0 : Option Addr) (c0 : Nat) (l0 : List S30) (n : Nat) (hn : l0.length = n) (w : World) (hr0 : Kd.C k30 w A0 n l0) (hc0 : n ≤ c0) (hmx : n ≤ 3600000000000) (hpm : (behR l0 n n 0).length ≤ 1000000000000)
    (kk : Nat) (rr : List Int) (hrun : loopO kk (placeG (ordB l0) 0 (List.replicate n 0)) (aheadB l0) ((ordB l0).drop 1) kk (if 0 < (ordB l0).length then (List.replicate n (-1)).set 0 0 else List.replicate n (-1)) = some rr) :
    Calls Try.prog 22 #[.slice A0 n c0] w (OverP w l0 rr) := by
  have HR0 := Aside0.mk hr0
  have HN := Aside0.mk hn
  have HPM := Aside0.mk hpm
  have HRUN := Aside0.mk hrun
  have hmk := print_make (P := Try.prog) 23 3 .i64 8 Try.underlying23 info3 (by decide) n (by omega)
  have hmk65 := print_make_of (P := Try.prog) 65 23 (.slice none 0 0) 24 Try.underlying65 (by kernel_rfl) rfl (by decide) n (by omega)
  have hord := flow_Order.calls A0 c0 l0 (ordB l0) w (by rw [hn]; exact hr0) (by rw [hn]; exact hc0) (by unfold flow_Order.f; rw [if_pos (by rw [hn]; exact hmx)])
  rw [hn] at hord
  have HORD := Aside0.mk hord
  have HREP := Aside0.mk (show slices_Repeat_int_int.f [-1] (n : Int) = some (List.replicate n (-1)) from by unfold slices_Repeat_int_int.f; rw [if_pos ⟨rfl, by omega, by omega⟩]; rfl)
  clear hr0 hn hord hpm hrun
  refine (callsIn_wide (n := 4)).1 ?_
  refine callsIn_of_wp_marks Try.func22 rfl trivial ?_ rfl
  simp only [Try.ntmps22, List.size_toArray, List.length_cons, List.length_nil, Nat.reduceAdd, Nat.reduceSub, Array.replicate_succ, Array.replicate_zero, List.push_toArray, List.append_toArray, List.nil_append, List.cons_append]
  refine wpIn_wide.2 ?_
  go_wp2_with fail
  refine HORD.out.mono ?_
  rintro e W1 ⟨v3, rfl, hR3, hB1⟩
  obtain ⟨A3, c3, rfl⟩ := Kd.R_slice hR3
  have HR3 := Aside0.mk hR3
  have HB1 := Aside0.mk hB1
  clear hR3 hB1
  go_upto_region 2 with (fail)
  go_cut [4, 5] from 19 to 25 (fun u4 u5 wx => ∃ v4 v5, u4 = v4 ∧ u5 = v5 ∧ OV w wx (.slice A3 (ordB l0).length c3) v4 v5 (ordB l0) (List.replicate n (-1)) (List.replicate n 0))
  case first =>
    refine wp_region_noPanic ?_
    go_region_with (go_at_call 42; refine (slices_Repeat_int_int.calls (some ⟨_, 0, none⟩) 1 [-1] (n : Int) (List.replicate n (-1)) _ (by first | exact C_newI W1 [-1] (by decide) | exact Kd.C_below (C_newI W1 [-1] (by decide)) (below_drew (below_alloc (Below.refl _ _) _)) | (have h := C_newI (W1.alloc (.cells (madeCells #[Value.int .i64 0] n) 3)) [-1] (by decide); rw [World.size_alloc] at h; exact h)) (Nat.le_refl 1) HREP.out).mono ?_; rintro e w' ⟨v4, rfl, hR4, hB4⟩; have HR4 := Aside0.mk hR4; have HB4 := Aside0.mk hB4; clear hR4 hB4)
    · refine NoPanic.normal ?_
      go_wp2_with fail
      go_meet
      case rel =>
        have hX : Below W1.heap.size W1 (W1.alloc (.cells #[.int .i64 (-1)] 3)).drew := below_drew (below_alloc (Below.refl _ W1) _)
        have o4 := Kd.own_of_R HR4.out
        have hw := hX.trans (HB4.out.mono hX.size)
        exact ⟨v4, _, rfl, rfl, OV.mk1 HR3.out HB1.out (below_alloc hw _) (pw_own_below (own_lower o4 hX.size) (below_alloc (Below.refl _ _) _)) (own_made' w' W1.heap.size 3 .i64 n hw.size (by omega)) (fun k hk e => by have h1 := own_lt o4 k hk; have h2 : w'.heap.size = k := Option.some.inj e; omega)⟩
    · refine NoPanic.normal ?_
      go_wp2_with fail
      go_meet
      case rel =>
        have hX : Below W1.heap.size W1 ((W1.alloc (.cells #[.int .i64 (-1)] 3)).alloc (.cells (madeCells #[Value.int .i64 0] n) 3)).drew := below_drew (below_alloc (below_alloc (Below.refl _ W1) _) _)
        have o4 := Kd.own_of_R HR4.out
        have hw := hX.trans (HB4.out.mono hX.size)
        have hm := own_made' (W1.alloc (.cells #[.int .i64 (-1)] 3)) W1.heap.size 3 .i64 n (by rw [World.size_alloc]; omega) (by omega)
        rw [World.size_alloc] at hm
        have hz : ((W1.alloc (.cells #[.int .i64 (-1)] 3)).alloc (.cells (madeCells #[Value.int .i64 0] n) 3)).drew.heap.size = W1.heap.size + 1 + 1 := by show ((W1.alloc (.cells #[.int .i64 (-1)] 3)).alloc (.cells (madeCells #[Value.int .i64 0] n) 3)).heap.size = _; rw [World.size_alloc, World.size_alloc]
        exact ⟨v4, _, rfl, rfl, OV.mk1 HR3.out HB1.out hw (own_lower o4 hX.size) (pw_own_below hm (below_step (below_drew (Below.refl _ _)) HB4.out)) (fun k hk e => by have h1 := own_base o4 k hk; have h2 : W1.heap.size + 1 = k := Option.some.inj e; omega)⟩
    · refine NoPanic.normal ?_
      go_wp2_with fail
      go_meet
      case rel =>
        have hX : Below W1.heap.size W1 ((W1.alloc (.cells (madeCells #[Value.int .i64 0] n) 3)).alloc (.cells #[.int .i64 (-1)] 3)).drew := below_drew (below_alloc (below_alloc (Below.refl _ W1) _) _)
        have o4 := Kd.own_of_R HR4.out
        have hw := hX.trans (HB4.out.mono hX.size)
        have hm := own_made' W1 W1.heap.size 3 .i64 n (Nat.le_refl _) (by omega)
        have hz : ((W1.alloc (.cells (madeCells #[Value.int .i64 0] n) 3)).alloc (.cells #[.int .i64 (-1)] 3)).drew.heap.size = W1.heap.size + 1 + 1 := by show ((W1.alloc (.cells (madeCells #[Value.int .i64 0] n) 3)).alloc (.cells #[.int .i64 (-1)] 3)).heap.size = _; rw [World.size_alloc, World.size_alloc]
        exact ⟨v4, _, rfl, rfl, OV.mk1 HR3.out HB1.out hw (own_lower o4 hX.size) (pw_own_below hm (below_step (below_drew (below_alloc (Below.refl _ _) _)) HB4.out)) (fun k hk e => by have h1 := own_base o4 k hk; have h2 : W1.heap.size = k := Option.some.inj e; omega)⟩
  case rest =>
    obtain ⟨v4, v5, rfl, rfl, hOV⟩ := hcut
    obtain ⟨A4, c4, rfl⟩ := own_slice hOV.o4
    obtain ⟨A5, c5, rfl⟩ := own_slice hOV.o5
    simp only [List.length_replicate] at *
    have HOV := Aside0.mk hOV
    clear hOV HR3 HB1
    have hin := ord_in l0
    rw [HN.out] at hin
    have HIN := Aside0.mk hin
    obtain ⟨ord, hordE⟩ : ∃ ord, ord = ordB l0 := ⟨_, rfl⟩
    rw [← hordE] at HOV HIN HRUN ⊢
    have hol := own_len3 HOV.out
    have hw0 : (wc.alloc (.cells (madeCells #[Value.slice none 0 0] n) 23)).heap[wc.heap.size]? = some (.cells (madeCells #[Value.slice none 0 0] n) 23 (0, 0)) := blk_new wc _
    have HE := Aside0.mk hordE
    have HG := Aside0.mk hw0
    have HOV1 := Aside0.mk ((HOV.out.below (below_alloc (Below.refl _ wc) (.cells (madeCells #[Value.slice none 0 0] n) 23))).below (below_alloc (Below.refl _ _) (.cells #[.slice (some ⟨wc.heap.size, 0, none⟩) n n] 65)))
    have hg6 : ((wc.alloc (.cells (madeCells #[Value.slice none 0 0] n) 23)).alloc (.cells #[.slice (some ⟨wc.heap.size, 0, none⟩) n n] 65)).heap[wc.heap.size + 1]? = some (.cells #[.slice (some ⟨wc.heap.size, 0, none⟩) n n] 65 (0, 0)) := by
      have := blk_new (wc.alloc (.cells (madeCells #[Value.slice none 0 0] n) 23)) (.cells #[.slice (some ⟨wc.heap.size, 0, none⟩) n n] 65)
      rw [World.size_alloc] at this
      exact this
    have HG6 := Aside0.mk hg6
    have hEz : wc.heap.size + 2 ≤ ((wc.alloc (.cells (madeCells #[Value.slice none 0 0] n) 23)).alloc (.cells #[.slice (some ⟨wc.heap.size, 0, none⟩) n n] 65)).heap.size := by rw [World.size_alloc, World.size_alloc]; omega
    have HEZ := Aside0.mk hEz
    have HBK := Aside0.mk (OV.blocks HOV.out)
    have hwc0 : w.heap.size ≤ wc.heap.size := HOV.out.hb.size
    clear hin hordE hw0 hg6 hEz
    go_wp2_with fail
    go_loopw [31] (fun v31 wr => ∃ (k : Nat) (pl : List Int), v31 = .int .i64 k ∧ k ≤ ord.length ∧ pl.length = n ∧ placeG (ord.drop k) k pl = placeG ord 0 (List.replicate n 0) ∧ OV w wr (.slice A3 ord.length c3) (.slice A4 n c4) (.slice A5 n c5) ord (List.replicate n (-1)) pl ∧
        wr.heap[wc.heap.size]? = some (.cells (madeCells #[Value.slice none 0 0] n) 23 (0, 0)) ∧ wr.heap[wc.heap.size + 1]? = some (.cells #[.slice (some ⟨wc.heap.size, 0, none⟩) n n] 65 (0, 0)) ∧ wc.heap.size + 2 ≤ wr.heap.size) (fun v31 _ => ord.length - (intOf v31).toNat)
    case atStart => exact ⟨0, List.replicate n 0, rfl, Nat.zero_le _, List.length_replicate, rfl, HOV1.out, blk_alloc HG.out _, HG6.out, HEZ.out⟩
    case round =>
      obtain ⟨k, pl, rfl, hk, hpl, hgo, hOVr, hga, hg6, hz⟩ := hrel
      by_cases hlt : k < ord.length
      · have hi1 : (k : Int) < (ord.length : Int) := by omega
        obtain ⟨ad, hA3, hc3⟩ := hOVr.at3 rfl k hlt
        have hx := HIN.out (rd ord (k : Int)) (by unfold rd; rw [Int.toNat_natCast, List.getD_eq_getElem?_getD, List.getElem?_eq_getElem hlt]; exact List.getElem_mem _)
        obtain ⟨j, hj⟩ := Int.eq_ofNat_of_zero_le hx.1
        have hjn : j < n := by omega
        have hjn2 : (j : Int) < (n : Int) := by omega
        rw [hj] at hc3
        obtain ⟨g, hA5, hgb, hgl, hgt, hgc, hgf, hOV2⟩ := hOVr.place hpl (by omega) j hjn (k : Int)
        have hstep : placeG (ord.drop (k + 1)) (k + 1) (pl.set j (k : Int)) = placeG ord 0 (List.replicate n 0) := by
          rw [List.drop_eq_getElem_cons hlt, placeG] at hgo
          have e : ord[k] = (j : Int) := by
            rw [← hj]
            unfold rd
            rw [Int.toNat_natCast, List.getD_eq_getElem?_getD, List.getElem?_eq_getElem hlt]
            rfl
          rw [e, Int.toNat_natCast] at hgo
          exact hgo
        have HST := Aside0.mk hstep
        have HOV2 := Aside0.mk hOV2
        have HGA := Aside0.mk hga
        have HG6 := Aside0.mk hg6
        have HGT := Aside0.mk hgt
        subst hA3
        subst hA5
        have hgE := HBK.out _ g (.inr (.inr rfl)) rfl
        clear hgo hstep hOV2 hOVr hga hg6 hgt hx hj
        go_wp2_with fail
        go_roundw
        case rel => exact ⟨k + 1, pl.set j (k : Int), by go_num, by omega, by rw [List.length_set]; exact hpl, HST.out, HOV2.out, blk_far HGA.out (p := ⟨g, j, none⟩) (by show wc.heap.size ≠ g; omega) _, blk_far HG6.out (p := ⟨g, j, none⟩) (by show wc.heap.size + 1 ≠ g; omega) _, by rw [World.size_setCell]; exact hz⟩
        case measure => simp only [intOf]; omega
      · have hi1 : ¬ (k : Int) < (ord.length : Int) := by omega
        have hplace : pl = placeG ord 0 (List.replicate n 0) := by
          rw [List.drop_eq_nil_of_le (by omega), placeG] at hgo
          exact hgo
        have HPL := Aside0.mk hplace
        have HOVR := Aside0.mk hOVr
        have HGA := Aside0.mk hga
        have HGS := Aside0.mk hg6
        have HKN := Aside0.mk hpl
        clear hplace hgo hOVr hga hg6 hpl HOV HOV1 HG HG6 HEZ
        go_wp2_with fail
        refine ((callsIn_wide (n := 4)).1 (beh_in 4 A0 n c0 _)).mono ?_
        rintro e w2 ⟨rfl, rfl⟩
        go_wp2_with fail
        have b2 : Boxed (wr.alloc (.cells #[.slice A0 n c0] 25)) wr.heap.size 25 (.slice A0 n c0) := Boxed.new wr _ _
        have hOV3 := HOVR.out.below (below_alloc (Below.refl _ wr) (.cells #[.slice A0 n c0] 25))
        have hAH := AH.start (wr.alloc (.cells #[.slice A0 n c0] 25)) (wc.heap.size + 1) wc.heap.size (wr.heap.size + 1) n (blk_alloc HGS.out _) (by omega) (by omega) (blk_alloc HGA.out _)
        have hz0 : (wr.alloc (.cells #[.slice A0 n c0] 25)).heap.size = wr.heap.size + 1 := by rw [World.size_alloc]
        obtain ⟨W0, hW0⟩ : ∃ W0, wr.alloc (.cells #[.slice A0 n c0] 25) = W0 := ⟨_, rfl⟩
        rw [hW0] at b2 hOV3 hAH hz0 ⊢
        have hwle : w.heap.size ≤ wr.heap.size := HOVR.out.hb.size
        have HBX := Aside0.mk (fun v k hv hk => have h := HBK.out v k hv hk; (⟨by omega, by omega⟩ : k < wr.heap.size + 1 ∧ k ≠ wc.heap.size))
        obtain ⟨xs, hxs⟩ : ∃ xs, behR l0 n n 0 = xs := ⟨_, rfl⟩
        refine (wpIn_wide (n := 4)).1 ?_
        refine wpIn_rangeFunc_ownH rfl (by omega) (gf := 44) (lb := #[.pointer (some ⟨wr.heap.size, 0, none⟩)]) rfl trivial (enters_of Try.func44 (by kernel_rfl) rfl)
          (beh_stops (4 - 1) (by omega) wr.heap.size l0 n HN.out hmx A0 c0 hc0 xs hxs w HR0.out W0 hOV3.hb b2) (fun h k => KeepBox.t h k) (fun W l o o' => KeepBox.b (by omega) (by omega) W l o o') (Below.refl _ _) (fun _ => rfl)
          (AhI w (wc.heap.size + 1) wc.heap.size (wr.heap.size + 1) wr.heap.size A0 n c0 (.slice A3 ord.length c3) (.slice A4 n c4) (.slice A5 n c5) ord (List.replicate n (-1)) pl xs) (fun _ _ _ => False) (AhI.kept _ _ _ _ _ _ _ _ _ _ _ _ _ _ _ (by omega)) (fun _ _ _ _ _ hs _ _ => hs) ⟨hAH, hOV3, b2, by omega⟩
          (fun x a' W => a' = { tmps := #[.slice A0 n c0, undef, .slice none 0 0, .slice A3 ord.length c3, .slice A4 n c4, .slice A5 n c5, .pointer (some ⟨wc.heap.size + 1, 0, none⟩), u7, u8, .int .i64 x.1.1, .int .i64 x.1.2, undef, undef, undef, undef, undef, undef, .slice A0 n c0, .slice A3 ord.length c3, u19, u20, u21, u22, u23, u24, u25, .slice A0 n c0, .int .i64 n, .slice (some ⟨wc.heap.size, 0, none⟩) n n, .slice A3 ord.length c3, .int .i64 ord.length, .int .i64 k, .bool false, u33, u34, u35, u36, u37, u38, u39, u40, .slice A0 n c0, .func (.func 44) #[] #[Value.pointer (some ⟨wr.heap.size, 0, none⟩)], .int .i64 x.1.1, .int .i64 x.1.2, undef, undef, undef, undef, undef, undef, undef, undef, undef, undef, undef, undef, undef, undef, undef, undef, undef, undef, undef, undef, undef, undef, undef, undef, undef, undef, undef, undef, undef, undef, undef, undef, undef, undef, undef, undef, undef, undef, undef, undef, undef, undef, undef, undef, undef, undef, undef, undef, undef, undef, undef, undef, undef, undef, undef, undef, undef, undef, undef, undef, undef, undef, undef, undef, undef, undef, undef, undef, undef, undef, undef], defers := [] }) (fun x a' => (by rintro _ W W' row h _ _; exact h)) ?assign ?body ?done ?stop
        case assign =>
          rintro l pre x W K hi hK
          gi_wp2
          exact hK _ _ ((KeepsOthers.refl _).from _) ⟨Below.refl _ _, rfl⟩ hi rfl
        case body =>
          rintro l pre x a' W hl hloop hi rfl hlt
          rcases x with ⟨⟨p, q⟩, hp⟩
          have hbm := behR_in l0 n n 0 (p, q) (by rw [hxs]; exact hp)
          obtain ⟨t, rfl, ht⟩ := isN_nat hbm.2.2
          dsimp only
          have hi1 := hi.drew
          obtain ⟨vs, h1, h2, h3, h4⟩ := hi1.1.arr
          have c6 : W.drew.cell? ⟨wc.heap.size + 1, 0, none⟩ = some (.slice (some ⟨wc.heap.size, 0, none⟩) n n) := blk_cell hi1.1.box 0
          obtain ⟨vt, hvt⟩ : ∃ vt, vs.getD t undef = vt := ⟨_, rfl⟩
          have harr : ∀ {W1 : World}, W1.heap[wc.heap.size]? = some (.cells vs.toArray 23 (0, 0)) → W1.cell? ⟨wc.heap.size, t, none⟩ = some vt := fun h => by rw [← hvt]; exact arr_cell h (by omega)
          have HARR := Aside0.mk @harr
          have HVT := Aside0.mk hvt
          have ca : W.drew.cell? ⟨wc.heap.size, t, none⟩ = some vt := harr h1
          have cf : W.drew.frozen? ⟨wc.heap.size, t, none⟩ = false := blk_frozen h1 t
          have t0 : (0 : Int) ≤ (t : Int) := by omega
          have t1 : (t : Int) < (n : Int) := by omega
          have h3t := h3 t ht
          rw [hvt] at h3t
          have HVS := Aside0.mk h2
          have hlen : ((((pre.map (·.1)).foldl addP (List.replicate n [])).getD t []).length + 1) * 8 ≤ 140737488355328 := by
            have h5 := addP_len t (pre.map (·.1)) (List.replicate n [])
            have h6 : ((List.replicate n ([] : List Int)).getD t []).length = 0 := by rw [List.getD_eq_getElem?_getD, List.getElem?_replicate, if_pos ht]; rfl
            rw [h6, List.length_map] at h5
            have h7 := HPM.out
            rw [hxs] at h7
            omega
          have HI := Aside0.mk hi1
          have H1 := Aside0.mk h1
          have H3 := Aside0.mk h3
          have H4 := Aside0.mk h4
          have H3T := Aside0.mk h3t
          have HLN := Aside0.mk hlen
          clear hi hi1 h1 h2 h3 h4 h3t hlen hbm hloop harr hvt
          refine wpIn_block ?_
          refine wpIn_region_calm (fun f => trivial) (by kernel_rfl) (by rfl) (S := fun W' => W'.cell? ⟨wc.heap.size + 1, 0, none⟩ = some (.slice (some ⟨wc.heap.size, 0, none⟩) n n)) c6 (fun hHeld => ?_)
          refine wpAnyH_take (i := 1) (v := .int .i64 (t : Int)) rfl (by kernel_rfl) (by kernel_rfl) (by kernel_rfl) (fun _ _ _ h => h) (Or.inl ⟨by rfl, fun w hSw => by (try dsimp only at hSw); go_simp⟩) (by assumption) ?_
          simp only [Act.put, List.setIfInBounds_toArray, List.set_cons_zero, List.set_cons_succ]
          refine wpAnyH_take (i := 3) (v := .int .i64 (t : Int)) rfl (by kernel_rfl) (by kernel_rfl) (by kernel_rfl) (fun _ _ _ h => h) (Or.inl ⟨by rfl, fun w hSw => by (try dsimp only at hSw); go_simp⟩) (by assumption) ?_
          simp only [Act.put, List.setIfInBounds_toArray, List.set_cons_zero, List.set_cons_succ]
          refine wpAnyH_take (i := 6) (v := .int .i64 p) rfl (by kernel_rfl) (by kernel_rfl) (by kernel_rfl) (fun _ _ _ h => h) (Or.inl ⟨by rfl, fun w hSw => by (try dsimp only at hSw); go_simp⟩) (by assumption) ?_
          simp only [Act.put, List.setIfInBounds_toArray, List.set_cons_zero, List.set_cons_succ]
          refine wpAnyH_take (i := 0) (v := .slice (some ⟨wc.heap.size, 0, none⟩) n n) rfl (by kernel_rfl) (by kernel_rfl) (by kernel_rfl) (fun _ _ _ h => h) (Or.inl ⟨by rfl, fun w hSw => by (try dsimp only at hSw); go_simp⟩) (by assumption) ?_
          simp only [Act.put, List.setIfInBounds_toArray, List.set_cons_zero, List.set_cons_succ]
          refine wpAnyH_take (i := 2) (v := .slice (some ⟨wc.heap.size, 0, none⟩) n n) rfl (by kernel_rfl) (by kernel_rfl) (by kernel_rfl) (fun _ _ _ h => h) (Or.inl ⟨by rfl, fun w hSw => by (try dsimp only at hSw); go_simp⟩) (by assumption) ?_
          simp only [Act.put, List.setIfInBounds_toArray, List.set_cons_zero, List.set_cons_succ]
          refine wpAnyH_take (i := 4) (v := .pointer (some ⟨wc.heap.size, t, none⟩)) rfl (by kernel_rfl) (by kernel_rfl) (by kernel_rfl) (fun _ _ _ h => h) (Or.inl ⟨by rfl, fun w hSw => by (try dsimp only at hSw); go_simp⟩) (by assumption) ?_
          simp only [Act.put, List.setIfInBounds_toArray, List.set_cons_zero, List.set_cons_succ]
          refine wpAnyH_ready (rs := [5, 7]) (by kernel_rfl) (by simp) ?_
          refine AllReadyH.cons rfl (fun K hK => ?_) (AllReadyH.cons rfl (fun K hK => ?_) AllReadyH.nil)
          · go_simp
            refine hK.out _ _ (by assumption) (fun hHeld2 => ?_)
            clear hK K
            refine wpAnyH_ready (rs := [7]) (by kernel_rfl) (by simp) ?_
            refine AllReadyH.cons rfl (fun K hK => ?_) AllReadyH.nil
            go_simp
            refine hK.out _ _ (blk_cell (blk_alloc HI.out.1.box _) 0) (fun hHeld3 => ?_)
            clear hK K
            refine wpAnyH_ready (rs := [8]) (by kernel_rfl) (by simp) ?_
            refine AllReadyH.cons rfl (fun K hK => ?_) AllReadyH.nil
            refine step_append_cells (W := W.drew) (wr.heap.size + 1) rfl _ _ 23 3 (.int .i64 0) 1 8 rfl Try.underlying23 (by rw [info3]) rfl (by decide) (by decide) vt _ _ [.int .i64 p] rfl rfl rfl (by simp [Value.oneCell']) H3T.out (Below.refl _ _) HI.out.2.2.2 HLN.out ?_
            intro v1 w1 ho1 hb1 hg1 hat1
            obtain ⟨A1, n1, c1, hv1⟩ : ∃ A n c, v1 = .slice A n c := by
              obtain ⟨g1, cp1, hv1⟩ := ownsRow_succ ho1
              exact ⟨_, _, _, hv1⟩
            subst hv1
            rw [← HVT.out] at hg1 hat1
            have HS := Aside0.mk (HI.out.step (by omega) (by omega) HBX.out H1.out HVS.out H3.out H4.out p t ht hp _ w1 ho1 hb1 hg1 hat1)
            have hga1 : w1.heap[wc.heap.size]? = some (.cells vs.toArray 23 (0, 0)) := (hb1.block _ (by omega)).trans H1.out
            have hg61 : w1.heap[wc.heap.size + 1]? = some (.cells #[.slice (some ⟨wc.heap.size, 0, none⟩) n n] 65 (0, 0)) := (hb1.block _ (by omega)).trans HI.out.1.box
            clear ho1 hb1 hg1 hat1
            refine hK.out _ _ (blk_cell hg61 0) (fun hHeld3 => ?_)
            simp only [Act.put, List.setIfInBounds_toArray, List.set_cons_zero, List.set_cons_succ]
            clear hK K
            refine wpAnyH_take (i := 9) (v := .pointer (some ⟨wc.heap.size, t, none⟩)) rfl (by kernel_rfl) (by kernel_rfl) (by kernel_rfl) (fun _ _ _ h => h) (Or.inl ⟨by rfl, fun w hSw => by (try dsimp only at hSw); go_simp⟩) (by assumption) ?_
            simp only [Act.put, List.setIfInBounds_toArray, List.set_cons_zero, List.set_cons_succ]
            have s2 := HARR.out hga1
            have s3 : w1.frozen? ⟨wc.heap.size, t, none⟩ = false := blk_frozen hga1 t
            refine wpAnyH_ready (rs := [10]) (by kernel_rfl) (by simp) ?_
            refine AllReadyH.cons rfl (fun K hK => ?_) AllReadyH.nil
            go_simp
            refine hK.out _ _ (blk_cell ((Below.heap_setCell w1 ⟨wc.heap.size, t, none⟩ _ (wc.heap.size + 1) (by show wc.heap.size + 1 ≠ wc.heap.size; omega)).trans hg61) 0) (fun hHeld4 => ?_)
            refine wpAnyH_done (by kernel_rfl) ?_ _
            exact ⟨(KeepsOthers.trans (KeepsOthers.drew W) HS.out.1).from _, KeepBox.t ⟨below_drew (Below.refl _ _), rfl⟩ HS.out.2.1, HS.out.2.2⟩
          · go_simp
            refine hK.out _ _ (blk_cell (blk_alloc HI.out.1.box _) 0) (fun hHeld2 => ?_)
            clear hK K
            have s2 : (W.alloc (.cells #[.int .i64 p] 3)).drew.cell? ⟨wc.heap.size, t, none⟩ = some vt := HARR.out (W1 := (W.alloc (.cells #[.int .i64 p] 3)).drew) (blk_alloc H1.out _)
            refine wpAnyH_ready (rs := [5]) (by kernel_rfl) (by simp) ?_
            refine AllReadyH.cons rfl (fun K hK => ?_) AllReadyH.nil
            go_simp
            refine hK.out _ _ (by assumption) (fun hHeld3 => ?_)
            clear hK K
            refine wpAnyH_ready (rs := [8]) (by kernel_rfl) (by simp) ?_
            refine AllReadyH.cons rfl (fun K hK => ?_) AllReadyH.nil
            refine step_append_cells (W := W.drew) (wr.heap.size + 1) rfl _ _ 23 3 (.int .i64 0) 1 8 rfl Try.underlying23 (by rw [info3]) rfl (by decide) (by decide) vt _ _ [.int .i64 p] rfl rfl rfl (by simp [Value.oneCell']) H3T.out (Below.refl _ _) HI.out.2.2.2 HLN.out ?_
            intro v1 w1 ho1 hb1 hg1 hat1
            obtain ⟨A1, n1, c1, hv1⟩ : ∃ A n c, v1 = .slice A n c := by
              obtain ⟨g1, cp1, hv1⟩ := ownsRow_succ ho1
              exact ⟨_, _, _, hv1⟩
            subst hv1
            rw [← HVT.out] at hg1 hat1
            have HS := Aside0.mk (HI.out.step (by omega) (by omega) HBX.out H1.out HVS.out H3.out H4.out p t ht hp _ w1 ho1 hb1 hg1 hat1)
            have hga1 : w1.heap[wc.heap.size]? = some (.cells vs.toArray 23 (0, 0)) := (hb1.block _ (by omega)).trans H1.out
            have hg61 : w1.heap[wc.heap.size + 1]? = some (.cells #[.slice (some ⟨wc.heap.size, 0, none⟩) n n] 65 (0, 0)) := (hb1.block _ (by omega)).trans HI.out.1.box
            clear ho1 hb1 hg1 hat1
            refine hK.out _ _ (blk_cell hg61 0) (fun hHeld3 => ?_)
            simp only [Act.put, List.setIfInBounds_toArray, List.set_cons_zero, List.set_cons_succ]
            clear hK K
            refine wpAnyH_take (i := 9) (v := .pointer (some ⟨wc.heap.size, t, none⟩)) rfl (by kernel_rfl) (by kernel_rfl) (by kernel_rfl) (fun _ _ _ h => h) (Or.inl ⟨by rfl, fun w hSw => by (try dsimp only at hSw); go_simp⟩) (by assumption) ?_
            simp only [Act.put, List.setIfInBounds_toArray, List.set_cons_zero, List.set_cons_succ]
            have s2 := HARR.out hga1
            have s3 : w1.frozen? ⟨wc.heap.size, t, none⟩ = false := blk_frozen hga1 t
            refine wpAnyH_ready (rs := [10]) (by kernel_rfl) (by simp) ?_
            refine AllReadyH.cons rfl (fun K hK => ?_) AllReadyH.nil
            go_simp
            refine hK.out _ _ (blk_cell ((Below.heap_setCell w1 ⟨wc.heap.size, t, none⟩ _ (wc.heap.size + 1) (by show wc.heap.size + 1 ≠ wc.heap.size; omega)).trans hg61) 0) (fun hHeld4 => ?_)
            refine wpAnyH_done (by kernel_rfl) ?_ _
            exact ⟨(KeepsOthers.trans (KeepsOthers.drew W) HS.out.1).from _, KeepBox.t ⟨below_drew (Below.refl _ _), rfl⟩ HS.out.2.1, HS.out.2.2⟩
        case done =>
          rintro D ys W hD hys hi hK
          obtain ⟨wd, rfl⟩ : ∃ wd, wd = wc := ⟨wc, rfl⟩
          obtain ⟨we, rfl⟩ : ∃ we, we = wr := ⟨wr, rfl⟩
          have hAHd := hi.1
          rw [hys, ← hxs] at hAHd
          have hrows : AH W (wd.heap.size + 1) wd.heap.size (we.heap.size + 1) n (aheadB l0) := by unfold aheadB; rw [HN.out]; exact hAHd
          have hLP : LP w W A3 A4 A5 c3 c4 c5 n wd.heap.size (we.heap.size + 1) D ord (List.replicate n (-1)) pl (aheadB l0) := ⟨hi.2.1, hrows, hK, List.length_replicate, HKN.out, fun k hk => HBK.out _ k (.inr (.inl rfl)) hk⟩
          have HLP := Aside0.mk hLP
          have hinp : 0 < ord.length → 0 < n := fun h => by
            have h1 := HIN.out (ord[0]) (List.getElem_mem h)
            omega
          have HINP := Aside0.mk hinp
          have hol0 : ((ord.length : Int) ≤ 9223372036854775807) := by omega
          clear hi hys hK hAHd hrows hLP hinp
          dsimp only
          have hrunP := HRUN.out
          rw [← HPL.out] at hrunP
          have HRP := Aside0.mk hrunP
          clear HRUN hrunP
          gi_wp2
          go_upto_if 57 with (fail)
          go_cut [] from 55 to 59 (fun wx => LP w wx A3 A4 A5 c3 c4 c5 n wd.heap.size (we.heap.size + 1) D ord (if 0 < ord.length then (List.replicate n (-1)).set 0 0 else List.replicate n (-1)) pl (aheadB l0))
          case first =>
            by_cases hpos : 0 < ord.length
            · have hp1 : (0 : Int) < (ord.length : Int) := by omega
              obtain ⟨g, hA, hc, hf, hs⟩ := HLP.out.cover 0 (HINP.out hpos)
              subst hA
              have HS := Aside0.mk hs
              clear hs
              have hn1 : (0 : Int) < (n : Int) := by have := HINP.out hpos; omega
              go_wp2_with fail
              go_meet
              case rel => rw [if_pos hpos]; exact HS.out 0
            · have hp1 : ¬ (0 : Int) < (ord.length : Int) := by omega
              go_wp2_with fail
              go_meet
              case rel => rw [if_neg hpos]; exact HLP.out
          case rest =>
            obtain ⟨ov0, hov0⟩ : ∃ ov0, (if 0 < ord.length then (List.replicate n (-1)).set 0 0 else List.replicate n (-1)) = ov0 := ⟨_, rfl⟩
            rw [hov0] at hcut HRP
            have HC := Aside0.mk hcut
            clear hcut hov0 HLP
            go_wp2_with fail
            go_loopg [11] kk (fun kq v11 wz => ∃ (ch : Bool) (ov : List Int), v11 = .bool ch ∧ LP w wz A3 A4 A5 c3 c4 c5 n wd.heap.size (we.heap.size + 1) D ord ov pl (aheadB l0) ∧ Aside0 ((ch = true ∧ loopO kk pl (aheadB l0) (ord.drop 1) kq ov = some rr) ∨ (ch = false ∧ ov = rr)))
            case atStart => exact ⟨true, ov0, rfl, HC.out, ⟨.inl ⟨rfl, HRP.out⟩⟩⟩
            case round =>
              clear HRP HC
              obtain ⟨ch, ov, rfl, hLP, hA⟩ := hrel
              have HL := Aside0.mk hLP
              clear hLP
              cases ch with
              | false =>
                obtain rfl : ov = rr := by
                  rcases hA.out with ⟨h, _⟩ | ⟨_, h⟩
                  · cases h
                  · exact h
                clear hA
                by_cases hpos : 0 < ord.length
                · have hp1 : (0 : Int) < (ord.length : Int) := by omega
                  have hn1 : (0 : Int) < (n : Int) := by have := HINP.out hpos; omega
                  obtain ⟨g, hA4, _⟩ := HL.out.cover 0 (HINP.out hpos)
                  subst hA4
                  obtain ⟨hcj, hfj, hcov⟩ := HL.out.coverAt 0 (HINP.out hpos)
                  have HCV := Aside0.mk (hcov (-1))
                  clear hcov
                  go_wp2_with fail
                  refine ⟨by simp, .inl ⟨_, _, rfl, run_takeDeferred HCV.out.dd, ?_⟩⟩
                  have he := HCV.out.ends (by omega)
                  refine ⟨.slice (some ⟨g, 0, none⟩) n c4, ?_, _, rfl, ?_, he.2⟩
                  · simp [results, Try.f22, go_sem]
                  · rw [← HE.out, if_pos hpos]
                    exact he.1
                · have hp1 : ¬ (0 : Int) < (ord.length : Int) := by omega
                  go_wp2_with fail
                  refine ⟨by simp, .inl ⟨_, _, rfl, run_takeDeferred HL.out.dd, ?_⟩⟩
                  have he := HL.out.ends (by omega)
                  refine ⟨.slice A4 n c4, ?_, _, rfl, ?_, he.2⟩
                  · simp [results, Try.f22, go_sem]
                  · rw [← HE.out, if_neg hpos]
                    exact he.1
              | true =>
                have hB : loopO kk pl (aheadB l0) (ord.drop 1) gk ov = some rr := by
                  rcases hA.out with ⟨_, h⟩ | ⟨h, _⟩
                  · exact h
                  · cases h
                clear hA
                cases gk with
                | zero => cases hB
                | succ k1 =>
                  obtain ⟨⟨ov2, ch2⟩, hp, hr⟩ := Option.bind_eq_some_iff.1 hB
                  have HP := Aside0.mk hp
                  have HR := Aside0.mk hr
                  clear hp hr hB
                  by_cases hpos : 0 < ord.length
                  · have hp1 : (1 : Int) ≤ (ord.length : Int) := by omega
                    have hp2 : ¬ (ord.length : Int) < 1 := by omega
                    have hC3 := HL.out.C3
                    obtain ⟨A6, hsl, hrd, hcp⟩ := print_drop_of (P := Try.prog) (Value.int .i64) 0 23 3 .i64 Try.underlying23 (i := _) rfl rfl A3 c3 ord 1 (by omega) (by omega) hC3.2
                    have HRD := Aside0.mk hrd
                    clear hrd hC3 hcp
                    go_wp2_with fail
                    clear hsl hp1 hp2
                    have hdl : (ord.drop 1).length = ord.length - 1 := List.length_drop
                    have HDL := Aside0.mk hdl
                    clear hdl
                    go_loopw [11, 67] (fun v11 v67 wz => ∃ (i : Nat) (ov' : List Int) (ch : Bool), v11 = .bool ch ∧ v67 = .int .i64 i ∧ i ≤ ord.length - 1 ∧ LP w wz A3 A4 A5 c3 c4 c5 n wd.heap.size (we.heap.size + 1) D ord ov' pl (aheadB l0) ∧ Aside0 (passO kk pl (aheadB l0) ((ord.drop 1).drop i) ov' ch = some (ov2, ch2))) (fun _ v67 _ => ord.length - (intOf v67).toNat)
                    case atStart => exact ⟨0, ov, false, rfl, rfl, Nat.zero_le _, HL.out, ⟨HP.out⟩⟩
                    case round =>
                      clear HL HP
                      obtain ⟨i, ov', ch, rfl, rfl, hi, hLP, hPA⟩ := hrel
                      have hdl := HDL.out
                      by_cases hlt : i < ord.length - 1
                      · have hi1 : (i : Int) < ((ord.length - 1 : Nat) : Int) := by omega
                        obtain ⟨d, hdr, hps⟩ := passO_cons kk pl (aheadB l0) (ord.drop 1) i (by omega) ov' ch _ hPA.out
                        obtain ⟨ad, rfl, hcx⟩ := hLP.tail HRD.out i (by omega)
                        have hx := HIN.out (rd (ord.drop 1) (i : Int)) (by
                          refine List.mem_of_mem_drop (i := 1) ?_
                          unfold rd
                          rw [Int.toNat_natCast, List.getD_eq_getElem?_getD, List.getElem?_eq_getElem (by omega)]
                          exact List.getElem_mem _)
                        obtain ⟨j, hj⟩ := Int.eq_ofNat_of_zero_le hx.1
                        rw [hj] at hcx hdr hps
                        rw [Int.toNat_natCast] at hdr hps
                        have hjn : j < n := by omega
                        have hjn2 : (j : Int) < (n : Int) := by omega
                        obtain ⟨g, hA4, _⟩ := hLP.cover j hjn
                        subst hA4
                        have HL := Aside0.mk hLP
                        obtain ⟨At, ct, hct, hCt, hlt2⟩ := hLP.row j hjn
                        have hbx := hLP.box
                        obtain ⟨row, hrow⟩ : ∃ row, (aheadB l0).getD j [] = row := ⟨_, rfl⟩
                        rw [hrow] at hct hCt hlt2 hdr
                        have HCT := Aside0.mk hCt
                        have HDR := Aside0.mk hdr
                        have HPS := Aside0.mk hps
                        have hrm := Kd.C_max hCt
                        clear hPA hx hj hLP hCt hdr hps hrow hdl
                        go_wp2_with fail
                        obtain ⟨wf, rfl⟩ : ∃ wf, wf = wr := ⟨wr, rfl⟩
                        go_loopw [14, 76] (fun v14 v76 wz => ∃ (q : Nat) (d' : Int), v14 = .int .i64 d' ∧ v76 = .int .i64 q ∧ q ≤ row.length ∧ Aside0 (dRow kk ov' pl (row.drop q) d' = some d) ∧ Drawn0 wf wz) (fun _ v76 _ => row.length - (intOf v76).toNat)
                        case atStart => exact ⟨0, -1, rfl, rfl, Nat.zero_le _, ⟨HDR.out⟩, Drawn0.refl _⟩
                        case round =>
                          clear HDR
                          obtain ⟨q, d', rfl, rfl, hq, hDA, ⟨m, rfl⟩⟩ := hrel
                          by_cases hlt8 : q < row.length
                          · have hq1 : (q : Int) < (row.length : Int) := by omega
                            obtain ⟨d1, hs, hds⟩ := dRow_cons kk ov' pl row q hlt8 d' d hDA.out
                            obtain ⟨ad2, hAt, hcp⟩ := Kd.at_int HCT.out (q : Int) (by omega) (by omega)
                            subst hAt
                            rw [Int.toNat_natCast] at hcp
                            have HDS := Aside0.mk hds
                            clear hds hDA
                            unfold dStep at hs
                            by_cases hg : 0 ≤ rd row (q : Int) ∧ rd row (q : Int) < (ov'.length : Int)
                            · rw [if_pos hg] at hs
                              obtain ⟨pn, hpn⟩ := Int.eq_ofNat_of_zero_le hg.1
                              rw [hpn] at hs hcp hg
                              have hlo := HL.out.lo
                              have hpl : pn < n := by omega
                              have hpl2 : (pn : Int) < (n : Int) := by omega
                              obtain ⟨hcv, _, _⟩ := HL.out.coverAt pn hpl
                              clear hpn hg hlo
                              by_cases h1 : rd ov' (pn : Int) = -1
                              · rw [if_pos h1] at hs
                                obtain rfl := Option.some.inj hs
                                have hb1 : (rd ov' (pn : Int) == -1) = true := beq_iff_eq.2 h1
                                clear h1 hs
                                go_wp2_with fail
                                go_roundw
                                case rel => exact ⟨q + 1, d', rfl, by go_num, by omega, ⟨HDS.out⟩, (Drawn0.refl _).step m⟩
                                case measure => simp only [intOf]; omega
                              · rw [if_neg h1] at hs
                                have hb1 : (rd ov' (pn : Int) == -1) = false := beq_eq_false_iff_ne.2 h1
                                clear h1
                                by_cases h2 : d' = -1
                                · rw [if_pos h2] at hs
                                  obtain rfl := Option.some.inj hs
                                  have hb2 : (d' == -1) = true := beq_iff_eq.2 h2
                                  clear h2 hs
                                  go_wp2_with fail
                                  go_roundw
                                  case rel => exact ⟨q + 1, (pn : Int), rfl, by go_num, by omega, ⟨HDS.out⟩, (Drawn0.refl _).step m⟩
                                  case measure => simp only [intOf]; omega
                                · rw [if_neg h2] at hs
                                  have hb2 : (d' == -1) = false := beq_eq_false_iff_ne.2 h2
                                  have hmt := flow_meet.calls kk (some ⟨g, 0, none⟩) c4 ov' A5 c5 pl d' pn d1 (wf.drewN m) (by rw [HL.out.lo]; exact (HL.out.drewN m).C4.1) (by rw [HL.out.lo]; exact HL.out.C4.2) (by rw [HL.out.lp]; exact (HL.out.drewN m).C5.1) (by rw [HL.out.lp]; exact HL.out.C5.2) hs
                                  rw [HL.out.lo, HL.out.lp] at hmt
                                  have HMT := Aside0.mk hmt
                                  clear h2 hs hmt
                                  go_wp2_with fail
                                  refine HMT.out.mono ?_
                                  rintro e w' ⟨rfl, ⟨m2, rfl⟩⟩
                                  go_wp2_with fail
                                  go_roundw
                                  case rel => exact ⟨q + 1, d1, rfl, by go_num, by omega, ⟨HDS.out⟩, (Drawn0.refl _).step (m + m2)⟩
                                  case measure => simp only [intOf]; omega
                            · rw [if_neg hg] at hs
                              cases hs
                          · have hq1 : ¬ (q : Int) < (row.length : Int) := by omega
                            obtain rfl : d' = d := by
                              have h := hDA.out
                              rw [List.drop_eq_nil_of_le (by omega)] at h
                              exact Option.some.inj h
                            clear hDA
                            obtain ⟨hcj, hfj, hcov⟩ := HL.out.coverAt j hjn
                            have HCV := Aside0.mk (fun x => ((HL.out.drewN m).coverAt j hjn).2.2 x)
                            clear hcov
                            cases ch with
                            | true =>
                              go_wp2_with fail
                              go_roundw
                              case rel => exact ⟨i + 1, ov'.set j d', true, rfl, by go_num, by omega, HCV.out d', ⟨HPS.out⟩⟩
                              case measure => simp only [intOf]; omega
                            | false =>
                              have hps := HPS.out
                              by_cases he : rd ov' (j : Int) = d'
                              · have hb1 : (rd ov' (j : Int) == d') = true := beq_iff_eq.2 he
                                have hb2 : (rd ov' (j : Int) != d') = false := bne_eq_false_iff_eq.2 he
                                rw [hb2] at hps
                                have HPS2 := Aside0.mk hps
                                clear hps he HPS
                                go_wp2_with fail
                                go_roundw
                                case rel => exact ⟨i + 1, ov'.set j d', false, rfl, by go_num, by omega, HCV.out d', ⟨HPS2.out⟩⟩
                                case measure => simp only [intOf]; omega
                              · have hb1 : (rd ov' (j : Int) == d') = false := beq_eq_false_iff_ne.2 he
                                have hb2 : (rd ov' (j : Int) != d') = true := bne_iff_ne.2 he
                                rw [hb2] at hps
                                have HPS2 := Aside0.mk hps
                                clear hps he HPS
                                go_wp2_with fail
                                go_roundw
                                case rel => exact ⟨i + 1, ov'.set j d', true, rfl, by go_num, by omega, HCV.out d', ⟨HPS2.out⟩⟩
                                case measure => simp only [intOf]; omega
                      · have hi1 : ¬ (i : Int) < ((ord.length - 1 : Nat) : Int) := by omega
                        have hq := hPA.out
                        rw [List.drop_eq_nil_of_le (by omega), passO] at hq
                        simp only [Option.some.injEq, Prod.mk.injEq] at hq
                        obtain ⟨rfl, rfl⟩ := hq
                        have HL := Aside0.mk hLP
                        clear hPA hLP hdl
                        go_wp2_with fail
                        go_roundg k1
                        case measure => omega
                        case rel => exact ⟨ch, ov', rfl, HL.out, ⟨by cases ch with | true => exact .inl ⟨rfl, by simpa using HR.out⟩ | false => exact .inr ⟨rfl, by simpa using HR.out⟩⟩⟩
                  · have hl0 : ord.length = 0 := by omega
                    have he0 : ord = [] := List.eq_nil_of_length_eq_zero hl0
                    have hC3 := HL.out.C3
                    obtain ⟨A6, hsl, hrd, hcp⟩ := print_drop_of (P := Try.prog) (Value.int .i64) 0 23 3 .i64 Try.underlying23 (i := _) rfl rfl A3 c3 ord 0 (by omega) (by omega) hC3.2
                    clear hrd hC3 hcp
                    subst he0
                    simp only [List.length_nil, Int.toNat_zero, List.drop_nil, Nat.sub_zero] at hsl
                    have hq := HP.out
                    simp only [List.drop_nil, passO, Option.some.injEq, Prod.mk.injEq] at hq
                    obtain ⟨rfl, rfl⟩ := hq
                    clear HP hpos hl0
                    go_wp2_with fail
                    obtain ⟨wf, rfl⟩ : ∃ wf, wf = wr := ⟨wr, rfl⟩
                    go_loopw [11, 67] (fun v11 v67 wz => v11 = .bool false ∧ v67 = .int .i64 0 ∧ wz = wf) (fun _ _ _ => 0)
                    case atStart => exact ⟨rfl, rfl, rfl⟩
                    case round =>
                      obtain ⟨rfl, rfl, rfl⟩ := hrel
                      go_wp2_with fail
                      go_roundg k1
                      case measure => omega
                      case rel => exact ⟨false, ov, rfl, HL.out, ⟨.inr ⟨rfl, by simpa using HR.out⟩⟩⟩
        case stop =>
          rintro D c pre W _ _ h _
          exact h.elim
theorem dStep_mono (k : Nat) (over pl : List Int) (d p r : Int) (h : dStep k over pl d p = some r) : dStep (k + 1) over pl d p = some r := by
  unfold dStep at h ⊢
  split at h
  · rename_i hg
    rw [if_pos hg]
    split at h
    · rename_i h1
      rw [if_pos h1]
      exact h
    · rename_i h1
      rw [if_neg h1]
      split at h
      · rename_i h2
        rw [if_pos h2]
        exact h
      · rename_i h2
        rw [if_neg h2]
        exact flow_meet.mono _ _ _ _ k _ h
  · cases h
theorem dRow_mono (k : Nat) (over pl : List Int) : ∀ (l : List Int) (d r : Int), dRow k over pl l d = some r → dRow (k + 1) over pl l d = some r
  | [], _, _, h => h
  | p :: l, d, r, h => by
    unfold dRow at h ⊢
    obtain ⟨d1, h1, h2⟩ := Option.bind_eq_some_iff.1 h
    exact Option.bind_eq_some_iff.2 ⟨d1, dStep_mono k over pl d p d1 h1, dRow_mono k over pl l d1 r h2⟩
theorem passO_mono (k : Nat) (pl : List Int) (rows : List (List Int)) : ∀ (l over : List Int) (ch : Bool) (r : List Int × Bool), passO k pl rows l over ch = some r → passO (k + 1) pl rows l over ch = some r
  | [], _, _, _, h => h
  | x :: l, over, ch, r, h => by
    unfold passO at h ⊢
    obtain ⟨d1, h1, h2⟩ := Option.bind_eq_some_iff.1 h
    exact Option.bind_eq_some_iff.2 ⟨d1, dRow_mono k over pl _ _ d1 h1, passO_mono k pl rows l _ _ r h2⟩
theorem loopO_mono (k : Nat) (pl : List Int) (rows : List (List Int)) (o1 : List Int) : ∀ (f : Nat) (over r : List Int), loopO k pl rows o1 f over = some r → loopO (k + 1) pl rows o1 (f + 1) over = some r
  | 0, _, _, h => by cases h
  | f + 1, over, r, h => by
    rw [loopO] at h ⊢
    obtain ⟨d1, h1, h2⟩ := Option.bind_eq_some_iff.1 h
    refine Option.bind_eq_some_iff.2 ⟨d1, passO_mono k pl rows o1 over false d1 h1, ?_⟩
    split at h2
    · rename_i hc
      rw [if_pos hc]
      exact loopO_mono k pl rows o1 f d1.1 r h2
    · rename_i hc
      rw [if_neg hc]
      exact h2
def flow_Over.f (k : Nat) (l0 : List S30) : Option (List Int) := overF k l0
theorem flow_Over.mono : ∀ a0 k, LeO (flow_Over.f k a0) (flow_Over.f (k + 1) a0) := by
  intro l0 k r h
  unfold flow_Over.f overF at h ⊢
  split at h
  · rename_i hg
    rw [if_pos hg]
    obtain ⟨o, h1, h2⟩ := Option.map_eq_some_iff.1 h
    exact Option.map_eq_some_iff.2 ⟨o, loopO_mono k _ _ _ k _ o h1, h2⟩
  · cases h
theorem flow_Over.calls (k : Nat) (A0 : Option Addr) (c0 : Nat) (l0 : List S30) (r : List Int) (w : World) (hr0 : Kd.C k30 w A0 l0.length l0) (hc0 : l0.length ≤ c0) (h : flow_Over.f k l0 = some r) :
    Calls Try.prog 22 #[.slice A0 l0.length c0] w fun e w' => ∃ v0_ : Value, e = .returned v0_ ∧ Kd.R (Kd.int .i64) 3 w' w.heap.size (fun _ => True) v0_ r ∧ Below w.heap.size w w' := by
  unfold flow_Over.f overF at h
  split at h
  · rename_i hg
    obtain ⟨o, h1, rfl⟩ := Option.map_eq_some_iff.1 h
    exact over_walk A0 c0 l0 l0.length rfl w hr0 hc0 hg.1 hg.2 k o h1
  · cases h

end Go.Proofs.Ytpfbfnbffglbkaa.P
