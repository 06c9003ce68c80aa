/- Ytdlkkjfbbeffbaa: what Go functions come to, and that they do: walks, printed by a program of this session or typed by hand; no statement of the seat stands here. -/
import Derived.Test.YtdlkkjfbbeffbaaP0
import Derived.Test.YtdlkkjfbbeffbaaPF16
import Derived.Test.YtdlkkjfbbeffbaaCodecPl6
import Derived.Test.YtdlkkjfbbeffbaaCodecT
import Derived.Test.YtdlkkjfbbeffbaaPF16
namespace Go.Proofs.Ytdlkkjfbbeffbaa.P
open Go.RowKit Go.Proofs.YtdlkkjfbbeffbaaW.PrintWords Go.Proofs.YtdlkkjfbbeffbaaW.PrintLast Go.Proofs.YtdlkkjfbbeffbaaW.PrintMore
attribute [local go_sem] max2_int min2_int max_two min_two max_three min_three max_four min_four   -- for this text's walks alone
set_option linter.unusedVariables false
set_option linter.unusedSimpArgs false


/-! ### pianolalaw01_CodecNests: function 3 -/
-- IMPORT Derived.Test.YtdlkkjfbbeffbaaCodecT
-- IMPORT Derived.Test.YtdlkkjfbbeffbaaCodecPl6
-- IMPORT Derived.Test.YtdlkkjfbbeffbaaPF16
/-- What the law asks of its input. -/
def okNests (l0 : List (List Int)) : Bool := l0.all okBytes
def nest (l : List (List Int)) : List (List Int) := (l.take 100).map fun row => row.take 100
theorem okNests_row {l : List (List Int)} (h : okNests l = true) (k : Nat) : okL (l.getD k []) := by
  unfold okNests at h
  rw [List.all_eq_true] at h
  rw [List.getD_eq_getElem?_getD]
  by_cases hk : k < l.length
  · rw [List.getElem?_eq_getElem hk]
    exact okBytes_is (h _ (List.getElem_mem hk))
  · rw [List.getElem?_eq_none (by omega)]
    exact ⟨by intro y hy; simp at hy, by simp⟩
theorem nest_ok {l : List (List Int)} (h : okNests l = true) : ∀ x ∈ nest l, okRow x := by
  intro x hx
  unfold nest at hx
  obtain ⟨row, hr, rfl⟩ := List.mem_map.mp hx
  unfold okNests at h
  rw [List.all_eq_true] at h
  have h1 := okBytes_is (h row (List.mem_of_mem_take hr))
  exact ⟨by rw [List.length_take]; omega, fun y hy => h1.1 y (List.mem_of_mem_take hy)⟩
theorem nest_length (l : List (List Int)) : (nest l).length = min 100 l.length := by unfold nest; rw [List.length_map, List.length_take]
theorem nest_step (l : List (List Int)) (k : Nat) (h : k < (nest l).length) : (nest l).take (k + 1) = (nest l).take k ++ [(l.getD k []).take 100] := by
  have hl := nest_length l
  have e : (nest l)[k]? = some ((l.getD k []).take 100) := by
    unfold nest
    rw [List.getElem?_map, List.getElem?_take, if_pos (by omega), List.getD_eq_getElem?_getD, List.getElem?_eq_getElem (by omega)]
    rfl
  rw [List.take_add_one, e]
  rfl
theorem row_step (row : List Int) (j : Nat) (h : j < row.length) (h1 : j < 100) : (row.take 100).take (j + 1) = (row.take 100).take j ++ [rd row (j : Int)] := by
  rw [List.take_add_one, List.getElem?_eq_getElem (by rw [List.length_take]; omega), List.getElem_take]
  unfold rd
  rw [Int.toNat_natCast, List.getD_eq_getElem?_getD, List.getElem?_eq_getElem h]
  rfl
theorem at_irows {w : World} {A : Option Addr} {n : Nat} {xs : List (List Int)} (h : Kd.C (Kd.slice 3 (Kd.int .i64)) w A n xs) (k : Nat) (hk : k < n) : ∃ ad A0 c0, A = some ad ∧ w.cell? (ad.add k) = some (.slice A0 (xs.getD k []).length c0) ∧ (xs.getD k []).length ≤ c0 ∧ Kd.C (Kd.int .i64) w A0 (xs.getD k []).length (xs.getD k []) := by
  obtain ⟨ad, cc, hA, hcl, hK, hcc⟩ := Kd.C_get h [] (k : Int) (by omega) (by omega)
  rw [Int.toNat_natCast] at hK hcc
  obtain ⟨A0, c0, hce, hlc, hC⟩ := hK
  subst hce
  have h0 := hcc 0 _ rfl
  rw [show (Kd.slice 3 (Kd.int .i64)).sz = 1 from rfl, Nat.mul_one, Nat.add_zero] at h0
  exact ⟨ad, A0, c0, hA, h0, hlc, hC⟩
theorem FK_row {W : World} {base : Nat} {v : Value} {ys : List Int} (h : Kd.R (Kd.int .i64) 3 W base (fun _ => True) v ys) : Kd.FK (Kd.slice 3 (Kd.int .i64)) W (fun k => base ≤ k) ys [v] :=
  Kd.FK_of_M (d := (Kd.slice 3 (Kd.int .i64))) (base := base) (ok := fun k => base ≤ k) ⟨v, rfl, Kd.R_mono (Kd.R_bound h) (fun _ hk => hk.2.1)⟩
def pianolalaw01_CodecNests.f (l0 : List (List Int)) : Option Bool := if okNests l0 = true then some true else none
set_option maxRecDepth 100000 in
set_option maxHeartbeats 16000000 in
theorem pianolalaw01_CodecNests.calls (A0 : Option Addr) (c0 : Nat) (l0 : List (List Int)) (r : Bool) (w : World) (hr0 : Kd.C (Kd.slice 5 (Kd.int .u8)) w A0 l0.length l0) (hc0 : l0.length ≤ c0) (h : pianolalaw01_CodecNests.f l0 = some r) :
    Calls Try.prog 3 #[.slice A0 l0.length c0] w fun e w' => e = .returned (.bool r) ∧ Below w.heap.size w w' := by
  have hok : okNests l0 = true := by
    unfold pianolalaw01_CodecNests.f at h
    split at h
    · assumption
    · cases h
  obtain rfl : r = true := by
    unfold pianolalaw01_CodecNests.f at h
    rw [if_pos hok] at h
    exact (Option.some.inj h).symm
  have HOK := Aside0.mk hok
  have HR0 := Aside0.mk hr0
  have hmx := Kd.C_max hr0
  clear h hok hr0
  obtain ⟨ns, hns⟩ : ∃ ns, ns = nest l0 := ⟨_, rfl⟩
  have HNS := Aside0.mk hns
  have HNO := Aside0.mk (show ∀ x ∈ ns, okRow x by rw [hns]; exact nest_ok HOK.out)
  have HNL := Aside0.mk (show ns.length = min 100 l0.length by rw [hns]; exact nest_length l0)
  clear hns
  go_enter Try.func3, Try.ntmps3
  go_wp2_with fail
  refine (byte_run w).mono ?_
  rintro r wa ⟨f1, f2, rfl, hf, hb⟩
  have HFa := Aside0.mk hf
  have HBa := Aside0.mk hb
  clear hf hb
  simp only [numV]
  go_wp2_with fail
  refine (many_I _ _ _ _ rfl rfl wa).mono ?_
  rintro r wb ⟨dc, df, d1, d2, rfl, hM, hb⟩
  have HDb := Aside0.mk (show ManyF wb dc df d1 d2 37 (numV f1 f2) from hM)
  have HFb := Aside0.mk (HFa.out.below hb)
  have HBb := Aside0.mk (below_step HBa.out hb)
  clear hM hb HFa HBa
  simp only [manyV]
  go_wp2_with fail
  refine (many_J _ _ _ _ rfl rfl wb).mono ?_
  rintro r wd ⟨bc, bf, k1, k2, rfl, hM, hb⟩
  have hbl : Below wd.heap.size wd (wd.alloc (.cells (manyJV bc bf) 26)) := below_alloc (Below.refl _ _) _
  have HMe := Aside0.mk ((show ManyF wd bc bf k1 k2 32 (manyV dc df) from hM).below hbl)
  have HDe := Aside0.mk ((HDb.out.below hb).below hbl)
  have HFe := Aside0.mk ((HFb.out.below hb).below hbl)
  have HBe := Aside0.mk (below_step (below_step HBb.out hb) hbl)
  have HNe := Aside0.mk (blk_new wd (.cells (manyJV bc bf) 26))
  obtain ⟨q, hq⟩ : ∃ q, q = wd.heap.size := ⟨_, rfl⟩
  obtain ⟨we, hwe⟩ : ∃ we, we = wd.alloc (.cells (manyJV bc bf) 26) := ⟨_, rfl⟩
  rw [← hwe] at HMe HDe HFe HBe HNe
  rw [← hq] at HNe
  have HWe := Aside0.mk (And.intro hq hwe)
  clear hM hb hbl hq hwe HDb HFb HBb
  simp only [manyJV]
  go_upto_region 2 with (fail)
  rw [show wd.alloc (.cells #[(.func (.func 54) #[] #[.pointer (some ⟨bc, 0, none⟩), .pointer (some ⟨bf, 0, none⟩)]), (.func (.func 55) #[] #[.pointer (some ⟨bc, 0, none⟩), .pointer (some ⟨bf, 0, none⟩)])] 26) = we from HWe.out.2.symm]
  try rw [← HWe.out.1]
  go_wp2_with fail
  go_loopw [4, 5] (fun v4 v5 wr => ∃ k : Nat, v5 = .int .i64 k ∧ k ≤ ns.length ∧ Kd.N (Kd.slice 3 (Kd.int .i64)) 28 wr we.heap.size (fun _ => True) v4 (ns.take k) ∧ Below we.heap.size we wr) (fun _ v5 _ => ns.length - (intOf v5).toNat)
  case atStart => exact ⟨0, rfl, Nat.zero_le _, Kd.N_nil _ _ _ _ _, Below.refl _ _⟩
  case round =>
    obtain ⟨k, rfl, hk, hN, hb⟩ := hrel
    obtain ⟨A4, c4, hv4⟩ := Kd.N_slice hN
    have hlt4 : (ns.take k).length = k := by rw [List.length_take]; omega
    rw [hlt4] at hv4
    subst hv4
    have HN := Aside0.mk hN
    have HB := Aside0.mk hb
    have HL4 := Aside0.mk hlt4
    clear hN hb hlt4
    by_cases hlt : k < ns.length
    · as_aux_lemma =>
        have hk0 : k < l0.length := by have := HNL.out; omega
        have hk1 : k < 100 := by have := HNL.out; omega
        obtain ⟨ae, Ab, cb, hA0, hd0', hlc, hCb⟩ := at_blobs HR0.out k hk0
        subst hA0
        have hst := nest_step l0 k (by rw [← HNS.out]; exact hlt)
        rw [← HNS.out] at hst
        have hob := okNests_row HOK.out k
        obtain ⟨row, hrow⟩ : ∃ row, row = l0.getD k [] := ⟨_, rfl⟩
        rw [← hrow] at hd0' hlc hCb hst hob
        have HST := Aside0.mk hst
        have HD0 := Aside0.mk hd0'
        have HCb := Aside0.mk hCb
        have HOB := Aside0.mk hob
        obtain ⟨wo, hwo⟩ : ∃ wo, wo = wr := ⟨_, rfl⟩
        have HBo := Aside0.mk (show Below we.heap.size we wo by rw [hwo]; exact HB.out)
        have HNo := Aside0.mk (show Kd.N (Kd.slice 3 (Kd.int .i64)) 28 wo we.heap.size (fun _ => True) (.slice A4 k c4) (ns.take k) by rw [hwo]; exact HN.out)
        rw [← hwo]
        clear hst hd0' hCb hob hrow HN HB hlc hwo
        have hze := HBo.out.size
        go_wp2_with fail
        rw [show decide ((k : Int) < 100) = true from decide_eq_true (by omega)]
        go_loopw [6, 7] (fun v6 v7 wr => ∃ j : Nat, v7 = .int .i64 j ∧ j ≤ (row.take 100).length ∧ Kd.R (Kd.int .i64) 3 wr wo.heap.size (fun _ => True) v6 ((row.take 100).take j) ∧ Below wo.heap.size wo wr) (fun _ v7 _ => (row.take 100).length - (intOf v7).toNat)
        case atStart => exact ⟨0, rfl, Nat.zero_le _, Kd.R_nil _ _ _ _ _, Below.refl _ _⟩
        case round =>
          obtain ⟨j, rfl, hj, hR, hb⟩ := hrel
          obtain ⟨A6, c6, hv6⟩ := Kd.R_slice hR
          have hlt6 : ((row.take 100).take j).length = j := by rw [List.length_take]; omega
          rw [hlt6] at hv6
          subst hv6
          have hjr : (row.take 100).length = min 100 row.length := List.length_take
          have HJR := Aside0.mk hjr
          have HR := Aside0.mk hR
          have HB := Aside0.mk hb
          have HL6 := Aside0.mk hlt6
          have hbw := HBe.out.trans ((HBo.out.trans (hb.mono hze)).mono HBe.out.size)
          have c1' := pw_cell_below hbw HD0.out
          have hz := hb.size
          clear hR hb hlt6 hjr
          by_cases hlt2 : j < (row.take 100).length
          · have hj0 : j < row.length := by have := HJR.out; omega
            have hj1 : j < 100 := by have := HJR.out; omega
            obtain ⟨ad, hA1, hc0'⟩ := Kd.at_int HCb.out (j : Int) (by omega) (by omega)
            rw [Int.toNat_natCast] at hc0'
            subst hA1
            have c2' := pw_cell_below hbw hc0'
            have hst := row_step row j hj0 hj1
            obtain ⟨y, hy⟩ : ∃ y, y = rd row (j : Int) := ⟨_, rfl⟩
            have hyr : 0 ≤ y ∧ y < 256 := by
              rw [hy]
              unfold rd
              rw [Int.toNat_natCast, List.getD_eq_getElem?_getD, List.getElem?_eq_getElem hj0]
              exact HOB.out.1 _ (List.getElem_mem hj0)
            rw [← hy] at hst c2'
            have HST2 := Aside0.mk hst
            obtain ⟨hy0, hy1⟩ := hyr
            clear hst hc0' hy hbw
            go_wp2_with (at_builtin; go_loud (refine Kd.R_append (Kd.int .i64) (w0 := wo) wo.heap.size rfl (.tmp 44) (.tmp 53) 28 3 (.int .i64 0) 8 rfl Try.underlying28 (by kernel_rfl) rfl (by decide) (by decide) (.slice A6 j c6) ((row.take 100).take j) y [.int .i64 y] (fun _ => True) (fun _ => False) rfl rfl rfl (fun _ hk => hk.elim) (fun _ _ => trivial) HR.out HB.out hz (by rw [HL6.out]; omega) ?_; intro v1 w1 ho hb1 hg hat; have HX := Aside0.mk (And.intro ho hb1); clear ho hb1 hg hat))
            go_roundw
            case rel => exact ⟨j + 1, by go_num, by omega, by rw [HST2.out]; exact HX.out.1, HX.out.2⟩
            case measure => simp [intOf]; omega
          · have hjr2 : (row.take 100).take j = row.take 100 := List.take_of_length_le (by omega)
            have hRR : Kd.R (Kd.int .i64) 3 wr wo.heap.size (fun _ => True) (.slice A6 j c6) (row.take 100) := by have h := HR.out; rw [hjr2] at h; exact h
            have HFK := Aside0.mk (FK_row hRR)
            have HNr := Aside0.mk (Kd.N_below HNo.out HB.out)
            have HLT := Aside0.mk (show ∀ b, (Value.slice A4 k c4).ownBlock = some b → b < wo.heap.size from Kd.N_lt HNo.out)
            have HBr := Aside0.mk (HBo.out.trans (HB.out.mono hze))
            have hzr : we.heap.size ≤ wr.heap.size := by omega
            have hex : row.length ≤ j ∨ 100 ≤ j := by have := HJR.out; omega
            clear hjr2 hRR hbw HR HJR
            rcases hex with hex | hex
            · go_wp2_with (at_builtin; go_loud (refine Kd.N_append (Kd.slice 3 (Kd.int .i64)) (w0 := we) we.heap.size rfl (.tmp 55) (.tmp 57) 39 28 (.slice none 0 0) 24 rfl Try.underlying39 (by kernel_rfl) rfl (by decide) (by decide) (.slice A4 k c4) (ns.take k) (row.take 100) [.slice A6 j c6] (fun _ => True) (fun b => wo.heap.size ≤ b) rfl rfl HFK.out (fun b hb => ⟨trivial, fun he => by have := HLT.out b he.symm; omega⟩) (fun _ _ => trivial) HNr.out HBr.out hzr (by rw [HL4.out]; omega) ?_; intro v1 w1 ho hb1 hg hat; have HX := Aside0.mk (And.intro ho hb1); clear ho hb1 hg hat))
              go_roundw
              case rel => exact ⟨k + 1, by go_num, by omega, by rw [HST.out]; exact HX.out.1, HX.out.2⟩
              case measure => simp [intOf]; omega
            · by_cases hex2 : j < row.length
              · go_wp2_with (at_builtin; go_loud (refine Kd.N_append (Kd.slice 3 (Kd.int .i64)) (w0 := we) we.heap.size rfl (.tmp 55) (.tmp 57) 39 28 (.slice none 0 0) 24 rfl Try.underlying39 (by kernel_rfl) rfl (by decide) (by decide) (.slice A4 k c4) (ns.take k) (row.take 100) [.slice A6 j c6] (fun _ => True) (fun b => wo.heap.size ≤ b) rfl rfl HFK.out (fun b hb => ⟨trivial, fun he => by have := HLT.out b he.symm; omega⟩) (fun _ _ => trivial) HNr.out HBr.out hzr (by rw [HL4.out]; omega) ?_; intro v1 w1 ho hb1 hg hat; have HX := Aside0.mk (And.intro ho hb1); clear ho hb1 hg hat))
                go_roundw
                case rel => exact ⟨k + 1, by go_num, by omega, by rw [HST.out]; exact HX.out.1, HX.out.2⟩
                case measure => simp [intOf]; omega
              · go_wp2_with (at_builtin; go_loud (refine Kd.N_append (Kd.slice 3 (Kd.int .i64)) (w0 := we) we.heap.size rfl (.tmp 55) (.tmp 57) 39 28 (.slice none 0 0) 24 rfl Try.underlying39 (by kernel_rfl) rfl (by decide) (by decide) (.slice A4 k c4) (ns.take k) (row.take 100) [.slice A6 j c6] (fun _ => True) (fun b => wo.heap.size ≤ b) rfl rfl HFK.out (fun b hb => ⟨trivial, fun he => by have := HLT.out b he.symm; omega⟩) (fun _ _ => trivial) HNr.out HBr.out hzr (by rw [HL4.out]; omega) ?_; intro v1 w1 ho hb1 hg hat; have HX := Aside0.mk (And.intro ho hb1); clear ho hb1 hg hat))
                go_roundw
                case rel => exact ⟨k + 1, by go_num, by omega, by rw [HST.out]; exact HX.out.1, HX.out.2⟩
                case measure => simp [intOf]; omega
    · as_aux_lemma =>
        have hkn : k = ns.length := by omega
        have HCn := Aside0.mk (show Kd.C (Kd.slice 3 (Kd.int .i64)) wr A4 k ns by have h := HN.out; rw [hkn, List.take_length] at h; have h2 := Kd.N_reads' h; rw [← h2.1, ← hkn] at h2; exact h2.2.2)
        have HKN := Aside0.mk hkn
        have hnw := blk_below HNe.out HB.out
        have qa : wr.cell? ⟨q, 0, none⟩ = some (.func (.func 54) #[] #[.pointer (some ⟨bc, 0, none⟩), .pointer (some ⟨bf, 0, none⟩)]) := blk_cell hnw 0
        have qb : wr.cell? ⟨q, 1, none⟩ = some (.func (.func 55) #[] #[.pointer (some ⟨bc, 0, none⟩), .pointer (some ⟨bf, 0, none⟩)]) := blk_cell hnw 1
        have HMr := Aside0.mk (HMe.out.below HB.out)
        have HDr := Aside0.mk (HDe.out.below HB.out)
        have HFr := Aside0.mk (HFe.out.below HB.out)
        have HBr := Aside0.mk (HBe.out.trans (HB.out.mono HBe.out.size))
        have HNr := Aside0.mk hnw
        have hk100 : k ≤ 100 := by have := HNL.out; omega
        have hex : l0.length ≤ k ∨ 100 ≤ k := by have := HNL.out; omega
        obtain ⟨cs, hcs⟩ : ∃ cs, cs = codeN ns := ⟨_, rfl⟩
        have hcl := codeN_length ns HNO.out (by omega)
        have HER := Aside0.mk (encR_rows ns HNO.out (by omega))
        have HDR := Aside0.mk (decR_rows ns HNO.out (by omega))
        have HCO := Aside0.mk (show okL cs by rw [hcs]; exact ⟨codeN_ok ns, by omega⟩)
        rw [← hcs] at hcl HER HDR
        have HCS := Aside0.mk hcs
        obtain ⟨hcl2, hcl3⟩ := hcl
        clear hcs hkn hnw hlt hk HN HB HMe HDe HFe HNe HBe
        rcases Nat.lt_or_ge k l0.length with hgk | hgk
        · have hge : 100 ≤ k := by omega
          clear hex
          as_aux_lemma =>
            go_wp2_with fail
            have h1 := enc_LL wr bc bf k1 k2 dc df d1 d2 f1 f2 1 255 A4 c4 ns HMr.out HDr.out HFr.out (by rw [← HKN.out]; exact HCn.out)
            rw [HER.out, ← HKN.out] at h1
            refine h1.mono ?_
            rintro r wf ⟨A8, c8, rfl, hC, hl, hb⟩
            have HC8 := Aside0.mk hC
            have HL8 := Aside0.mk hl
            have HMf := Aside0.mk (HMr.out.below hb)
            have HDf := Aside0.mk (HDr.out.below hb)
            have HFf := Aside0.mk (HFr.out.below hb)
            have HNf := Aside0.mk (blk_below HNr.out hb)
            have HCf := Aside0.mk (Kd.C_below HCn.out hb)
            have HBf := Aside0.mk (below_step HBr.out hb)
            clear h1 hC hl hb qa qb HMr HDr HFr HNr HCn HBr
            dsimp only
            go_wp2_with fail
            refine (pianolalaw01_lives.calls true _ rfl).mono ?_
            rintro r wg ⟨rfl, hb⟩
            have HMg := Aside0.mk (HMf.out.below hb)
            have HDg := Aside0.mk (HDf.out.below hb)
            have HFg := Aside0.mk (HFf.out.below hb)
            have hng := blk_below HNf.out hb
            have qa : wg.cell? ⟨q, 0, none⟩ = some (.func (.func 54) #[] #[.pointer (some ⟨bc, 0, none⟩), .pointer (some ⟨bf, 0, none⟩)]) := blk_cell hng 0
            have qb : wg.cell? ⟨q, 1, none⟩ = some (.func (.func 55) #[] #[.pointer (some ⟨bc, 0, none⟩), .pointer (some ⟨bf, 0, none⟩)]) := blk_cell hng 1
            have HCg := Aside0.mk (Kd.C_below HCf.out hb)
            have HC9 := Aside0.mk (Kd.C_below HC8.out hb)
            have HBg := Aside0.mk (below_step HBf.out hb)
            clear hb hng HMf HDf HFf HNf HCf HC8 HBf
            go_wp2_with fail
            have h1 := dec_LL wg bc bf k1 k2 dc df d1 d2 f1 f2 1 255 HMg.out HDg.out HFg.out A8 c8 cs HC9.out HL8.out HCO.out
            rw [HDR.out] at h1
            refine h1.mono ?_
            rintro r wh ⟨vx, rfl, hRx, hb⟩
            obtain ⟨Ax, cx, hvx, _, hCx⟩ := Kd.R_reads hRx
            subst hvx
            rw [← HKN.out] at hCx ⊢
            have HX := Aside0.mk hCx
            have HY := Aside0.mk (Kd.C_below HCg.out hb)
            have HC0 := Aside0.mk (Kd.C_below HC9.out hb)
            have HBh := Aside0.mk (below_step HBg.out hb)
            clear h1 hRx hCx hb qa qb HMg HDg HFg HCg HC9 HBg
            dsimp only
            go_wp2_with fail
            go_loopw [12] (fun v12 wr => ∃ j : Nat, v12 = .int .i64 j ∧ j ≤ k ∧ Below wh.heap.size wh wr) (fun v12 _ => k - (intOf v12).toNat)
            case atStart => exact ⟨0, rfl, Nat.zero_le _, Below.refl _ _⟩
            case round =>
              obtain ⟨j, rfl, hj, hb⟩ := hrel
              have HB := Aside0.mk hb
              clear hb
              by_cases hlt : j < k
              · obtain ⟨ax, X0, cx0, hAx, hx0, _, hXC⟩ := at_irows HX.out j hlt
                obtain ⟨ay, Y0, cy0, hAy, hy0, _, hYC⟩ := at_irows HY.out j hlt
                subst hAx hAy
                obtain ⟨wo, hwo⟩ : ∃ wo, wo = wr := ⟨_, rfl⟩
                obtain ⟨row, hrow⟩ : ∃ row, row = ns.getD j [] := ⟨_, rfl⟩
                rw [← hrow] at hx0 hy0 hXC hYC
                have hrm := Kd.C_max hXC
                have HX0 := Aside0.mk hx0
                have HY0 := Aside0.mk hy0
                have HXC := Aside0.mk hXC
                have HYC := Aside0.mk hYC
                have x1 := pw_cell_below HB.out hx0
                have y1 := pw_cell_below HB.out hy0
                clear hx0 hy0 hXC hYC hrow hwo
                go_upto_region 21 with (fail)
                go_quiet (fail)
                have HBo := Aside0.mk (below_dN HB.out nq)
                obtain ⟨wj, hwj⟩ : ∃ wj, wj = wr.drewN nq := ⟨_, rfl⟩
                rw [← hwj] at HBo ⊢
                clear x1 y1 hwj
                go_wp2_with fail
                go_loopw [13] (fun v13 wr => ∃ i : Nat, v13 = .int .i64 i ∧ i ≤ row.length ∧ Below wj.heap.size wj wr) (fun v13 _ => row.length - (intOf v13).toNat)
                case atStart => exact ⟨0, rfl, Nat.zero_le _, Below.refl _ _⟩
                case round =>
                  obtain ⟨i, rfl, hi, hb⟩ := hrel
                  have hbh := below_step HBo.out hb
                  have HBi := Aside0.mk hb
                  have x1 := pw_cell_below hbh HX0.out
                  have y1 := pw_cell_below hbh HY0.out
                  clear hb
                  by_cases hlt2 : i < row.length
                  · obtain ⟨bx, hBx, hx2⟩ := Kd.at_int HXC.out (i : Int) (by omega) (by omega)
                    obtain ⟨by_, hBy, hy2⟩ := Kd.at_int HYC.out (i : Int) (by omega) (by omega)
                    rw [Int.toNat_natCast] at hx2 hy2
                    subst hBx hBy
                    have x2 := pw_cell_below hbh hx2
                    have y2 := pw_cell_below hbh hy2
                    obtain ⟨z, hz⟩ : ∃ z, z = rd row (i : Int) := ⟨_, rfl⟩
                    rw [← hz] at x2 y2
                    clear hx2 hy2 hz hbh
                    go_upto_region 26 with (fail)
                    go_quiet (fail)
                    have HB' := Aside0.mk (below_dN HBi.out nq)
                    go_wp2_with fail
                    go_roundw
                    case rel => exact ⟨i + 1, by go_num, by omega, HB'.out⟩
                    case measure => simp [intOf]; omega
                  · clear hbh
                    go_wp2_with fail
                    go_roundw
                    case rel => exact ⟨j + 1, by go_num, by omega, below_step HBo.out HBi.out⟩
                    case measure => simp [intOf]; omega
              · have hjk : k = j := by omega
                subst hjk
                clear hlt hj
                have HBz := Aside0.mk (below_step HBh.out HB.out)
                by_cases hemp : k = 0
                · have hz2 : ((cs.length : Int) == 2) = true := by
                    rw [HCS.out, List.length_eq_zero_iff.mp (HKN.out.symm.trans hemp)]; rfl
                  subst hemp
                  go_wp2_with fail
                  go_ret
                  exact ⟨rfl, HBz.out⟩
                · have hk0 : ((k : Int) == 0) = false := by rw [beq_eq_false_iff_ne]; omega
                  have hk1 : 0 < k := by omega
                  obtain ⟨x, tl, hxl⟩ : ∃ x tl, ns = x :: tl := List.exists_cons_of_ne_nil (by intro h; have := HKN.out; rw [h] at this; simp at this; omega)
                  obtain ⟨i0, hi0, _, hs0, _⟩ := info_parts (show (Try.prog.info? 5).map (fun i => (i.zero, i.size, i.bytes)) = some (some (.int .u8 0), 1, 1) by kernel_rfl)
                  obtain ⟨Ad, hd, hdr, hdl⟩ := print_drop_of (P := Try.prog) (Value.int .u8) 0 40 5 .i64 Try.underlying40 hi0 hs0 A8 c8 cs 2 (by decide) (by omega) HL8.out
                  have hdr' := hdr wr (Kd.reads_of_C (Kd.C_below HC0.out HB.out))
                  have HFS := Aside0.mk (show fstR (manyR (fun s => lowI s ((1 : Nat) : Int) 255)) [] (cs.drop (2 : Int).toNat) = (x, 2 + (x.length : Int), 0) by rw [HCS.out, hxl]; exact fstR_rows x tl (by rw [← hxl]; exact HNO.out) (by rw [← hxl, ← HKN.out]; exact hk100))
                  obtain ⟨ds, hds⟩ : ∃ ds, ds = cs.drop (2 : Int).toNat := ⟨_, rfl⟩
                  obtain ⟨c9, hc9⟩ : ∃ c9, c9 = c8 - (2 : Int).toNat := ⟨_, rfl⟩
                  rw [← hds, ← hc9] at hd hdl
                  rw [← hds] at hdr' HFS
                  have HDS := Aside0.mk (Kd.C_of_reads (h1 := fun _ => rfl) hdr')
                  have HDL := Aside0.mk hdl
                  have HDO := Aside0.mk (show okL ds by rw [hds]; exact HCO.out.drop _)
                  obtain ⟨ay, Y0, cy0, hAy, hy0, _, hYC⟩ := at_irows HY.out 0 hk1
                  rw [hxl] at hy0 hYC
                  have HY0 := Aside0.mk (show wh.cell? (ay.add 0) = some (.slice Y0 x.length cy0) from hy0)
                  have HYC := Aside0.mk (show Kd.C (Kd.int .i64) wh Y0 x.length x from hYC)
                  subst hAy
                  have hx100 : x.length ≤ 100 := (HNO.out x (by rw [hxl]; simp)).1
                  have hbd : Below wr.heap.size wr wr.drew := below_drew (Below.refl _ _)
                  clear hi0 hs0 hdr hdr' hds hc9 hdl hy0 hYC hxl
                  go_upto_region 30 with (fail)
                  go_region_held3 (fun w' => Below wr.heap.size wr w') (first | assumption | (simp; done)) (first
                    | (go_at_call 14; go_loud ((with_reducible refine (byte_run _).mono ?_); rintro r w5 ⟨g1, g2, rfl, hf, hb5⟩; have hb5' : Below wr.heap.size wr w5 := below_step hbd hb5; have HF5 := Aside0.mk hf; simp only [numV]; clear hf hb5))
                    | (go_at_call 13; go_loud ((with_reducible refine (many_I _ _ _ _ rfl rfl _).mono ?_); rintro r w6 ⟨ec, ef, l1, l2, rfl, hM, hb6⟩; have hb6' : Below wr.heap.size wr w6 := below_step hb5' hb6; have HM6 := Aside0.mk (show ManyF w6 ec ef l1 l2 37 (numV g1 g2) from hM); have HF6 := Aside0.mk (HF5.out.below hb6); simp only [manyV]; clear hM hb6))
                    | (go_at_call 18; go_loud (have h1 := fst_L w6 ec ef l1 l2 g1 g2 1 255 HM6.out HF6.out Ad c9 ds (Kd.C_below HDS.out hb6') HDL.out HDO.out; rw [HFS.out] at h1; refine h1.mono ?_; rintro r w7 ⟨v7, rfl, hR7, hb7⟩; obtain ⟨A14, c14, hv7, _, hC14⟩ := Kd.R_reads hR7; subst hv7; have hb7' : Below wr.heap.size wr w7 := below_step hb6' hb7; have HC14 := Aside0.mk hC14; clear h1 hR7 hC14 hb7)))
                  have hz1 := below_step HB.out hb7'
                  have HB7 := Aside0.mk (below_step HBh.out hz1)
                  have HW7 := Aside0.mk hz1
                  have hrm := Kd.C_max HYC.out
                  clear hb5' hb6' hb7' hbd hz1
                  try dsimp only
                  go_wp2_with fail
                  go_loopw [17] (fun v17 wr => ∃ i : Nat, v17 = .int .i64 i ∧ i ≤ x.length ∧ Below w7.heap.size w7 wr) (fun v17 _ => x.length - (intOf v17).toNat)
                  case atStart => exact ⟨0, rfl, Nat.zero_le _, Below.refl _ _⟩
                  case round =>
                    obtain ⟨i, rfl, hi, hb⟩ := hrel
                    have HBi := Aside0.mk hb
                    have hbh := below_step HW7.out hb
                    have y1 := pw_cell_below hbh HY0.out
                    rw [show ay.add 0 = ay by simp [Addr.add]] at y1
                    clear hb
                    by_cases hlt2 : i < x.length
                    · obtain ⟨bx, hBx, hx2⟩ := Kd.at_int HC14.out (i : Int) (by omega) (by omega)
                      obtain ⟨bz, hBz, hy2⟩ := Kd.at_int HYC.out (i : Int) (by omega) (by omega)
                      rw [Int.toNat_natCast] at hx2 hy2
                      subst hBx hBz
                      have x2 := pw_cell_below HBi.out hx2
                      have y2 := pw_cell_below hbh hy2
                      obtain ⟨z, hz⟩ : ∃ z, z = rd x (i : Int) := ⟨_, rfl⟩
                      rw [← hz] at x2 y2
                      clear hx2 hy2 hz hbh
                      go_upto_region 34 with (fail)
                      go_quiet (fail)
                      have HB' := Aside0.mk (below_dN HBi.out nq)
                      go_wp2_with fail
                      go_roundw
                      case rel => exact ⟨i + 1, by go_num, by omega, HB'.out⟩
                      case measure => simp [intOf]; omega
                    · obtain hix : x.length = i := by omega
                      clear hbh hi hlt2
                      subst hix
                      go_wp2_with fail
                      go_ret
                      exact ⟨rfl, below_step HB7.out HBi.out⟩
        · clear hex
          as_aux_lemma =>
            go_wp2_with fail
            have h1 := enc_LL wr bc bf k1 k2 dc df d1 d2 f1 f2 1 255 A4 c4 ns HMr.out HDr.out HFr.out (by rw [← HKN.out]; exact HCn.out)
            rw [HER.out, ← HKN.out] at h1
            refine h1.mono ?_
            rintro r wf ⟨A8, c8, rfl, hC, hl, hb⟩
            have HC8 := Aside0.mk hC
            have HL8 := Aside0.mk hl
            have HMf := Aside0.mk (HMr.out.below hb)
            have HDf := Aside0.mk (HDr.out.below hb)
            have HFf := Aside0.mk (HFr.out.below hb)
            have HNf := Aside0.mk (blk_below HNr.out hb)
            have HCf := Aside0.mk (Kd.C_below HCn.out hb)
            have HBf := Aside0.mk (below_step HBr.out hb)
            clear h1 hC hl hb qa qb HMr HDr HFr HNr HCn HBr
            dsimp only
            go_wp2_with fail
            refine (pianolalaw01_lives.calls true _ rfl).mono ?_
            rintro r wg ⟨rfl, hb⟩
            have HMg := Aside0.mk (HMf.out.below hb)
            have HDg := Aside0.mk (HDf.out.below hb)
            have HFg := Aside0.mk (HFf.out.below hb)
            have hng := blk_below HNf.out hb
            have qa : wg.cell? ⟨q, 0, none⟩ = some (.func (.func 54) #[] #[.pointer (some ⟨bc, 0, none⟩), .pointer (some ⟨bf, 0, none⟩)]) := blk_cell hng 0
            have qb : wg.cell? ⟨q, 1, none⟩ = some (.func (.func 55) #[] #[.pointer (some ⟨bc, 0, none⟩), .pointer (some ⟨bf, 0, none⟩)]) := blk_cell hng 1
            have HCg := Aside0.mk (Kd.C_below HCf.out hb)
            have HC9 := Aside0.mk (Kd.C_below HC8.out hb)
            have HBg := Aside0.mk (below_step HBf.out hb)
            clear hb hng HMf HDf HFf HNf HCf HC8 HBf
            go_wp2_with fail
            have h1 := dec_LL wg bc bf k1 k2 dc df d1 d2 f1 f2 1 255 HMg.out HDg.out HFg.out A8 c8 cs HC9.out HL8.out HCO.out
            rw [HDR.out] at h1
            refine h1.mono ?_
            rintro r wh ⟨vx, rfl, hRx, hb⟩
            obtain ⟨Ax, cx, hvx, _, hCx⟩ := Kd.R_reads hRx
            subst hvx
            rw [← HKN.out] at hCx ⊢
            have HX := Aside0.mk hCx
            have HY := Aside0.mk (Kd.C_below HCg.out hb)
            have HC0 := Aside0.mk (Kd.C_below HC9.out hb)
            have HBh := Aside0.mk (below_step HBg.out hb)
            clear h1 hRx hCx hb qa qb HMg HDg HFg HCg HC9 HBg
            dsimp only
            go_wp2_with fail
            go_loopw [12] (fun v12 wr => ∃ j : Nat, v12 = .int .i64 j ∧ j ≤ k ∧ Below wh.heap.size wh wr) (fun v12 _ => k - (intOf v12).toNat)
            case atStart => exact ⟨0, rfl, Nat.zero_le _, Below.refl _ _⟩
            case round =>
              obtain ⟨j, rfl, hj, hb⟩ := hrel
              have HB := Aside0.mk hb
              clear hb
              by_cases hlt : j < k
              · obtain ⟨ax, X0, cx0, hAx, hx0, _, hXC⟩ := at_irows HX.out j hlt
                obtain ⟨ay, Y0, cy0, hAy, hy0, _, hYC⟩ := at_irows HY.out j hlt
                subst hAx hAy
                obtain ⟨wo, hwo⟩ : ∃ wo, wo = wr := ⟨_, rfl⟩
                obtain ⟨row, hrow⟩ : ∃ row, row = ns.getD j [] := ⟨_, rfl⟩
                rw [← hrow] at hx0 hy0 hXC hYC
                have hrm := Kd.C_max hXC
                have HX0 := Aside0.mk hx0
                have HY0 := Aside0.mk hy0
                have HXC := Aside0.mk hXC
                have HYC := Aside0.mk hYC
                have x1 := pw_cell_below HB.out hx0
                have y1 := pw_cell_below HB.out hy0
                clear hx0 hy0 hXC hYC hrow hwo
                go_upto_region 21 with (fail)
                go_quiet (fail)
                have HBo := Aside0.mk (below_dN HB.out nq)
                obtain ⟨wj, hwj⟩ : ∃ wj, wj = wr.drewN nq := ⟨_, rfl⟩
                rw [← hwj] at HBo ⊢
                clear x1 y1 hwj
                go_wp2_with fail
                go_loopw [13] (fun v13 wr => ∃ i : Nat, v13 = .int .i64 i ∧ i ≤ row.length ∧ Below wj.heap.size wj wr) (fun v13 _ => row.length - (intOf v13).toNat)
                case atStart => exact ⟨0, rfl, Nat.zero_le _, Below.refl _ _⟩
                case round =>
                  obtain ⟨i, rfl, hi, hb⟩ := hrel
                  have hbh := below_step HBo.out hb
                  have HBi := Aside0.mk hb
                  have x1 := pw_cell_below hbh HX0.out
                  have y1 := pw_cell_below hbh HY0.out
                  clear hb
                  by_cases hlt2 : i < row.length
                  · obtain ⟨bx, hBx, hx2⟩ := Kd.at_int HXC.out (i : Int) (by omega) (by omega)
                    obtain ⟨by_, hBy, hy2⟩ := Kd.at_int HYC.out (i : Int) (by omega) (by omega)
                    rw [Int.toNat_natCast] at hx2 hy2
                    subst hBx hBy
                    have x2 := pw_cell_below hbh hx2
                    have y2 := pw_cell_below hbh hy2
                    obtain ⟨z, hz⟩ : ∃ z, z = rd row (i : Int) := ⟨_, rfl⟩
                    rw [← hz] at x2 y2
                    clear hx2 hy2 hz hbh
                    go_upto_region 26 with (fail)
                    go_quiet (fail)
                    have HB' := Aside0.mk (below_dN HBi.out nq)
                    go_wp2_with fail
                    go_roundw
                    case rel => exact ⟨i + 1, by go_num, by omega, HB'.out⟩
                    case measure => simp [intOf]; omega
                  · clear hbh
                    go_wp2_with fail
                    go_roundw
                    case rel => exact ⟨j + 1, by go_num, by omega, below_step HBo.out HBi.out⟩
                    case measure => simp [intOf]; omega
              · have hjk : k = j := by omega
                subst hjk
                clear hlt hj
                have HBz := Aside0.mk (below_step HBh.out HB.out)
                by_cases hemp : k = 0
                · have hz2 : ((cs.length : Int) == 2) = true := by
                    rw [HCS.out, List.length_eq_zero_iff.mp (HKN.out.symm.trans hemp)]; rfl
                  subst hemp
                  go_wp2_with fail
                  go_ret
                  exact ⟨rfl, HBz.out⟩
                · have hk0 : ((k : Int) == 0) = false := by rw [beq_eq_false_iff_ne]; omega
                  have hk1 : 0 < k := by omega
                  obtain ⟨x, tl, hxl⟩ : ∃ x tl, ns = x :: tl := List.exists_cons_of_ne_nil (by intro h; have := HKN.out; rw [h] at this; simp at this; omega)
                  obtain ⟨i0, hi0, _, hs0, _⟩ := info_parts (show (Try.prog.info? 5).map (fun i => (i.zero, i.size, i.bytes)) = some (some (.int .u8 0), 1, 1) by kernel_rfl)
                  obtain ⟨Ad, hd, hdr, hdl⟩ := print_drop_of (P := Try.prog) (Value.int .u8) 0 40 5 .i64 Try.underlying40 hi0 hs0 A8 c8 cs 2 (by decide) (by omega) HL8.out
                  have hdr' := hdr wr (Kd.reads_of_C (Kd.C_below HC0.out HB.out))
                  have HFS := Aside0.mk (show fstR (manyR (fun s => lowI s ((1 : Nat) : Int) 255)) [] (cs.drop (2 : Int).toNat) = (x, 2 + (x.length : Int), 0) by rw [HCS.out, hxl]; exact fstR_rows x tl (by rw [← hxl]; exact HNO.out) (by rw [← hxl, ← HKN.out]; exact hk100))
                  obtain ⟨ds, hds⟩ : ∃ ds, ds = cs.drop (2 : Int).toNat := ⟨_, rfl⟩
                  obtain ⟨c9, hc9⟩ : ∃ c9, c9 = c8 - (2 : Int).toNat := ⟨_, rfl⟩
                  rw [← hds, ← hc9] at hd hdl
                  rw [← hds] at hdr' HFS
                  have HDS := Aside0.mk (Kd.C_of_reads (h1 := fun _ => rfl) hdr')
                  have HDL := Aside0.mk hdl
                  have HDO := Aside0.mk (show okL ds by rw [hds]; exact HCO.out.drop _)
                  obtain ⟨ay, Y0, cy0, hAy, hy0, _, hYC⟩ := at_irows HY.out 0 hk1
                  rw [hxl] at hy0 hYC
                  have HY0 := Aside0.mk (show wh.cell? (ay.add 0) = some (.slice Y0 x.length cy0) from hy0)
                  have HYC := Aside0.mk (show Kd.C (Kd.int .i64) wh Y0 x.length x from hYC)
                  subst hAy
                  have hx100 : x.length ≤ 100 := (HNO.out x (by rw [hxl]; simp)).1
                  have hbd : Below wr.heap.size wr wr.drew := below_drew (Below.refl _ _)
                  clear hi0 hs0 hdr hdr' hds hc9 hdl hy0 hYC hxl
                  go_upto_region 30 with (fail)
                  go_region_held3 (fun w' => Below wr.heap.size wr w') (first | assumption | (simp; done)) (first
                    | (go_at_call 14; go_loud ((with_reducible refine (byte_run _).mono ?_); rintro r w5 ⟨g1, g2, rfl, hf, hb5⟩; have hb5' : Below wr.heap.size wr w5 := below_step hbd hb5; have HF5 := Aside0.mk hf; simp only [numV]; clear hf hb5))
                    | (go_at_call 13; go_loud ((with_reducible refine (many_I _ _ _ _ rfl rfl _).mono ?_); rintro r w6 ⟨ec, ef, l1, l2, rfl, hM, hb6⟩; have hb6' : Below wr.heap.size wr w6 := below_step hb5' hb6; have HM6 := Aside0.mk (show ManyF w6 ec ef l1 l2 37 (numV g1 g2) from hM); have HF6 := Aside0.mk (HF5.out.below hb6); simp only [manyV]; clear hM hb6))
                    | (go_at_call 18; go_loud (have h1 := fst_L w6 ec ef l1 l2 g1 g2 1 255 HM6.out HF6.out Ad c9 ds (Kd.C_below HDS.out hb6') HDL.out HDO.out; rw [HFS.out] at h1; refine h1.mono ?_; rintro r w7 ⟨v7, rfl, hR7, hb7⟩; obtain ⟨A14, c14, hv7, _, hC14⟩ := Kd.R_reads hR7; subst hv7; have hb7' : Below wr.heap.size wr w7 := below_step hb6' hb7; have HC14 := Aside0.mk hC14; clear h1 hR7 hC14 hb7)))
                  have hz1 := below_step HB.out hb7'
                  have HB7 := Aside0.mk (below_step HBh.out hz1)
                  have HW7 := Aside0.mk hz1
                  have hrm := Kd.C_max HYC.out
                  clear hb5' hb6' hb7' hbd hz1
                  try dsimp only
                  go_wp2_with fail
                  go_loopw [17] (fun v17 wr => ∃ i : Nat, v17 = .int .i64 i ∧ i ≤ x.length ∧ Below w7.heap.size w7 wr) (fun v17 _ => x.length - (intOf v17).toNat)
                  case atStart => exact ⟨0, rfl, Nat.zero_le _, Below.refl _ _⟩
                  case round =>
                    obtain ⟨i, rfl, hi, hb⟩ := hrel
                    have HBi := Aside0.mk hb
                    have hbh := below_step HW7.out hb
                    have y1 := pw_cell_below hbh HY0.out
                    rw [show ay.add 0 = ay by simp [Addr.add]] at y1
                    clear hb
                    by_cases hlt2 : i < x.length
                    · obtain ⟨bx, hBx, hx2⟩ := Kd.at_int HC14.out (i : Int) (by omega) (by omega)
                      obtain ⟨bz, hBz, hy2⟩ := Kd.at_int HYC.out (i : Int) (by omega) (by omega)
                      rw [Int.toNat_natCast] at hx2 hy2
                      subst hBx hBz
                      have x2 := pw_cell_below HBi.out hx2
                      have y2 := pw_cell_below hbh hy2
                      obtain ⟨z, hz⟩ : ∃ z, z = rd x (i : Int) := ⟨_, rfl⟩
                      rw [← hz] at x2 y2
                      clear hx2 hy2 hz hbh
                      go_upto_region 34 with (fail)
                      go_quiet (fail)
                      have HB' := Aside0.mk (below_dN HBi.out nq)
                      go_wp2_with fail
                      go_roundw
                      case rel => exact ⟨i + 1, by go_num, by omega, HB'.out⟩
                      case measure => simp [intOf]; omega
                    · obtain hix : x.length = i := by omega
                      clear hbh hi hlt2
                      subst hix
                      go_wp2_with fail
                      go_ret
                      exact ⟨rfl, below_step HB7.out HBi.out⟩

end Go.Proofs.Ytdlkkjfbbeffbaa.P
