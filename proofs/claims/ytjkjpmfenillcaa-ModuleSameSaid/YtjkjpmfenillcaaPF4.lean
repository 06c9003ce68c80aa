/- Ytjkjpmfenillcaa: what Go functions come to, and that they do: walks, printed by a program of this session or typed by hand; no statement of the seat stands here. -/
import Derived.Test.YtjkjpmfenillcaaP0
import Derived.Test.YtjkjpmfenillcaaPF12
import Derived.Test.YtjkjpmfenillcaaModL
import Derived.Test.YtjkjpmfenillcaaModP
namespace Go.Proofs.Ytjkjpmfenillcaa.P
open Go.RowKit Go.Proofs.YtjkjpmfenillcaaW.PrintWords Go.Proofs.YtjkjpmfenillcaaW.PrintLast Go.Proofs.YtjkjpmfenillcaaW.PrintMore
attribute [local go_sem] max2_int min2_int max_two min_two max_three min_three max_four min_four   -- for this text's walks alone
set_option linter.unusedVariables false
set_option linter.unusedSimpArgs false


/-! ### pianolalaw06_ModuleSame: function 4 -/
-- IMPORT Derived.Test.YtjkjpmfenillcaaModP
-- IMPORT Derived.Test.YtjkjpmfenillcaaModL
def pianolalaw06_ModuleSame.f (l0_0 : List Int) (l0_1 : List FnS) (l1_0 : List Int) (l1_1 : List FnS) : Option Bool := if (okMod l0_0 l0_1 && okMod l1_0 l1_1) = true then some true else none
set_option maxRecDepth 100000 in
set_option maxHeartbeats 4000000 in
theorem pianolalaw06_ModuleSame.calls (A0_0 : Option Addr) (c0_0 : Nat) (l0_0 : List Int) (A0_1 : Option Addr) (c0_1 : Nat) (l0_1 : List FnS) (A1_0 : Option Addr) (c1_0 : Nat) (l1_0 : List Int) (A1_1 : Option Addr) (c1_1 : Nat) (l1_1 : List FnS) (r : Bool) (w : World) (hr0_0 : Kd.C (Kd.int .i64) w A0_0 l0_0.length l0_0) (hc0_0 : l0_0.length ≤ c0_0) (hr0_1 : Kd.C k41 w A0_1 l0_1.length l0_1) (hc0_1 : l0_1.length ≤ c0_1) (hr1_0 : Kd.C (Kd.int .i64) w A1_0 l1_0.length l1_0) (hc1_0 : l1_0.length ≤ c1_0) (hr1_1 : Kd.C k41 w A1_1 l1_1.length l1_1) (hc1_1 : l1_1.length ≤ c1_1) (h : pianolalaw06_ModuleSame.f l0_0 l0_1 l1_0 l1_1 = some r) :
    Calls Try.prog 4 #[.agg #[.slice A0_0 l0_0.length c0_0, .slice A0_1 l0_1.length c0_1], .agg #[.slice A1_0 l1_0.length c1_0, .slice A1_1 l1_1.length c1_1]] w fun e w' => e = .returned (.bool r) ∧ Below w.heap.size w w' := by
  have hok : (okMod l0_0 l0_1 && okMod l1_0 l1_1) = true := by
    unfold pianolalaw06_ModuleSame.f at h
    split at h
    · assumption
    · cases h
  obtain rfl : r = true := by
    unfold pianolalaw06_ModuleSame.f at h
    rw [if_pos hok] at h
    exact (Option.some.inj h).symm
  rw [Bool.and_eq_true] at hok
  obtain ⟨hok0, hok1⟩ := hok
  clear h
  obtain ⟨s, hs⟩ : ∃ s : Bool, ((l0_0 == l1_0) && eqFs l0_1 l1_1) = s := ⟨_, rfl⟩
  obtain ⟨kk, hkk⟩ := rsame_is l0_0 l1_0 l0_1 l1_1 (Nat.le_trans (okMod_is hok0).2.1 (by decide)) (Nat.le_trans (okMod_is hok0).2.2.1 (by decide))
  rw [hs] at hkk
  obtain ⟨xs, ex, hx⟩ : ∃ xs ex, encM l0_0 l0_1 = (xs, ex) := ⟨_, _, rfl⟩
  obtain ⟨ys, ey, hy⟩ : ∃ ys ey, encM l1_0 l1_1 = (ys, ey) := ⟨_, _, rfl⟩
  have hrefl : ((l0_0 == l0_0) && eqFs l0_1 l0_1) = true := by rw [eqFs_refl, beq_self_eq_true]; rfl
  have hstr : ex = 0 → ey = 0 → ((strOfNums xs).toList == (strOfNums ys).toList) = s := by
    rintro rfl rfl
    rw [← hs]
    exact codes_same _ _ _ _ _ _ hx hy hok0 hok1
  have HS := Aside0.mk hs
  have HK := Aside0.mk hkk
  have HX := Aside0.mk hx
  have HY := Aside0.mk hy
  have HRF := Aside0.mk hrefl
  have HST := Aside0.mk hstr
  have H00 := Aside0.mk hr0_0
  have H01 := Aside0.mk hr0_1
  have H10 := Aside0.mk hr1_0
  have H11 := Aside0.mk hr1_1
  have C00 := Aside0.mk hc0_0
  have C01 := Aside0.mk hc0_1
  have C10 := Aside0.mk hc1_0
  have C11 := Aside0.mk hc1_1
  have HL0 := Aside0.mk (okMod_is hok0)
  clear hs hkk hx hy hrefl hstr hr0_0 hr0_1 hr1_0 hr1_1 hc0_0 hc0_1 hc1_0 hc1_1 hok0 hok1
  have key : ∀ ce cf : Bool, (ex != 0) = ce → (ey != 0) = cf → Calls Try.prog 4 #[.agg #[.slice A0_0 l0_0.length c0_0, .slice A0_1 l0_1.length c0_1], .agg #[.slice A1_0 l1_0.length c1_0, .slice A1_1 l1_1.length c1_1]] w fun e w' => e = .returned (.bool true) ∧ Below w.heap.size w w' := by
    intro ce cf hce hcf
    have HCE := Aside0.mk hce
    have HCF := Aside0.mk hcf
    clear hce hcf
    go_enter Try.func4, Try.ntmps4
    go_upto_region 1 with (fail)
    obtain ⟨W2, hW2⟩ : ∃ W2, (w.alloc (.cells #[.slice A0_0 l0_0.length c0_0, .slice A0_1 l0_1.length c0_1] 27)).alloc (.cells #[.slice A1_0 l1_0.length c1_0, .slice A1_1 l1_1.length c1_1] 27) = W2 := ⟨_, rfl⟩
    have hb2 : Below w.heap.size w W2 := by rw [← hW2]; exact below_alloc (below_alloc (Below.refl _ _) _) _
    have hx2 : W2.heap[w.heap.size]? = some (.cells #[.slice A0_0 l0_0.length c0_0, .slice A0_1 l0_1.length c0_1] 27 (0, 0)) := by rw [← hW2]; exact blk_alloc (blk_new w _) _
    have hy2 : W2.heap[w.heap.size + 1]? = some (.cells #[.slice A1_0 l1_0.length c1_0, .slice A1_1 l1_1.length c1_1] 27 (0, 0)) := by
      rw [← hW2]
      have h := blk_new (w.alloc (.cells #[.slice A0_0 l0_0.length c0_0, .slice A0_1 l0_1.length c0_1] 27)) (.cells #[.slice A1_0 l1_0.length c1_0, .slice A1_1 l1_1.length c1_1] 27)
      rw [World.size_alloc] at h
      exact h
    rw [hW2]
    clear hW2
    have p0 := blk_cell hx2 0
    have p1 := blk_cell hx2 1
    have HB2 := Aside0.mk hb2
    have HX2 := Aside0.mk hx2
    have HY2 := Aside0.mk hy2
    clear hb2 hx2 hy2
    go_wp2_with fail
    have h1 := menc_run A0_0 c0_0 l0_0 A0_1 c0_1 l0_1 W2 (Kd.C_below H00.out HB2.out) C00.out (Kd.C_below H01.out HB2.out) C01.out
    rw [HX.out] at h1
    refine h1.mono ?_
    rintro r w3 ⟨Ax, cx, rfl, hCx, hlx, hb3⟩
    have HX3 := Aside0.mk (blk_below HX2.out hb3)
    have HY3 := Aside0.mk (blk_below HY2.out hb3)
    have HB3 := Aside0.mk (below_step HB2.out hb3)
    have HCX := Aside0.mk hCx
    have q0 := blk_cell HY3.out 0
    have q1 := blk_cell HY3.out 1
    clear h1 hCx hlx hb3 p0 p1
    go_wp2_with fail
    have h1 := menc_run A1_0 c1_0 l1_0 A1_1 c1_1 l1_1 w3 (Kd.C_below H10.out HB3.out) C10.out (Kd.C_below H11.out HB3.out) C11.out
    rw [HY.out] at h1
    refine h1.mono ?_
    rintro r w4 ⟨Ay, cy, rfl, hCy, hly, hb4⟩
    have HX4 := Aside0.mk (blk_below HX3.out hb4)
    have HY4 := Aside0.mk (blk_below HY3.out hb4)
    have HB4 := Aside0.mk (below_step HB3.out hb4)
    have HCX4 := Aside0.mk (Kd.C_below HCX.out hb4)
    have HCY4 := Aside0.mk hCy
    have p0 := blk_cell HX4.out 0
    have p1 := blk_cell HX4.out 1
    have q0 := blk_cell HY4.out 0
    have q1 := blk_cell HY4.out 1
    clear h1 hCy hly hb4
    go_wp2_with fail
    refine (pianolaref06_Same.calls kk A0_0 c0_0 l0_0 A0_1 c0_1 l0_1 A1_0 c1_0 l1_0 A1_1 c1_1 l1_1 s w4 (Kd.C_below H00.out HB4.out) C00.out (Kd.C_below H01.out HB4.out) C01.out (Kd.C_below H10.out HB4.out) C10.out (Kd.C_below H11.out HB4.out) C11.out HK.out).mono ?_
    rintro r w5 ⟨rfl, hb5⟩
    have HX5 := Aside0.mk (blk_below HX4.out hb5)
    have HY5 := Aside0.mk (blk_below HY4.out hb5)
    have HB5 := Aside0.mk (below_step HB4.out hb5)
    have HCX5 := Aside0.mk (Kd.C_below HCX4.out hb5)
    have HCY5 := Aside0.mk (Kd.C_below HCY4.out hb5)
    clear hb5 p0 p1 q0 q1
    go_wp2_with fail
    refine (lives_run w5).mono ?_
    rintro r w6 ⟨rfl, hb6⟩
    have HX6 := Aside0.mk (blk_below HX5.out hb6)
    have HY6 := Aside0.mk (blk_below HY5.out hb6)
    have HB6 := Aside0.mk (below_step HB5.out hb6)
    have HCX6 := Aside0.mk (Kd.C_below HCX5.out hb6)
    have HCY6 := Aside0.mk (Kd.C_below HCY5.out hb6)
    have p0 := blk_cell HX6.out 0
    have p1 := blk_cell HX6.out 1
    have q0 := blk_cell HY6.out 0
    have q1 := blk_cell HY6.out 1
    have lx := blk_lt HX6.out
    have ly := blk_lt HY6.out
    clear hb6
    have hss : (s == s) = true := by cases s <;> rfl
    go_wp2_with fail
    have h1 := msame_run A0_0 c0_0 l0_0 A0_1 c0_1 l0_1 A1_0 c1_0 l1_0 A1_1 c1_1 l1_1 w6 (Kd.C_below H00.out HB6.out) C00.out (Kd.C_below H01.out HB6.out) (Kd.C_below H10.out HB6.out) C10.out (Kd.C_below H11.out HB6.out) (Nat.le_trans HL0.out.2.1 (by decide))
    rw [HS.out] at h1
    refine h1.mono ?_
    rintro r w7 ⟨rfl, hb7⟩
    have HX7 := Aside0.mk (blk_below HX6.out hb7)
    have HB7 := Aside0.mk (below_step HB6.out hb7)
    have HCX7 := Aside0.mk (Kd.C_below HCX6.out hb7)
    have HCY7 := Aside0.mk (Kd.C_below HCY6.out hb7)
    have p0 := blk_cell HX7.out 0
    have p1 := blk_cell HX7.out 1
    clear hb7 h1 q0 q1 lx ly
    go_wp2_with fail
    have h1 := msame_run A0_0 c0_0 l0_0 A0_1 c0_1 l0_1 A0_0 c0_0 l0_0 A0_1 c0_1 l0_1 w7 (Kd.C_below H00.out HB7.out) C00.out (Kd.C_below H01.out HB7.out) (Kd.C_below H00.out HB7.out) C00.out (Kd.C_below H01.out HB7.out) (Nat.le_trans HL0.out.2.1 (by decide))
    rw [HRF.out] at h1
    refine h1.mono ?_
    rintro r w8 ⟨rfl, hb8⟩
    have HB8 := Aside0.mk (below_step HB7.out hb8)
    have HCX8 := Aside0.mk (Kd.C_below HCX7.out hb8)
    have HCY8 := Aside0.mk (Kd.C_below HCY7.out hb8)
    clear hb8 h1 p0 p1
    have hce := HCE.out
    have hcf := HCF.out
    cases ce
    · cases cf
      · have hex : ex = 0 := by simpa using hce
        have hey : ey = 0 := by simpa using hcf
        have hst := HST.out hex hey
        have hcv1 := Kd.C_string (P := Try.prog) (A := Ax) (c := cx) Try.underlying22 Try.underlying5 Try.underlying9 HCX8.out
        have hcv2 := Kd.C_string (P := Try.prog) (A := Ay) (c := cy) Try.underlying22 Try.underlying5 Try.underlying9 HCY8.out
        go_wp2_with fail
        go_ret
        exact ⟨rfl, HB8.out⟩
      · go_wp2_with fail
        go_ret
        exact ⟨rfl, HB8.out⟩
    · cases cf <;>
      · go_wp2_with fail
        go_ret
        exact ⟨rfl, HB8.out⟩
  exact key _ _ rfl rfl

end Go.Proofs.Ytjkjpmfenillcaa.P
