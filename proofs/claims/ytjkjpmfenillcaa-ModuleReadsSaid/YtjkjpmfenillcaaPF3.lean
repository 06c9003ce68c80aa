/- Ytjkjpmfenillcaa: what Go functions come to, and that they do: walks, printed by a program of this session or typed by hand; no statement of the seat stands here. -/
import Derived.Test.YtjkjpmfenillcaaP0
import Derived.Test.YtjkjpmfenillcaaPF12
import Derived.Test.YtjkjpmfenillcaaModL
import Derived.Test.YtjkjpmfenillcaaModP
import Derived.Test.YtjkjpmfenillcaaModR
namespace Go.Proofs.Ytjkjpmfenillcaa.P
open Go.RowKit Go.Proofs.YtjkjpmfenillcaaW.PrintWords Go.Proofs.YtjkjpmfenillcaaW.PrintLast Go.Proofs.YtjkjpmfenillcaaW.PrintMore
attribute [local go_sem] max2_int min2_int max_two min_two max_three min_three max_four min_four   -- for this text's walks alone
set_option linter.unusedVariables false
set_option linter.unusedSimpArgs false


/-! ### pianolalaw06_ModuleReads: function 3 -/
-- IMPORT Derived.Test.YtjkjpmfenillcaaModR
-- IMPORT Derived.Test.YtjkjpmfenillcaaModP
-- IMPORT Derived.Test.YtjkjpmfenillcaaModL
def okBy (l0 : List Int) : Bool := l0.all (fun v => decide (0 ≤ v) && decide (v < 256))
theorem okBy_is {l0 : List Int} (h : okBy l0 = true) : okB l0 := by
  unfold okBy at h
  rw [List.all_eq_true] at h
  intro v hv
  have h1 := h v hv
  rw [Bool.and_eq_true, decide_eq_true_eq, decide_eq_true_eq] at h1
  exact h1
theorem decM_len (b : List Int) : (decM b).1.length ≤ 256 ∧ (decM b).2.1.length ≤ 32 := by
  unfold decM
  simp only []
  split
  · rename_i h
    have h2 := h.2.2
    unfold mayM at h2
    simp only [Bool.and_eq_true, decide_eq_true_eq] at h2
    exact ⟨h2.1.1.1, h2.1.2⟩
  · exact ⟨Nat.zero_le _, Nat.zero_le _⟩
def pianolalaw06_ModuleReads.f (l0 : List Int) : Option Bool := if okBy l0 = true then some true else none
set_option maxRecDepth 100000 in
set_option maxHeartbeats 4000000 in
theorem pianolalaw06_ModuleReads.calls (A0 : Option Addr) (c0 : Nat) (l0 : List Int) (r : Bool) (w : World) (hr0 : Kd.C (Kd.int .u8) w A0 l0.length l0) (hc0 : l0.length ≤ c0) (h : pianolalaw06_ModuleReads.f l0 = some r) :
    Calls Try.prog 3 #[.slice A0 l0.length c0] w fun e w' => e = .returned (.bool r) ∧ Below w.heap.size w w' := by
  have hok : okBy l0 = true := by
    unfold pianolalaw06_ModuleReads.f at h
    split at h
    · assumption
    · cases h
  obtain rfl : r = true := by
    unfold pianolalaw06_ModuleReads.f at h
    rw [if_pos hok] at h
    exact (Option.some.inj h).symm
  have HOK := Aside0.mk (okBy_is hok)
  have HR := Aside0.mk hr0
  have hmx := Kd.C_max hr0
  clear h hok hr0
  by_cases hlen : (1048576 : Int) < (l0.length : Int)
  · go_enter Try.func3, Try.ntmps3
    go_wp2_with fail
    refine (lives_run w).mono ?_
    rintro r w0 ⟨rfl, hb0⟩
    have HB0 := Aside0.mk hb0
    clear hb0
    go_wp2_with fail
    go_ret
    exact ⟨rfl, HB0.out⟩
  · have hlen' : (l0.length : Int) ≤ 1048576 := by omega
    have HLE := Aside0.mk (show l0.length ≤ 1048576 by omega)
    have HOL := Aside0.mk (show okL l0 from ⟨HOK.out, by omega⟩)
    have HDL := Aside0.mk (decM_len l0)
    obtain ⟨cn, gs, ec, hdec⟩ : ∃ cn gs ec, decM l0 = (cn, gs, ec) := ⟨_, _, _, rfl⟩
    rw [hdec] at HDL
    obtain ⟨kk, hkk⟩ := rsame_is cn cn gs gs (Nat.le_trans HDL.out.1 (by decide)) (Nat.le_trans HDL.out.2 (by decide))
    rw [show ((cn == cn) && eqFs gs gs) = true by rw [eqFs_refl, beq_self_eq_true]; rfl] at hkk
    have HK := Aside0.mk hkk
    have HDC := Aside0.mk hdec
    clear hlen hkk hdec
    have he2 : (ec == ec) = true := beq_self_eq_true ec
    go_enter Try.func3, Try.ntmps3
    go_wp2_with (at_builtin; go_loud (refine Kd.R_append_rows (Kd.int .u8) (Rr := fun x cs => cs = [.int .u8 x]) (w0 := w) w.heap.size rfl (.tmp 12) (.tmp 13) 22 5 (.int .u8 0) 1 rfl Try.underlying22 (by kernel_rfl) rfl (by decide) (by decide) (.slice (some ⟨w.heap.size, 0, none⟩) 0 0) [] l0 A0 l0.length c0 (fun _ => True) (fun _ => False) rfl rfl (empty_own w w.heap.size (Nat.le_refl _)) (Kd.C_alloc HR.out _) (fun _ _ h => h) (fun _ hk => hk.elim) (fun _ _ => trivial) (below_alloc (Below.refl _ _) _) (by rw [World.size_alloc]; omega) (by simp; omega) ?_; intro v1 w1 ho hb1 hg hat; obtain ⟨A1, c1, hv1⟩ := Kd.R_slice ho; subst hv1; simp only [List.nil_append] at ho hat; have HX := Aside0.mk (And.intro ho hb1); clear ho hb1 hg hat))
    have h1 := mdec_run A1 c1 l0 w1 (Kd.R_reads' HX.out.1).2.2 (Kd.R_reads' HX.out.1).2.1 HOL.out
    rw [HDC.out] at h1
    refine h1.mono ?_
    rintro e w2 ⟨B0, d0, B1, d1, rfl, ⟨hC0, hl0⟩, ⟨hC1, hl1⟩, hb2⟩
    have HC2 := Aside0.mk (And.intro (And.intro hC0 hl0) (And.intro hC1 hl1))
    have HOW2 := Aside0.mk (Kd.C_below (Kd.R_reads' HX.out.1).2.2 hb2)
    have HB2 := Aside0.mk (below_step HX.out.2 hb2)
    clear h1 hC0 hl0 hC1 hl1 hb2
    dsimp only at HC2 ⊢
    go_wp2_with fail
    obtain ⟨W3, hW3⟩ : ∃ W3, w2.alloc (.cells #[.slice B0 cn.length d0, .slice B1 gs.length d1] 27) = W3 := ⟨_, rfl⟩
    have hb3 : Below w2.heap.size w2 W3 := by rw [← hW3]; exact below_alloc (Below.refl _ _) _
    have hm3 : W3.heap[w2.heap.size]? = some (.cells #[.slice B0 cn.length d0, .slice B1 gs.length d1] 27 (0, 0)) := by rw [← hW3]; exact blk_new w2 _
    rw [hW3]
    clear hW3
    have HB3 := Aside0.mk (below_step HB2.out hb3)
    have HL3 := Aside0.mk (And.intro hb3 hm3)
    clear hb3 hm3
    have h1 := rdec_run A0 c0 l0 W3 (Kd.C_below HR.out HB3.out) hc0 HOL.out HLE.out
    rw [HDC.out] at h1
    refine h1.mono ?_
    rintro e w4 ⟨E0, e0, E1, e1, rfl, ⟨hC0, hl0⟩, ⟨hC1, hl1⟩, hb4⟩
    have HC4 := Aside0.mk (And.intro (And.intro hC0 hl0) (And.intro hC1 hl1))
    have HM4 := Aside0.mk (blk_below HL3.out.2 hb4)
    have HS4 := Aside0.mk (below_step HL3.out.1 hb4)
    have HB4 := Aside0.mk (below_step HB3.out hb4)
    clear h1 hC0 hl0 hC1 hl1 hb4
    dsimp only at HC4 ⊢
    go_wp2_with fail
    obtain ⟨W5, hW5⟩ : ∃ W5, w4.alloc (.cells #[.slice E0 cn.length e0, .slice E1 gs.length e1] 27) = W5 := ⟨_, rfl⟩
    have hb5 : Below w4.heap.size w4 W5 := by rw [← hW5]; exact below_alloc (Below.refl _ _) _
    have hm5 : W5.heap[w4.heap.size]? = some (.cells #[.slice E0 cn.length e0, .slice E1 gs.length e1] 27 (0, 0)) := by rw [← hW5]; exact blk_new w4 _
    rw [hW5]
    clear hW5
    have HB5 := Aside0.mk (below_step HB4.out hb5)
    have HS5 := Aside0.mk (below_step HS4.out hb5)
    have HM5 := Aside0.mk (blk_below HM4.out hb5)
    have HL5 := Aside0.mk (And.intro hb5 hm5)
    clear hb5 hm5
    refine (lives_run W5).mono ?_
    rintro r w6 ⟨rfl, hb6⟩
    have HB6 := Aside0.mk (below_step HB5.out hb6)
    have HS6 := Aside0.mk (below_step HS5.out hb6)
    have HT6 := Aside0.mk (below_step HL5.out.1 hb6)
    have hm6 := blk_below HM5.out hb6
    have hn6 := blk_below HL5.out.2 hb6
    have p0 := blk_cell hm6 0
    have p1 := blk_cell hm6 1
    have q0 := blk_cell hn6 0
    have q1 := blk_cell hn6 1
    clear hb6 hm6 hn6
    go_wp2_with fail
    refine (pianolaref06_Same.calls kk B0 d0 cn B1 d1 gs E0 e0 cn E1 e1 gs true w6 (Kd.C_below HC2.out.1.1 HS6.out) HC2.out.1.2 (Kd.C_below HC2.out.2.1 HS6.out) HC2.out.2.2 (Kd.C_below HC4.out.1.1 HT6.out) HC4.out.1.2 (Kd.C_below HC4.out.2.1 HT6.out) HC4.out.2.2 HK.out).mono ?_
    rintro r w7 ⟨rfl, hb7⟩
    have HB7 := Aside0.mk (below_step HB6.out hb7)
    have hcv1 := Kd.C_string (P := Try.prog) (A := A1) (c := c1) Try.underlying22 Try.underlying5 Try.underlying9 (Kd.C_below HOW2.out (below_step HS6.out hb7))
    have hcv2 := Kd.C_string (P := Try.prog) (A := A0) (c := c0) Try.underlying22 Try.underlying5 Try.underlying9 (Kd.C_below HR.out HB7.out)
    have hst : ((strOfNums l0).toList == (strOfNums l0).toList) = true := beq_self_eq_true _
    clear hb7 p0 p1 q0 q1
    go_wp2_with fail
    go_ret
    exact ⟨rfl, HB7.out⟩

end Go.Proofs.Ytjkjpmfenillcaa.P
