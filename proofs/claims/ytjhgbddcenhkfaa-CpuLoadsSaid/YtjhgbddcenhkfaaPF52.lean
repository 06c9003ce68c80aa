/- Ytjhgbddcenhkfaa: what Go functions come to, and that they do: walks, printed by a program of this session or typed by hand; no statement of the seat stands here. -/
import Derived.Test.YtjhgbddcenhkfaaP0
import Derived.Test.YtjhgbddcenhkfaaPF63
import Derived.Test.YtjhgbddcenhkfaaPF69
import Derived.Test.YtjhgbddcenhkfaaPF68
import Derived.Test.YtjhgbddcenhkfaaPF64
namespace Go.Proofs.Ytjhgbddcenhkfaa.P
open Go.RowKit Go.Proofs.YtjhgbddcenhkfaaW.PrintWords Go.Proofs.YtjhgbddcenhkfaaW.PrintLast Go.Proofs.YtjhgbddcenhkfaaW.PrintMore
attribute [local go_sem] max2_int min2_int max_two min_two max_three min_three max_four min_four   -- for this text's walks alone
set_option linter.unusedVariables false
set_option linter.unusedSimpArgs false


/-! ### encode_Encode: function 52 -/
/-- What is left is nothing. -/
def Mk.clean (s : Mk) : Bool := s.good && (decide (s.rd = 0) && (decide (s.rn = 0) && (decide (s.rm = 0) && (decide (s.ra = 0) && (decide (s.imm = 0) && (decide (s.shift = 0) && decide (s.cond = 0)))))))
def encode_Encode.f (a0_0 : Int) (a0_1 : Int) (a0_2 : Int) (a0_3 : Int) (a0_4 : Int) (a0_5 : Int) (a0_6 : Int) (a0_7 : Int) : Option (Int × Int) :=
  (encode_word.f a0_0).bind fun p => if p.2 = true then (if (Mk.fields ⟨p.1, a0_0, a0_1, a0_2, a0_3, a0_4, a0_5, a0_6, a0_7, true⟩).clean = true then some ((Mk.fields ⟨p.1, a0_0, a0_1, a0_2, a0_3, a0_4, a0_5, a0_6, a0_7, true⟩).W, 0) else some (0, 120)) else some (0, 120)
set_option maxHeartbeats 4000000 in
set_option maxRecDepth 100000 in
theorem encode_Encode.calls (a0_0 : Int) (a0_1 : Int) (a0_2 : Int) (a0_3 : Int) (a0_4 : Int) (a0_5 : Int) (a0_6 : Int) (a0_7 : Int) (r1 : Int) (r2 : Int) (w : World) (h : encode_Encode.f a0_0 a0_1 a0_2 a0_3 a0_4 a0_5 a0_6 a0_7 = some (r1, r2)) :
    Calls Try.prog 52 #[.agg #[.int .i64 a0_0, .int .i64 a0_1, .int .i64 a0_2, .int .i64 a0_3, .int .i64 a0_4, .int .i64 a0_5, .int .i64 a0_6, .int .i64 a0_7]] w fun e w' => e = .returned (.tuple #[.int .u32 r1, .int .i64 r2]) ∧ Below w.heap.size w w' := by
  obtain ⟨⟨W, ok⟩, hw⟩ : ∃ p, encode_word.f a0_0 = some p := by
    simp only [encode_Encode.f, Option.bind_eq_some_iff] at h
    obtain ⟨p, hp, _⟩ := h
    exact ⟨p, hp⟩
  have HW := Aside0.mk hw
  simp only [encode_Encode.f, hw, Option.bind_some] at h
  clear hw
  cases ok
  · simp only [Bool.false_eq_true, if_false, Option.some.injEq, Prod.mk.injEq] at h
    obtain ⟨rfl, rfl⟩ := h
    have HB := Aside0.mk (Below.refl w.heap.size w)
    go_enter Try.func52, Try.ntmps52
    go_wp2_with fail
    refine (encode_word.calls a0_0 W false _ HW.out).mono ?_
    rintro e w1 ⟨rfl, hd⟩
    have hb1 := Aside0.mk (((Below.refl w.heap.size w).alloc (Nat.le_refl _) _).trans (hd.below.mono (by simp)))
    clear hd HB
    go_wp2_with fail
    go_ret2
    exact ⟨rfl, hb1.out⟩
  · simp only [if_true] at h
    have HB := Aside0.mk (Below.refl w.heap.size w)
    have HH := Aside0.mk h
    clear h
    go_enter Try.func52, Try.ntmps52
    go_wp2_with fail
    refine (encode_word.calls a0_0 W true _ HW.out).mono ?_
    rintro e w1 ⟨rfl, ⟨n, rfl⟩⟩
    go_wp2_with fail
    refine (mk_fields (w.heap.size + 1) ⟨W, a0_0, a0_1, a0_2, a0_3, a0_4, a0_5, a0_6, a0_7, true⟩ _ ?hb).mono ?_
    case hb =>
      have h1 := heap_alloc_new ((w.alloc (.cells #[.int .i64 a0_0, .int .i64 a0_1, .int .i64 a0_2, .int .i64 a0_3, .int .i64 a0_4, .int .i64 a0_5, .int .i64 a0_6, .int .i64 a0_7] 61)).drewN n) (.cells (Mk.cells ⟨W, a0_0, a0_1, a0_2, a0_3, a0_4, a0_5, a0_6, a0_7, true⟩) 104)
      simp only [World.heap_drewN, World.size_alloc] at h1
      exact h1
    obtain ⟨s, hs⟩ : ∃ s, s = Mk.fields ⟨W, a0_0, a0_1, a0_2, a0_3, a0_4, a0_5, a0_6, a0_7, true⟩ := ⟨_, rfl⟩
    rw [← hs] at HH ⊢
    clear hs
    rintro e w2 ⟨rfl, hs⟩
    have hB2 : Below w.heap.size w w2 := hs.2.2 _ _ (Nat.le_succ _) (((pw_below_drewN ((Below.refl w.heap.size w).alloc (Nat.le_refl _) _) n)).alloc (by simp) _)
    have HB2 := Aside0.mk hB2
    have c9 : w2.cell? ⟨w.heap.size + 1, 9, none⟩ = some (.bool s.good) := blk_cell hs.1 9
    have c0 : w2.cell? ⟨w.heap.size + 1, 0, none⟩ = some (.int .u32 s.W) := blk_cell hs.1 0
    have c1 : w2.cell? ⟨w.heap.size + 1, 1, none⟩ = some (.int .i64 s.op) := blk_cell hs.1 1
    have c2 : w2.cell? ⟨w.heap.size + 1, 2, none⟩ = some (.int .i64 s.rd) := blk_cell hs.1 2
    have c3 : w2.cell? ⟨w.heap.size + 1, 3, none⟩ = some (.int .i64 s.rn) := blk_cell hs.1 3
    have c4 : w2.cell? ⟨w.heap.size + 1, 4, none⟩ = some (.int .i64 s.rm) := blk_cell hs.1 4
    have c5 : w2.cell? ⟨w.heap.size + 1, 5, none⟩ = some (.int .i64 s.ra) := blk_cell hs.1 5
    have c6 : w2.cell? ⟨w.heap.size + 1, 6, none⟩ = some (.int .i64 s.imm) := blk_cell hs.1 6
    have c7 : w2.cell? ⟨w.heap.size + 1, 7, none⟩ = some (.int .i64 s.shift) := blk_cell hs.1 7
    have c8 : w2.cell? ⟨w.heap.size + 1, 8, none⟩ = some (.int .i64 s.cond) := blk_cell hs.1 8
    have f1 := blk_free hs.1 1
    clear hs hB2
    obtain ⟨sW, sop, srd, srn, srm, sra, simm, sshift, scond, sgood⟩ := s
    dsimp only at c9 c0 c1 c2 c3 c4 c5 c6 c7 c8
    cases sgood
    · have HH2 := HH.out
      simp only [Mk.clean, Bool.false_and, Bool.false_eq_true, if_false, Option.some.injEq, Prod.mk.injEq] at HH2
      obtain ⟨rfl, rfl⟩ := HH2
      clear HH
      go_wp2_with fail
      go_ret2
      exact ⟨rfl, HB2.out.setCell (p := ⟨w.heap.size + 1, 1, none⟩) (Nat.le_succ _) _⟩
    · go_wp2_with fail
      all_goals
        have HH2 := HH.out
        clear HH
        simp [Mk.clean, *] at HH2
        obtain ⟨rfl, rfl⟩ := HH2
        go_ret2
        exact ⟨rfl, HB2.out.setCell (p := ⟨w.heap.size + 1, 1, none⟩) (Nat.le_succ _) _⟩

end Go.Proofs.Ytjhgbddcenhkfaa.P
