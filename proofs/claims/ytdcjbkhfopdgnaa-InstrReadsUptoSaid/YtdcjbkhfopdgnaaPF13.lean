/- Ytdcjbkhfopdgnaa: what Go functions come to, and that they do: walks, printed by a program of this session or typed by hand; no statement of the seat stands here. -/
import Derived.Test.YtdcjbkhfopdgnaaP0
import Derived.Test.YtdcjbkhfopdgnaaPF14
import Derived.Test.YtdcjbkhfopdgnaaPF33
import Derived.Test.YtdcjbkhfopdgnaaPF28
import Derived.Test.YtdcjbkhfopdgnaaPF14
import Derived.Test.YtdcjbkhfopdgnaaPF28
namespace Go.Proofs.Ytdcjbkhfopdgnaa.P
open Go.RowKit Go.Proofs.YtdcjbkhfopdgnaaW.PrintWords Go.Proofs.YtdcjbkhfopdgnaaW.PrintLast Go.Proofs.YtdcjbkhfopdgnaaW.PrintMore
attribute [local go_sem] max2_int min2_int max_two min_two max_three min_three max_four min_four   -- for this text's walks alone
set_option linter.unusedVariables false
set_option linter.unusedSimpArgs false


/-! ### pianolalaw05_lives: function 13 -/
-- IMPORT Derived.Test.YtdcjbkhfopdgnaaPF14
-- IMPORT Derived.Test.YtdcjbkhfopdgnaaPF28
def pianolalaw05_lives.f : Option Bool := some true
theorem dec6 : instr_Decode.f [2, 255, 1, 3, 0, 8] = some ([⟨2, -1⟩, ⟨1, 3⟩, ⟨8, 0⟩], 0, 3) := by kernel_rfl
theorem named_seek : instr_Named.f 200 (⟨#[115, 101, 101, 107]⟩ : ByteArray) = some (36, true) := by kernel_rfl
theorem size30 : instr_Size.f 200 30 = some 3 := by kernel_rfl
theorem C_bytes6 (w : World) (xs : List Int) (hn : xs.length ≤ 100) : Kd.C (Kd.int .u8) (w.alloc (.cells (encs (Value.int .u8) xs).toArray 5)) (some ⟨w.heap.size, 0, none⟩) xs.length xs := by
  have h := own_lit_of (enc := Value.int .u8) w w.heap.size 5 xs (Nat.le_refl _) (by omega)
  obtain ⟨A, c, he, hr⟩ := own_reads_of (d := (0 : Int)) h
  simp only [Value.slice.injEq] at he
  obtain ⟨rfl, _, _⟩ := he
  exact Kd.C_of_reads (h1 := fun _ => rfl) hr
set_option maxRecDepth 100000 in
set_option maxHeartbeats 4000000 in
theorem pianolalaw05_lives.calls (r : Bool) (w : World) (h : pianolalaw05_lives.f = some r) : Calls Try.prog 13 #[] w fun e w' => e = .returned (.bool r) ∧ Below w.heap.size w w' := by
  obtain rfl := Option.some.inj h
  clear h
  have HC := Aside0.mk (C_bytes6 w [2, 255, 1, 3, 0, 8] (by decide))
  have hnil : ∀ (b : Nat) (W : World), (binOp .neq 65 (.func (.func 56) #[] #[.pointer (some ⟨b, 0, none⟩)]) .nilFunc).run Try.prog W = .ok (.bool true) W := fun _ _ => by kernel_rfl
  go_enter Try.func13, Try.ntmps13
  go_wp2_with fail
  refine (instr_Decode.calls _ _ [2, 255, 1, 3, 0, 8] _ _ _ _ HC.out (by decide) dec6).mono ?_
  rintro e w1 ⟨v, rfl, hR, hB⟩
  obtain ⟨inner, hown⟩ := Kd.R_own hR
  obtain ⟨g, cap, hv⟩ := ownsRow_succ (k := 2) hown
  have hv : v = .slice (some ⟨g, 0, none⟩) 3 cap := hv
  subst hv
  obtain ⟨A, c, he, hc, hC⟩ := Kd.R_reads hR
  simp only [Value.slice.injEq] at he
  obtain ⟨rfl, _, rfl⟩ := he
  obtain ⟨ad, e0, a1, a2⟩ := at_T58 hC 0 (by decide) (by decide)
  obtain ⟨ad', e1, b1, b2⟩ := at_T58 hC 1 (by decide) (by decide)
  obtain rfl := Option.some.inj e0
  obtain rfl := Option.some.inj e1
  have a1 : w1.cell? ⟨g, 0, none⟩ = some (.int .i64 2) := a1
  have a2 : w1.cell? ⟨g, 1, none⟩ = some (.int .i64 (-1)) := a2
  have b1 : w1.cell? ⟨g, 2, none⟩ = some (.int .i64 1) := b1
  have b2 : w1.cell? ⟨g, 3, none⟩ = some (.int .i64 3) := b2
  have HB1 := Aside0.mk hB
  clear hB hR hC hown e0 e1 hc
  go_wp2_with fail
  refine (instr_Named.calls 200 _ _ _ _ named_seek).mono ?_
  rintro e w2 ⟨rfl, hd⟩
  obtain ⟨m, rfl⟩ := hd.out
  go_wp2_with fail
  refine (instr_Size.calls 200 30 3 _ size30).mono ?_
  rintro e w3 ⟨rfl, hd3⟩
  obtain ⟨m3, rfl⟩ := hd3.out
  go_wp2_with fail
  refine ((callsIn_wide (n := 1)).1 (all_in 1 none 0 0 _)).mono ?_
  rintro e w4 ⟨rfl, rfl⟩
  go_wp2_with fail
  go_ret
  have hB2 : Below w.heap.size w w1 := by
    have h := ((Below.refl w.heap.size w).alloc (Nat.le_refl _) (.cells (encs (Value.int .u8) [2, 255, 1, 3, 0, 8]).toArray 5)).trans (HB1.out.mono (by simp))
    exact h
  exact ⟨rfl, (pw_below_drewN hB2 (m + m3)).alloc (by have := hB2.size; exact this) _⟩

end Go.Proofs.Ytdcjbkhfopdgnaa.P
