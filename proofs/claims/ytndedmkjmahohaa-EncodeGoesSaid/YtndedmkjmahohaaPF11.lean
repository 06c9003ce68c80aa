/- Ytndedmkjmahohaa: what Go functions come to, and that they do: walks, printed by a program of this session or typed by hand; no statement of the seat stands here. -/
import Derived.Test.YtndedmkjmahohaaP0
import Derived.Test.YtndedmkjmahohaaPF34
import Derived.Test.YtndedmkjmahohaaPF36
import Derived.Test.YtndedmkjmahohaaA64G
namespace Go.Proofs.Ytndedmkjmahohaa.P
open Go.RowKit Go.Proofs.YtndedmkjmahohaaW.PrintWords Go.Proofs.YtndedmkjmahohaaW.PrintLast Go.Proofs.YtndedmkjmahohaaW.PrintMore
attribute [local go_sem] max2_int min2_int max_two min_two max_three min_three max_four min_four   -- for this text's walks alone
set_option linter.unusedVariables false
set_option linter.unusedSimpArgs false


/-! ### pianolalaw12_EncodeGoes: function 11 -/
-- IMPORT Derived.Test.YtndedmkjmahohaaA64G
open Go.Proofs.Ytndedmkjmahohaa.A64 in
theorem lives12g : pianolalaw12_lives.f = some true := by decide +kernel
def pianolalaw12_EncodeGoes.f (a0 a1 a2 : Int) : Option Bool := if (-9223372036854775808 ≤ a0 ∧ a0 < 9223372036854775808) ∧ (-9223372036854775808 ≤ a1 ∧ a1 < 9223372036854775808) ∧ (-9223372036854775808 ≤ a2 ∧ a2 < 9223372036854775808) then some true else none
set_option maxHeartbeats 4000000 in
set_option maxRecDepth 100000 in
theorem goes_A (n cond rd : Int) (w : World) (wn1 : -9223372036854775808 ≤ n) (wn2 : n < 9223372036854775808) (wc1 : -9223372036854775808 ≤ cond) (wc2 : cond < 9223372036854775808) (wr1 : -9223372036854775808 ≤ rd) (wr2 : rd < 9223372036854775808) (h0 : n < -33554432) :
    Calls Try.prog 11 #[.int .i64 n, .int .i64 cond, .int .i64 rd] w fun e w' => e = .returned (.bool true) ∧ Below w.heap.size w w' := by
  have E1 := Aside0.mk (show encode_Encode.f 23 0 0 0 0 n 0 0 = some (0, 120) from by rw [A64.enc23]; first | (rw [if_pos (by unfold A64.CBR; omega)]; rfl) | (rw [if_neg (by unfold A64.CBR; omega)]))
  have E2 := Aside0.mk (show encode_Encode.f 25 0 0 0 0 n 0 cond = some (0, 120) from by rw [A64.enc25]; first | (rw [if_pos (by unfold A64.CWH; omega)]; rfl) | (rw [if_neg (by unfold A64.CWH; omega)]))
  have E3 := Aside0.mk (show encode_Encode.f 26 rd 0 0 0 n 0 0 = some (0, 120) from by rw [A64.enc26]; first | (rw [if_pos (by unfold A64.CZR; omega)]; rfl) | (rw [if_neg (by unfold A64.CZR; omega)]))
  have HB := Aside0.mk (Below.refl w.heap.size w)
  go_enter Try.func11, Try.ntmps11
  go_wp2_with fail
  refine (encode_Encode.calls 23 0 0 0 0 n 0 0 _ _ _ E1.out).mono ?_
  rintro e w1 ⟨rfl, hb1⟩
  have HB1 := Aside0.mk hb1
  clear hb1
  go_wp2_with fail
  refine (encode_Encode.calls 25 0 0 0 0 n 0 cond _ _ _ E2.out).mono ?_
  rintro e w2 ⟨rfl, hb2⟩
  have HB2 := Aside0.mk hb2
  clear hb2
  go_wp2_with fail
  refine (encode_Encode.calls 26 rd 0 0 0 n 0 0 _ _ _ E3.out).mono ?_
  rintro e w3 ⟨rfl, hb3⟩
  have HB3 := Aside0.mk hb3
  clear hb3
  go_wp2_with fail
  refine (pianolalaw12_lives.calls true _ lives12g).mono ?_
  rintro e w4 ⟨rfl, hb4⟩
  have HB4 := Aside0.mk hb4
  clear hb4
  go_wp2_with fail
  go_ret
  exact ⟨rfl, below_step (below_step (below_step HB1.out HB2.out) HB3.out) HB4.out⟩
set_option maxHeartbeats 4000000 in
set_option maxRecDepth 100000 in
theorem goes_B (n cond rd : Int) (w : World) (wn1 : -9223372036854775808 ≤ n) (wn2 : n < 9223372036854775808) (wc1 : -9223372036854775808 ≤ cond) (wc2 : cond < 9223372036854775808) (wr1 : -9223372036854775808 ≤ rd) (wr2 : rd < 9223372036854775808) (h0 : 33554432 ≤ n) :
    Calls Try.prog 11 #[.int .i64 n, .int .i64 cond, .int .i64 rd] w fun e w' => e = .returned (.bool true) ∧ Below w.heap.size w w' := by
  have E1 := Aside0.mk (show encode_Encode.f 23 0 0 0 0 n 0 0 = some (0, 120) from by rw [A64.enc23]; first | (rw [if_pos (by unfold A64.CBR; omega)]; rfl) | (rw [if_neg (by unfold A64.CBR; omega)]))
  have E2 := Aside0.mk (show encode_Encode.f 25 0 0 0 0 n 0 cond = some (0, 120) from by rw [A64.enc25]; first | (rw [if_pos (by unfold A64.CWH; omega)]; rfl) | (rw [if_neg (by unfold A64.CWH; omega)]))
  have E3 := Aside0.mk (show encode_Encode.f 26 rd 0 0 0 n 0 0 = some (0, 120) from by rw [A64.enc26]; first | (rw [if_pos (by unfold A64.CZR; omega)]; rfl) | (rw [if_neg (by unfold A64.CZR; omega)]))
  have HB := Aside0.mk (Below.refl w.heap.size w)
  go_enter Try.func11, Try.ntmps11
  go_wp2_with fail
  refine (encode_Encode.calls 23 0 0 0 0 n 0 0 _ _ _ E1.out).mono ?_
  rintro e w1 ⟨rfl, hb1⟩
  have HB1 := Aside0.mk hb1
  clear hb1
  go_wp2_with fail
  refine (encode_Encode.calls 25 0 0 0 0 n 0 cond _ _ _ E2.out).mono ?_
  rintro e w2 ⟨rfl, hb2⟩
  have HB2 := Aside0.mk hb2
  clear hb2
  go_wp2_with fail
  refine (encode_Encode.calls 26 rd 0 0 0 n 0 0 _ _ _ E3.out).mono ?_
  rintro e w3 ⟨rfl, hb3⟩
  have HB3 := Aside0.mk hb3
  clear hb3
  go_wp2_with fail
  refine (pianolalaw12_lives.calls true _ lives12g).mono ?_
  rintro e w4 ⟨rfl, hb4⟩
  have HB4 := Aside0.mk hb4
  clear hb4
  go_wp2_with fail
  go_ret
  exact ⟨rfl, below_step (below_step (below_step HB1.out HB2.out) HB3.out) HB4.out⟩
set_option maxHeartbeats 4000000 in
set_option maxRecDepth 100000 in
theorem goes_C (n cond rd : Int) (w : World) (wn1 : -9223372036854775808 ≤ n) (wn2 : n < 9223372036854775808) (wc1 : -9223372036854775808 ≤ cond) (wc2 : cond < 9223372036854775808) (wr1 : -9223372036854775808 ≤ rd) (wr2 : rd < 9223372036854775808) (h0 : -33554432 ≤ n) (h1 : n < -262144) :
    Calls Try.prog 11 #[.int .i64 n, .int .i64 cond, .int .i64 rd] w fun e w' => e = .returned (.bool true) ∧ Below w.heap.size w w' := by
  have E1 := Aside0.mk (show encode_Encode.f 23 0 0 0 0 n 0 0 = some ((335544320 + n % 67108864), 0) from by rw [A64.enc23]; first | (rw [if_pos (by unfold A64.CBR; omega)]; rfl) | (rw [if_neg (by unfold A64.CBR; omega)]))
  have E2 := Aside0.mk (show encode_Encode.f 25 0 0 0 0 n 0 cond = some (0, 120) from by rw [A64.enc25]; first | (rw [if_pos (by unfold A64.CWH; omega)]; rfl) | (rw [if_neg (by unfold A64.CWH; omega)]))
  have E3 := Aside0.mk (show encode_Encode.f 26 rd 0 0 0 n 0 0 = some (0, 120) from by rw [A64.enc26]; first | (rw [if_pos (by unfold A64.CZR; omega)]; rfl) | (rw [if_neg (by unfold A64.CZR; omega)]))
  have HB := Aside0.mk (Below.refl w.heap.size w)
  have fa : ((335544320 + n % 67108864) == bits BinOp.or IntKind.u32 335544320 (bits BinOp.and IntKind.u32 (n % 4294967296) 67108863)) = true := by rw [beq_iff_eq]; exact (A64.go_a n).symm
  go_enter Try.func11, Try.ntmps11
  go_wp2_with fail
  refine (encode_Encode.calls 23 0 0 0 0 n 0 0 _ _ _ E1.out).mono ?_
  rintro e w1 ⟨rfl, hb1⟩
  have HB1 := Aside0.mk hb1
  clear hb1
  go_wp2_with fail
  refine (encode_Encode.calls 25 0 0 0 0 n 0 cond _ _ _ E2.out).mono ?_
  rintro e w2 ⟨rfl, hb2⟩
  have HB2 := Aside0.mk hb2
  clear hb2
  go_wp2_with fail
  refine (encode_Encode.calls 26 rd 0 0 0 n 0 0 _ _ _ E3.out).mono ?_
  rintro e w3 ⟨rfl, hb3⟩
  have HB3 := Aside0.mk hb3
  clear hb3
  go_wp2_with fail
  refine (pianolalaw12_lives.calls true _ lives12g).mono ?_
  rintro e w4 ⟨rfl, hb4⟩
  have HB4 := Aside0.mk hb4
  clear hb4
  go_wp2_with fail
  go_ret
  exact ⟨rfl, below_step (below_step (below_step HB1.out HB2.out) HB3.out) HB4.out⟩
set_option maxHeartbeats 4000000 in
set_option maxRecDepth 100000 in
theorem goes_D (n cond rd : Int) (w : World) (wn1 : -9223372036854775808 ≤ n) (wn2 : n < 9223372036854775808) (wc1 : -9223372036854775808 ≤ cond) (wc2 : cond < 9223372036854775808) (wr1 : -9223372036854775808 ≤ rd) (wr2 : rd < 9223372036854775808) (h0 : 262144 ≤ n) (h1 : n < 33554432) :
    Calls Try.prog 11 #[.int .i64 n, .int .i64 cond, .int .i64 rd] w fun e w' => e = .returned (.bool true) ∧ Below w.heap.size w w' := by
  have E1 := Aside0.mk (show encode_Encode.f 23 0 0 0 0 n 0 0 = some ((335544320 + n % 67108864), 0) from by rw [A64.enc23]; first | (rw [if_pos (by unfold A64.CBR; omega)]; rfl) | (rw [if_neg (by unfold A64.CBR; omega)]))
  have E2 := Aside0.mk (show encode_Encode.f 25 0 0 0 0 n 0 cond = some (0, 120) from by rw [A64.enc25]; first | (rw [if_pos (by unfold A64.CWH; omega)]; rfl) | (rw [if_neg (by unfold A64.CWH; omega)]))
  have E3 := Aside0.mk (show encode_Encode.f 26 rd 0 0 0 n 0 0 = some (0, 120) from by rw [A64.enc26]; first | (rw [if_pos (by unfold A64.CZR; omega)]; rfl) | (rw [if_neg (by unfold A64.CZR; omega)]))
  have HB := Aside0.mk (Below.refl w.heap.size w)
  have fa : ((335544320 + n % 67108864) == bits BinOp.or IntKind.u32 335544320 (bits BinOp.and IntKind.u32 (n % 4294967296) 67108863)) = true := by rw [beq_iff_eq]; exact (A64.go_a n).symm
  have fa2 : ((335544320 + n % 67108864) == bits BinOp.or IntKind.u32 335544320 (bits BinOp.and IntKind.u32 n 67108863)) = true := by rw [beq_iff_eq]; have h := A64.go_a n; rw [show n % 4294967296 = n from by omega] at h; exact h.symm
  go_enter Try.func11, Try.ntmps11
  go_wp2_with fail
  refine (encode_Encode.calls 23 0 0 0 0 n 0 0 _ _ _ E1.out).mono ?_
  rintro e w1 ⟨rfl, hb1⟩
  have HB1 := Aside0.mk hb1
  clear hb1
  go_wp2_with fail
  refine (encode_Encode.calls 25 0 0 0 0 n 0 cond _ _ _ E2.out).mono ?_
  rintro e w2 ⟨rfl, hb2⟩
  have HB2 := Aside0.mk hb2
  clear hb2
  go_wp2_with fail
  refine (encode_Encode.calls 26 rd 0 0 0 n 0 0 _ _ _ E3.out).mono ?_
  rintro e w3 ⟨rfl, hb3⟩
  have HB3 := Aside0.mk hb3
  clear hb3
  go_wp2_with fail
  refine (pianolalaw12_lives.calls true _ lives12g).mono ?_
  rintro e w4 ⟨rfl, hb4⟩
  have HB4 := Aside0.mk hb4
  clear hb4
  go_wp2_with fail
  go_ret
  exact ⟨rfl, below_step (below_step (below_step HB1.out HB2.out) HB3.out) HB4.out⟩
set_option maxHeartbeats 4000000 in
set_option maxRecDepth 100000 in
theorem goes_E00 (n cond rd : Int) (w : World) (wn1 : -9223372036854775808 ≤ n) (wn2 : n < 9223372036854775808) (wc1 : -9223372036854775808 ≤ cond) (wc2 : cond < 9223372036854775808) (wr1 : -9223372036854775808 ≤ rd) (wr2 : rd < 9223372036854775808) (h0 : -262144 ≤ n) (h1 : n < 262144) (h2 : cond < 0) (h3 : rd < 0) :
    Calls Try.prog 11 #[.int .i64 n, .int .i64 cond, .int .i64 rd] w fun e w' => e = .returned (.bool true) ∧ Below w.heap.size w w' := by
  have E1 := Aside0.mk (show encode_Encode.f 23 0 0 0 0 n 0 0 = some ((335544320 + n % 67108864), 0) from by rw [A64.enc23]; first | (rw [if_pos (by unfold A64.CBR; omega)]; rfl) | (rw [if_neg (by unfold A64.CBR; omega)]))
  have E2 := Aside0.mk (show encode_Encode.f 25 0 0 0 0 n 0 cond = some (0, 120) from by rw [A64.enc25]; first | (rw [if_pos (by unfold A64.CWH; omega)]; rfl) | (rw [if_neg (by unfold A64.CWH; omega)]))
  have E3 := Aside0.mk (show encode_Encode.f 26 rd 0 0 0 n 0 0 = some (0, 120) from by rw [A64.enc26]; first | (rw [if_pos (by unfold A64.CZR; omega)]; rfl) | (rw [if_neg (by unfold A64.CZR; omega)]))
  have HB := Aside0.mk (Below.refl w.heap.size w)
  have fa : ((335544320 + n % 67108864) == bits BinOp.or IntKind.u32 335544320 (bits BinOp.and IntKind.u32 (n % 4294967296) 67108863)) = true := by rw [beq_iff_eq]; exact (A64.go_a n).symm
  go_enter Try.func11, Try.ntmps11
  go_wp2_with fail
  refine (encode_Encode.calls 23 0 0 0 0 n 0 0 _ _ _ E1.out).mono ?_
  rintro e w1 ⟨rfl, hb1⟩
  have HB1 := Aside0.mk hb1
  clear hb1
  go_wp2_with fail
  refine (encode_Encode.calls 25 0 0 0 0 n 0 cond _ _ _ E2.out).mono ?_
  rintro e w2 ⟨rfl, hb2⟩
  have HB2 := Aside0.mk hb2
  clear hb2
  go_wp2_with fail
  refine (encode_Encode.calls 26 rd 0 0 0 n 0 0 _ _ _ E3.out).mono ?_
  rintro e w3 ⟨rfl, hb3⟩
  have HB3 := Aside0.mk hb3
  clear hb3
  go_wp2_with fail
  refine (pianolalaw12_lives.calls true _ lives12g).mono ?_
  rintro e w4 ⟨rfl, hb4⟩
  have HB4 := Aside0.mk hb4
  clear hb4
  go_wp2_with fail
  go_ret
  exact ⟨rfl, below_step (below_step (below_step HB1.out HB2.out) HB3.out) HB4.out⟩
set_option maxHeartbeats 4000000 in
set_option maxRecDepth 100000 in
theorem goes_E01 (n cond rd : Int) (w : World) (wn1 : -9223372036854775808 ≤ n) (wn2 : n < 9223372036854775808) (wc1 : -9223372036854775808 ≤ cond) (wc2 : cond < 9223372036854775808) (wr1 : -9223372036854775808 ≤ rd) (wr2 : rd < 9223372036854775808) (h0 : -262144 ≤ n) (h1 : n < 262144) (h2 : cond < 0) (h3 : 31 < rd) :
    Calls Try.prog 11 #[.int .i64 n, .int .i64 cond, .int .i64 rd] w fun e w' => e = .returned (.bool true) ∧ Below w.heap.size w w' := by
  have E1 := Aside0.mk (show encode_Encode.f 23 0 0 0 0 n 0 0 = some ((335544320 + n % 67108864), 0) from by rw [A64.enc23]; first | (rw [if_pos (by unfold A64.CBR; omega)]; rfl) | (rw [if_neg (by unfold A64.CBR; omega)]))
  have E2 := Aside0.mk (show encode_Encode.f 25 0 0 0 0 n 0 cond = some (0, 120) from by rw [A64.enc25]; first | (rw [if_pos (by unfold A64.CWH; omega)]; rfl) | (rw [if_neg (by unfold A64.CWH; omega)]))
  have E3 := Aside0.mk (show encode_Encode.f 26 rd 0 0 0 n 0 0 = some (0, 120) from by rw [A64.enc26]; first | (rw [if_pos (by unfold A64.CZR; omega)]; rfl) | (rw [if_neg (by unfold A64.CZR; omega)]))
  have HB := Aside0.mk (Below.refl w.heap.size w)
  have fa : ((335544320 + n % 67108864) == bits BinOp.or IntKind.u32 335544320 (bits BinOp.and IntKind.u32 (n % 4294967296) 67108863)) = true := by rw [beq_iff_eq]; exact (A64.go_a n).symm
  go_enter Try.func11, Try.ntmps11
  go_wp2_with fail
  refine (encode_Encode.calls 23 0 0 0 0 n 0 0 _ _ _ E1.out).mono ?_
  rintro e w1 ⟨rfl, hb1⟩
  have HB1 := Aside0.mk hb1
  clear hb1
  go_wp2_with fail
  refine (encode_Encode.calls 25 0 0 0 0 n 0 cond _ _ _ E2.out).mono ?_
  rintro e w2 ⟨rfl, hb2⟩
  have HB2 := Aside0.mk hb2
  clear hb2
  go_wp2_with fail
  refine (encode_Encode.calls 26 rd 0 0 0 n 0 0 _ _ _ E3.out).mono ?_
  rintro e w3 ⟨rfl, hb3⟩
  have HB3 := Aside0.mk hb3
  clear hb3
  go_wp2_with fail
  refine (pianolalaw12_lives.calls true _ lives12g).mono ?_
  rintro e w4 ⟨rfl, hb4⟩
  have HB4 := Aside0.mk hb4
  clear hb4
  go_wp2_with fail
  go_ret
  exact ⟨rfl, below_step (below_step (below_step HB1.out HB2.out) HB3.out) HB4.out⟩
set_option maxHeartbeats 4000000 in
set_option maxRecDepth 100000 in
theorem goes_E02 (n cond rd : Int) (w : World) (wn1 : -9223372036854775808 ≤ n) (wn2 : n < 9223372036854775808) (wc1 : -9223372036854775808 ≤ cond) (wc2 : cond < 9223372036854775808) (wr1 : -9223372036854775808 ≤ rd) (wr2 : rd < 9223372036854775808) (h0 : -262144 ≤ n) (h1 : n < 262144) (h2 : cond < 0) (h3 : 0 ≤ rd) (h4 : rd ≤ 31) :
    Calls Try.prog 11 #[.int .i64 n, .int .i64 cond, .int .i64 rd] w fun e w' => e = .returned (.bool true) ∧ Below w.heap.size w w' := by
  have E1 := Aside0.mk (show encode_Encode.f 23 0 0 0 0 n 0 0 = some ((335544320 + n % 67108864), 0) from by rw [A64.enc23]; first | (rw [if_pos (by unfold A64.CBR; omega)]; rfl) | (rw [if_neg (by unfold A64.CBR; omega)]))
  have E2 := Aside0.mk (show encode_Encode.f 25 0 0 0 0 n 0 cond = some (0, 120) from by rw [A64.enc25]; first | (rw [if_pos (by unfold A64.CWH; omega)]; rfl) | (rw [if_neg (by unfold A64.CWH; omega)]))
  have E3 := Aside0.mk (show encode_Encode.f 26 rd 0 0 0 n 0 0 = some ((3019898880 + rd + 32 * (n % 524288)), 0) from by rw [A64.enc26]; first | (rw [if_pos (by unfold A64.CZR; omega)]; rfl) | (rw [if_neg (by unfold A64.CZR; omega)]))
  have HB := Aside0.mk (Below.refl w.heap.size w)
  have fa : ((335544320 + n % 67108864) == bits BinOp.or IntKind.u32 335544320 (bits BinOp.and IntKind.u32 (n % 4294967296) 67108863)) = true := by rw [beq_iff_eq]; exact (A64.go_a n).symm
  have fc : ((3019898880 + rd + 32 * (n % 524288)) / 16777216 == 180) = true := by rw [beq_iff_eq]; omega
  have fd : (bits BinOp.and IntKind.u32 (3019898880 + rd + 32 * (n % 524288)) 31 == rd % 4294967296) = true := by rw [beq_iff_eq, A64.and_mask _ 31 5 (by decide) (by omega) (by omega) (by decide)]; omega
  have fd2 : (bits BinOp.and IntKind.u32 (3019898880 + rd + 32 * (n % 524288)) 31 == rd) = true := by rw [beq_iff_eq, A64.and_mask _ 31 5 (by decide) (by omega) (by omega) (by decide)]; omega
  go_enter Try.func11, Try.ntmps11
  go_wp2_with fail
  refine (encode_Encode.calls 23 0 0 0 0 n 0 0 _ _ _ E1.out).mono ?_
  rintro e w1 ⟨rfl, hb1⟩
  have HB1 := Aside0.mk hb1
  clear hb1
  go_wp2_with fail
  refine (encode_Encode.calls 25 0 0 0 0 n 0 cond _ _ _ E2.out).mono ?_
  rintro e w2 ⟨rfl, hb2⟩
  have HB2 := Aside0.mk hb2
  clear hb2
  go_wp2_with fail
  refine (encode_Encode.calls 26 rd 0 0 0 n 0 0 _ _ _ E3.out).mono ?_
  rintro e w3 ⟨rfl, hb3⟩
  have HB3 := Aside0.mk hb3
  clear hb3
  go_wp2_with fail
  refine (pianolalaw12_lives.calls true _ lives12g).mono ?_
  rintro e w4 ⟨rfl, hb4⟩
  have HB4 := Aside0.mk hb4
  clear hb4
  go_wp2_with fail
  go_ret
  exact ⟨rfl, below_step (below_step (below_step HB1.out HB2.out) HB3.out) HB4.out⟩
set_option maxHeartbeats 4000000 in
set_option maxRecDepth 100000 in
theorem goes_E10 (n cond rd : Int) (w : World) (wn1 : -9223372036854775808 ≤ n) (wn2 : n < 9223372036854775808) (wc1 : -9223372036854775808 ≤ cond) (wc2 : cond < 9223372036854775808) (wr1 : -9223372036854775808 ≤ rd) (wr2 : rd < 9223372036854775808) (h0 : -262144 ≤ n) (h1 : n < 262144) (h2 : 15 < cond) (h3 : rd < 0) :
    Calls Try.prog 11 #[.int .i64 n, .int .i64 cond, .int .i64 rd] w fun e w' => e = .returned (.bool true) ∧ Below w.heap.size w w' := by
  have E1 := Aside0.mk (show encode_Encode.f 23 0 0 0 0 n 0 0 = some ((335544320 + n % 67108864), 0) from by rw [A64.enc23]; first | (rw [if_pos (by unfold A64.CBR; omega)]; rfl) | (rw [if_neg (by unfold A64.CBR; omega)]))
  have E2 := Aside0.mk (show encode_Encode.f 25 0 0 0 0 n 0 cond = some (0, 120) from by rw [A64.enc25]; first | (rw [if_pos (by unfold A64.CWH; omega)]; rfl) | (rw [if_neg (by unfold A64.CWH; omega)]))
  have E3 := Aside0.mk (show encode_Encode.f 26 rd 0 0 0 n 0 0 = some (0, 120) from by rw [A64.enc26]; first | (rw [if_pos (by unfold A64.CZR; omega)]; rfl) | (rw [if_neg (by unfold A64.CZR; omega)]))
  have HB := Aside0.mk (Below.refl w.heap.size w)
  have fa : ((335544320 + n % 67108864) == bits BinOp.or IntKind.u32 335544320 (bits BinOp.and IntKind.u32 (n % 4294967296) 67108863)) = true := by rw [beq_iff_eq]; exact (A64.go_a n).symm
  go_enter Try.func11, Try.ntmps11
  go_wp2_with fail
  refine (encode_Encode.calls 23 0 0 0 0 n 0 0 _ _ _ E1.out).mono ?_
  rintro e w1 ⟨rfl, hb1⟩
  have HB1 := Aside0.mk hb1
  clear hb1
  go_wp2_with fail
  refine (encode_Encode.calls 25 0 0 0 0 n 0 cond _ _ _ E2.out).mono ?_
  rintro e w2 ⟨rfl, hb2⟩
  have HB2 := Aside0.mk hb2
  clear hb2
  go_wp2_with fail
  refine (encode_Encode.calls 26 rd 0 0 0 n 0 0 _ _ _ E3.out).mono ?_
  rintro e w3 ⟨rfl, hb3⟩
  have HB3 := Aside0.mk hb3
  clear hb3
  go_wp2_with fail
  refine (pianolalaw12_lives.calls true _ lives12g).mono ?_
  rintro e w4 ⟨rfl, hb4⟩
  have HB4 := Aside0.mk hb4
  clear hb4
  go_wp2_with fail
  go_ret
  exact ⟨rfl, below_step (below_step (below_step HB1.out HB2.out) HB3.out) HB4.out⟩
set_option maxHeartbeats 4000000 in
set_option maxRecDepth 100000 in
theorem goes_E11 (n cond rd : Int) (w : World) (wn1 : -9223372036854775808 ≤ n) (wn2 : n < 9223372036854775808) (wc1 : -9223372036854775808 ≤ cond) (wc2 : cond < 9223372036854775808) (wr1 : -9223372036854775808 ≤ rd) (wr2 : rd < 9223372036854775808) (h0 : -262144 ≤ n) (h1 : n < 262144) (h2 : 15 < cond) (h3 : 31 < rd) :
    Calls Try.prog 11 #[.int .i64 n, .int .i64 cond, .int .i64 rd] w fun e w' => e = .returned (.bool true) ∧ Below w.heap.size w w' := by
  have E1 := Aside0.mk (show encode_Encode.f 23 0 0 0 0 n 0 0 = some ((335544320 + n % 67108864), 0) from by rw [A64.enc23]; first | (rw [if_pos (by unfold A64.CBR; omega)]; rfl) | (rw [if_neg (by unfold A64.CBR; omega)]))
  have E2 := Aside0.mk (show encode_Encode.f 25 0 0 0 0 n 0 cond = some (0, 120) from by rw [A64.enc25]; first | (rw [if_pos (by unfold A64.CWH; omega)]; rfl) | (rw [if_neg (by unfold A64.CWH; omega)]))
  have E3 := Aside0.mk (show encode_Encode.f 26 rd 0 0 0 n 0 0 = some (0, 120) from by rw [A64.enc26]; first | (rw [if_pos (by unfold A64.CZR; omega)]; rfl) | (rw [if_neg (by unfold A64.CZR; omega)]))
  have HB := Aside0.mk (Below.refl w.heap.size w)
  have fa : ((335544320 + n % 67108864) == bits BinOp.or IntKind.u32 335544320 (bits BinOp.and IntKind.u32 (n % 4294967296) 67108863)) = true := by rw [beq_iff_eq]; exact (A64.go_a n).symm
  go_enter Try.func11, Try.ntmps11
  go_wp2_with fail
  refine (encode_Encode.calls 23 0 0 0 0 n 0 0 _ _ _ E1.out).mono ?_
  rintro e w1 ⟨rfl, hb1⟩
  have HB1 := Aside0.mk hb1
  clear hb1
  go_wp2_with fail
  refine (encode_Encode.calls 25 0 0 0 0 n 0 cond _ _ _ E2.out).mono ?_
  rintro e w2 ⟨rfl, hb2⟩
  have HB2 := Aside0.mk hb2
  clear hb2
  go_wp2_with fail
  refine (encode_Encode.calls 26 rd 0 0 0 n 0 0 _ _ _ E3.out).mono ?_
  rintro e w3 ⟨rfl, hb3⟩
  have HB3 := Aside0.mk hb3
  clear hb3
  go_wp2_with fail
  refine (pianolalaw12_lives.calls true _ lives12g).mono ?_
  rintro e w4 ⟨rfl, hb4⟩
  have HB4 := Aside0.mk hb4
  clear hb4
  go_wp2_with fail
  go_ret
  exact ⟨rfl, below_step (below_step (below_step HB1.out HB2.out) HB3.out) HB4.out⟩
set_option maxHeartbeats 4000000 in
set_option maxRecDepth 100000 in
theorem goes_E12 (n cond rd : Int) (w : World) (wn1 : -9223372036854775808 ≤ n) (wn2 : n < 9223372036854775808) (wc1 : -9223372036854775808 ≤ cond) (wc2 : cond < 9223372036854775808) (wr1 : -9223372036854775808 ≤ rd) (wr2 : rd < 9223372036854775808) (h0 : -262144 ≤ n) (h1 : n < 262144) (h2 : 15 < cond) (h3 : 0 ≤ rd) (h4 : rd ≤ 31) :
    Calls Try.prog 11 #[.int .i64 n, .int .i64 cond, .int .i64 rd] w fun e w' => e = .returned (.bool true) ∧ Below w.heap.size w w' := by
  have E1 := Aside0.mk (show encode_Encode.f 23 0 0 0 0 n 0 0 = some ((335544320 + n % 67108864), 0) from by rw [A64.enc23]; first | (rw [if_pos (by unfold A64.CBR; omega)]; rfl) | (rw [if_neg (by unfold A64.CBR; omega)]))
  have E2 := Aside0.mk (show encode_Encode.f 25 0 0 0 0 n 0 cond = some (0, 120) from by rw [A64.enc25]; first | (rw [if_pos (by unfold A64.CWH; omega)]; rfl) | (rw [if_neg (by unfold A64.CWH; omega)]))
  have E3 := Aside0.mk (show encode_Encode.f 26 rd 0 0 0 n 0 0 = some ((3019898880 + rd + 32 * (n % 524288)), 0) from by rw [A64.enc26]; first | (rw [if_pos (by unfold A64.CZR; omega)]; rfl) | (rw [if_neg (by unfold A64.CZR; omega)]))
  have HB := Aside0.mk (Below.refl w.heap.size w)
  have fa : ((335544320 + n % 67108864) == bits BinOp.or IntKind.u32 335544320 (bits BinOp.and IntKind.u32 (n % 4294967296) 67108863)) = true := by rw [beq_iff_eq]; exact (A64.go_a n).symm
  have fc : ((3019898880 + rd + 32 * (n % 524288)) / 16777216 == 180) = true := by rw [beq_iff_eq]; omega
  have fd : (bits BinOp.and IntKind.u32 (3019898880 + rd + 32 * (n % 524288)) 31 == rd % 4294967296) = true := by rw [beq_iff_eq, A64.and_mask _ 31 5 (by decide) (by omega) (by omega) (by decide)]; omega
  have fd2 : (bits BinOp.and IntKind.u32 (3019898880 + rd + 32 * (n % 524288)) 31 == rd) = true := by rw [beq_iff_eq, A64.and_mask _ 31 5 (by decide) (by omega) (by omega) (by decide)]; omega
  go_enter Try.func11, Try.ntmps11
  go_wp2_with fail
  refine (encode_Encode.calls 23 0 0 0 0 n 0 0 _ _ _ E1.out).mono ?_
  rintro e w1 ⟨rfl, hb1⟩
  have HB1 := Aside0.mk hb1
  clear hb1
  go_wp2_with fail
  refine (encode_Encode.calls 25 0 0 0 0 n 0 cond _ _ _ E2.out).mono ?_
  rintro e w2 ⟨rfl, hb2⟩
  have HB2 := Aside0.mk hb2
  clear hb2
  go_wp2_with fail
  refine (encode_Encode.calls 26 rd 0 0 0 n 0 0 _ _ _ E3.out).mono ?_
  rintro e w3 ⟨rfl, hb3⟩
  have HB3 := Aside0.mk hb3
  clear hb3
  go_wp2_with fail
  refine (pianolalaw12_lives.calls true _ lives12g).mono ?_
  rintro e w4 ⟨rfl, hb4⟩
  have HB4 := Aside0.mk hb4
  clear hb4
  go_wp2_with fail
  go_ret
  exact ⟨rfl, below_step (below_step (below_step HB1.out HB2.out) HB3.out) HB4.out⟩
set_option maxHeartbeats 4000000 in
set_option maxRecDepth 100000 in
theorem goes_E20 (n cond rd : Int) (w : World) (wn1 : -9223372036854775808 ≤ n) (wn2 : n < 9223372036854775808) (wc1 : -9223372036854775808 ≤ cond) (wc2 : cond < 9223372036854775808) (wr1 : -9223372036854775808 ≤ rd) (wr2 : rd < 9223372036854775808) (h0 : -262144 ≤ n) (h1 : n < 262144) (h2 : 0 ≤ cond) (h3 : cond ≤ 15) (h4 : rd < 0) :
    Calls Try.prog 11 #[.int .i64 n, .int .i64 cond, .int .i64 rd] w fun e w' => e = .returned (.bool true) ∧ Below w.heap.size w w' := by
  have E1 := Aside0.mk (show encode_Encode.f 23 0 0 0 0 n 0 0 = some ((335544320 + n % 67108864), 0) from by rw [A64.enc23]; first | (rw [if_pos (by unfold A64.CBR; omega)]; rfl) | (rw [if_neg (by unfold A64.CBR; omega)]))
  have E2 := Aside0.mk (show encode_Encode.f 25 0 0 0 0 n 0 cond = some ((1409286144 + cond + 32 * (n % 524288)), 0) from by rw [A64.enc25]; first | (rw [if_pos (by unfold A64.CWH; omega)]; rfl) | (rw [if_neg (by unfold A64.CWH; omega)]))
  have E3 := Aside0.mk (show encode_Encode.f 26 rd 0 0 0 n 0 0 = some (0, 120) from by rw [A64.enc26]; first | (rw [if_pos (by unfold A64.CZR; omega)]; rfl) | (rw [if_neg (by unfold A64.CZR; omega)]))
  have HB := Aside0.mk (Below.refl w.heap.size w)
  have fa : ((335544320 + n % 67108864) == bits BinOp.or IntKind.u32 335544320 (bits BinOp.and IntKind.u32 (n % 4294967296) 67108863)) = true := by rw [beq_iff_eq]; exact (A64.go_a n).symm
  have fb2 : ((1409286144 + cond + 32 * (n % 524288)) == bits BinOp.or IntKind.u32 (bits BinOp.or IntKind.u32 1409286144 (bits BinOp.and IntKind.u32 (n % 4294967296 * 8192 % 4294967296 / 8192 * 32) 16777184)) cond) = true := by rw [beq_iff_eq]; have h := A64.go_b n cond (by omega) (by omega); rw [show cond % 4294967296 = cond from by omega] at h; exact h.symm
  have fb : ((1409286144 + cond + 32 * (n % 524288)) == bits BinOp.or IntKind.u32 (bits BinOp.or IntKind.u32 1409286144 (bits BinOp.and IntKind.u32 (n % 4294967296 * 8192 % 4294967296 / 8192 * 32) 16777184)) (cond % 4294967296)) = true := by rw [beq_iff_eq]; exact (A64.go_b n cond (by omega) (by omega)).symm
  go_enter Try.func11, Try.ntmps11
  go_wp2_with fail
  refine (encode_Encode.calls 23 0 0 0 0 n 0 0 _ _ _ E1.out).mono ?_
  rintro e w1 ⟨rfl, hb1⟩
  have HB1 := Aside0.mk hb1
  clear hb1
  go_wp2_with fail
  refine (encode_Encode.calls 25 0 0 0 0 n 0 cond _ _ _ E2.out).mono ?_
  rintro e w2 ⟨rfl, hb2⟩
  have HB2 := Aside0.mk hb2
  clear hb2
  go_wp2_with fail
  refine (encode_Encode.calls 26 rd 0 0 0 n 0 0 _ _ _ E3.out).mono ?_
  rintro e w3 ⟨rfl, hb3⟩
  have HB3 := Aside0.mk hb3
  clear hb3
  go_wp2_with fail
  refine (pianolalaw12_lives.calls true _ lives12g).mono ?_
  rintro e w4 ⟨rfl, hb4⟩
  have HB4 := Aside0.mk hb4
  clear hb4
  go_wp2_with fail
  go_ret
  exact ⟨rfl, below_step (below_step (below_step HB1.out HB2.out) HB3.out) HB4.out⟩
set_option maxHeartbeats 4000000 in
set_option maxRecDepth 100000 in
theorem goes_E21 (n cond rd : Int) (w : World) (wn1 : -9223372036854775808 ≤ n) (wn2 : n < 9223372036854775808) (wc1 : -9223372036854775808 ≤ cond) (wc2 : cond < 9223372036854775808) (wr1 : -9223372036854775808 ≤ rd) (wr2 : rd < 9223372036854775808) (h0 : -262144 ≤ n) (h1 : n < 262144) (h2 : 0 ≤ cond) (h3 : cond ≤ 15) (h4 : 31 < rd) :
    Calls Try.prog 11 #[.int .i64 n, .int .i64 cond, .int .i64 rd] w fun e w' => e = .returned (.bool true) ∧ Below w.heap.size w w' := by
  have E1 := Aside0.mk (show encode_Encode.f 23 0 0 0 0 n 0 0 = some ((335544320 + n % 67108864), 0) from by rw [A64.enc23]; first | (rw [if_pos (by unfold A64.CBR; omega)]; rfl) | (rw [if_neg (by unfold A64.CBR; omega)]))
  have E2 := Aside0.mk (show encode_Encode.f 25 0 0 0 0 n 0 cond = some ((1409286144 + cond + 32 * (n % 524288)), 0) from by rw [A64.enc25]; first | (rw [if_pos (by unfold A64.CWH; omega)]; rfl) | (rw [if_neg (by unfold A64.CWH; omega)]))
  have E3 := Aside0.mk (show encode_Encode.f 26 rd 0 0 0 n 0 0 = some (0, 120) from by rw [A64.enc26]; first | (rw [if_pos (by unfold A64.CZR; omega)]; rfl) | (rw [if_neg (by unfold A64.CZR; omega)]))
  have HB := Aside0.mk (Below.refl w.heap.size w)
  have fa : ((335544320 + n % 67108864) == bits BinOp.or IntKind.u32 335544320 (bits BinOp.and IntKind.u32 (n % 4294967296) 67108863)) = true := by rw [beq_iff_eq]; exact (A64.go_a n).symm
  have fb2 : ((1409286144 + cond + 32 * (n % 524288)) == bits BinOp.or IntKind.u32 (bits BinOp.or IntKind.u32 1409286144 (bits BinOp.and IntKind.u32 (n % 4294967296 * 8192 % 4294967296 / 8192 * 32) 16777184)) cond) = true := by rw [beq_iff_eq]; have h := A64.go_b n cond (by omega) (by omega); rw [show cond % 4294967296 = cond from by omega] at h; exact h.symm
  have fb : ((1409286144 + cond + 32 * (n % 524288)) == bits BinOp.or IntKind.u32 (bits BinOp.or IntKind.u32 1409286144 (bits BinOp.and IntKind.u32 (n % 4294967296 * 8192 % 4294967296 / 8192 * 32) 16777184)) (cond % 4294967296)) = true := by rw [beq_iff_eq]; exact (A64.go_b n cond (by omega) (by omega)).symm
  go_enter Try.func11, Try.ntmps11
  go_wp2_with fail
  refine (encode_Encode.calls 23 0 0 0 0 n 0 0 _ _ _ E1.out).mono ?_
  rintro e w1 ⟨rfl, hb1⟩
  have HB1 := Aside0.mk hb1
  clear hb1
  go_wp2_with fail
  refine (encode_Encode.calls 25 0 0 0 0 n 0 cond _ _ _ E2.out).mono ?_
  rintro e w2 ⟨rfl, hb2⟩
  have HB2 := Aside0.mk hb2
  clear hb2
  go_wp2_with fail
  refine (encode_Encode.calls 26 rd 0 0 0 n 0 0 _ _ _ E3.out).mono ?_
  rintro e w3 ⟨rfl, hb3⟩
  have HB3 := Aside0.mk hb3
  clear hb3
  go_wp2_with fail
  refine (pianolalaw12_lives.calls true _ lives12g).mono ?_
  rintro e w4 ⟨rfl, hb4⟩
  have HB4 := Aside0.mk hb4
  clear hb4
  go_wp2_with fail
  go_ret
  exact ⟨rfl, below_step (below_step (below_step HB1.out HB2.out) HB3.out) HB4.out⟩
set_option maxHeartbeats 4000000 in
set_option maxRecDepth 100000 in
theorem goes_E22 (n cond rd : Int) (w : World) (wn1 : -9223372036854775808 ≤ n) (wn2 : n < 9223372036854775808) (wc1 : -9223372036854775808 ≤ cond) (wc2 : cond < 9223372036854775808) (wr1 : -9223372036854775808 ≤ rd) (wr2 : rd < 9223372036854775808) (h0 : -262144 ≤ n) (h1 : n < 262144) (h2 : 0 ≤ cond) (h3 : cond ≤ 15) (h4 : 0 ≤ rd) (h5 : rd ≤ 31) :
    Calls Try.prog 11 #[.int .i64 n, .int .i64 cond, .int .i64 rd] w fun e w' => e = .returned (.bool true) ∧ Below w.heap.size w w' := by
  have E1 := Aside0.mk (show encode_Encode.f 23 0 0 0 0 n 0 0 = some ((335544320 + n % 67108864), 0) from by rw [A64.enc23]; first | (rw [if_pos (by unfold A64.CBR; omega)]; rfl) | (rw [if_neg (by unfold A64.CBR; omega)]))
  have E2 := Aside0.mk (show encode_Encode.f 25 0 0 0 0 n 0 cond = some ((1409286144 + cond + 32 * (n % 524288)), 0) from by rw [A64.enc25]; first | (rw [if_pos (by unfold A64.CWH; omega)]; rfl) | (rw [if_neg (by unfold A64.CWH; omega)]))
  have E3 := Aside0.mk (show encode_Encode.f 26 rd 0 0 0 n 0 0 = some ((3019898880 + rd + 32 * (n % 524288)), 0) from by rw [A64.enc26]; first | (rw [if_pos (by unfold A64.CZR; omega)]; rfl) | (rw [if_neg (by unfold A64.CZR; omega)]))
  have HB := Aside0.mk (Below.refl w.heap.size w)
  have fa : ((335544320 + n % 67108864) == bits BinOp.or IntKind.u32 335544320 (bits BinOp.and IntKind.u32 (n % 4294967296) 67108863)) = true := by rw [beq_iff_eq]; exact (A64.go_a n).symm
  have fb2 : ((1409286144 + cond + 32 * (n % 524288)) == bits BinOp.or IntKind.u32 (bits BinOp.or IntKind.u32 1409286144 (bits BinOp.and IntKind.u32 (n % 4294967296 * 8192 % 4294967296 / 8192 * 32) 16777184)) cond) = true := by rw [beq_iff_eq]; have h := A64.go_b n cond (by omega) (by omega); rw [show cond % 4294967296 = cond from by omega] at h; exact h.symm
  have fb : ((1409286144 + cond + 32 * (n % 524288)) == bits BinOp.or IntKind.u32 (bits BinOp.or IntKind.u32 1409286144 (bits BinOp.and IntKind.u32 (n % 4294967296 * 8192 % 4294967296 / 8192 * 32) 16777184)) (cond % 4294967296)) = true := by rw [beq_iff_eq]; exact (A64.go_b n cond (by omega) (by omega)).symm
  have fc : ((3019898880 + rd + 32 * (n % 524288)) / 16777216 == 180) = true := by rw [beq_iff_eq]; omega
  have fd : (bits BinOp.and IntKind.u32 (3019898880 + rd + 32 * (n % 524288)) 31 == rd % 4294967296) = true := by rw [beq_iff_eq, A64.and_mask _ 31 5 (by decide) (by omega) (by omega) (by decide)]; omega
  have fd2 : (bits BinOp.and IntKind.u32 (3019898880 + rd + 32 * (n % 524288)) 31 == rd) = true := by rw [beq_iff_eq, A64.and_mask _ 31 5 (by decide) (by omega) (by omega) (by decide)]; omega
  go_enter Try.func11, Try.ntmps11
  go_wp2_with fail
  refine (encode_Encode.calls 23 0 0 0 0 n 0 0 _ _ _ E1.out).mono ?_
  rintro e w1 ⟨rfl, hb1⟩
  have HB1 := Aside0.mk hb1
  clear hb1
  go_wp2_with fail
  refine (encode_Encode.calls 25 0 0 0 0 n 0 cond _ _ _ E2.out).mono ?_
  rintro e w2 ⟨rfl, hb2⟩
  have HB2 := Aside0.mk hb2
  clear hb2
  go_wp2_with fail
  refine (encode_Encode.calls 26 rd 0 0 0 n 0 0 _ _ _ E3.out).mono ?_
  rintro e w3 ⟨rfl, hb3⟩
  have HB3 := Aside0.mk hb3
  clear hb3
  go_wp2_with fail
  refine (pianolalaw12_lives.calls true _ lives12g).mono ?_
  rintro e w4 ⟨rfl, hb4⟩
  have HB4 := Aside0.mk hb4
  clear hb4
  go_wp2_with fail
  go_ret
  exact ⟨rfl, below_step (below_step (below_step HB1.out HB2.out) HB3.out) HB4.out⟩
theorem pianolalaw12_EncodeGoes.calls (a0 a1 a2 : Int) (r : Bool) (w : World) (h : pianolalaw12_EncodeGoes.f a0 a1 a2 = some r) : Calls Try.prog 11 #[.int .i64 a0, .int .i64 a1, .int .i64 a2] w fun e w' => e = .returned (.bool r) ∧ Below w.heap.size w w' := by
  unfold pianolalaw12_EncodeGoes.f at h
  by_cases hw : (-9223372036854775808 ≤ a0 ∧ a0 < 9223372036854775808) ∧ (-9223372036854775808 ≤ a1 ∧ a1 < 9223372036854775808) ∧ (-9223372036854775808 ≤ a2 ∧ a2 < 9223372036854775808)
  · rw [if_pos hw] at h
    obtain rfl := Option.some.inj h
    obtain ⟨⟨p1, p2⟩, ⟨p3, p4⟩, p5, p6⟩ := hw
    by_cases q1 : a0 < -33554432
    · exact goes_A a0 a1 a2 w p1 p2 p3 p4 p5 p6 q1
    by_cases q2 : 33554432 ≤ a0
    · exact goes_B a0 a1 a2 w p1 p2 p3 p4 p5 p6 q2
    by_cases q3 : a0 < -262144
    · exact goes_C a0 a1 a2 w p1 p2 p3 p4 p5 p6 (by omega) q3
    by_cases q4 : 262144 ≤ a0
    · exact goes_D a0 a1 a2 w p1 p2 p3 p4 p5 p6 q4 (by omega)
    by_cases c0 : a1 < 0
    · by_cases r0 : a2 < 0
      · exact goes_E00 a0 a1 a2 w p1 p2 p3 p4 p5 p6 (by omega) (by omega) c0 r0
      by_cases r1 : 31 < a2
      · exact goes_E01 a0 a1 a2 w p1 p2 p3 p4 p5 p6 (by omega) (by omega) c0 r1
      exact goes_E02 a0 a1 a2 w p1 p2 p3 p4 p5 p6 (by omega) (by omega) c0 (by omega) (by omega)
    by_cases c1 : 15 < a1
    · by_cases r0 : a2 < 0
      · exact goes_E10 a0 a1 a2 w p1 p2 p3 p4 p5 p6 (by omega) (by omega) c1 r0
      by_cases r1 : 31 < a2
      · exact goes_E11 a0 a1 a2 w p1 p2 p3 p4 p5 p6 (by omega) (by omega) c1 r1
      exact goes_E12 a0 a1 a2 w p1 p2 p3 p4 p5 p6 (by omega) (by omega) c1 (by omega) (by omega)
    by_cases r0 : a2 < 0
    · exact goes_E20 a0 a1 a2 w p1 p2 p3 p4 p5 p6 (by omega) (by omega) (by omega) (by omega) r0
    by_cases r1 : 31 < a2
    · exact goes_E21 a0 a1 a2 w p1 p2 p3 p4 p5 p6 (by omega) (by omega) (by omega) (by omega) r1
    exact goes_E22 a0 a1 a2 w p1 p2 p3 p4 p5 p6 (by omega) (by omega) (by omega) (by omega) (by omega) (by omega)
  · rw [if_neg hw] at h
    cases h

end Go.Proofs.Ytndedmkjmahohaa.P
