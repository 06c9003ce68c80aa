/- Ytdcjbkhfopdgnaa: what Go functions come to, and that they do: walks, printed by a program of this session or typed by hand; no statement of the seat stands here. -/
import Derived.Test.YtdcjbkhfopdgnaaP0
import Derived.Test.YtdcjbkhfopdgnaaPE1
import Derived.Test.YtdcjbkhfopdgnaaPF33
import Derived.Test.YtdcjbkhfopdgnaaPF28
import Derived.Test.YtdcjbkhfopdgnaaPF13
import Derived.Test.YtdcjbkhfopdgnaaPF25
import Derived.BigQuiet
import Derived.Stop.RegionWithIn
import Derived.Test.YtdcjbkhfopdgnaaCalm
import Derived.Test.YtdcjbkhfopdgnaaInstrZ
import Derived.Test.YtdcjbkhfopdgnaaPE1
import Derived.Test.YtdcjbkhfopdgnaaPF13
namespace Go.Proofs.Ytdcjbkhfopdgnaa.P
open Go.RowKit Go.Proofs.YtdcjbkhfopdgnaaW.PrintWords Go.Proofs.YtdcjbkhfopdgnaaW.PrintLast Go.Proofs.YtdcjbkhfopdgnaaW.PrintMore
attribute [local go_sem] max2_int min2_int max_two min_two max_three min_three max_four min_four   -- for this text's walks alone
set_option linter.unusedVariables false
set_option linter.unusedSimpArgs false


/-! ### pianolalaw05_InstrSizes: function 11 -/
-- IMPORT Derived.Test.YtdcjbkhfopdgnaaInstrZ
-- IMPORT Derived.Test.YtdcjbkhfopdgnaaPF13
-- IMPORT Derived.Test.YtdcjbkhfopdgnaaCalm
-- IMPORT Derived.Test.YtdcjbkhfopdgnaaPE1
-- IMPORT Derived.Stop.RegionWithIn
-- IMPORT Derived.BigQuiet
open Pl
theorem eqI (a b p q : Int) (W : World) : (Op.equalIn 10000 58 (.agg #[.int .i64 a, .int .i64 b]) (.agg #[.int .i64 p, .int .i64 q])).run Try.prog W = .ok (decide (a = p ∧ b = q)) W := by
  rw [show (10000 : Nat) = 9998 + 2 from rfl, eqA58 9998]
  congr 1
  by_cases h1 : a = p <;> by_cases h2 : b = q <;> simp [h1, h2]
attribute [local go_sem] Oper.semAt_some
def pianolalaw05_InstrSizes.f (l0 : List S58) : Option Bool := if l0.length < 4611686018427387904 then some true else none
def SizP (w : World) (e : Ending) (w' : World) : Prop := e = .returned (.bool true) ∧ Below w.heap.size w w'
set_option maxRecDepth 100000 in
set_option maxHeartbeats 4000000 in
theorem sizes_walk (A0 : Option Addr) (c0 : Nat) (l0 : List S58) (w : World) (hr0 : Kd.C k58 w A0 l0.length l0) (hc0 : l0.length ≤ c0) :
    Calls Try.prog 11 #[.slice A0 l0.length c0] w (SizP w) := by
  have HR0 := Aside0.mk hr0
  have hnil : ∀ (b : Nat) (W : World), (binOp .eql 65 (.func (.func 56) #[] #[.pointer (some ⟨b, 0, none⟩)]) .nilFunc).run Try.prog W = .ok (.bool false) W := fun _ _ => by kernel_rfl
  obtain ⟨⟨r1, r2, r3⟩, henc⟩ : ∃ y, encR l0 = y := ⟨_, rfl⟩
  have hef : instr_Encode.f l0 = some (r1, r2, r3) := by rw [enc_f, henc]
  have HEF := Aside0.mk hef
  have HEN := Aside0.mk henc
  clear hr0 hef henc
  refine (callsIn_wide (n := 4)).1 ?_
  refine callsIn_of_wp_marks Try.func11 rfl trivial ?_ rfl
  simp only [Try.ntmps11, List.size_toArray, List.length_cons, List.length_nil, Nat.reduceAdd, Nat.reduceSub, Array.replicate_succ, Array.replicate_zero, List.push_toArray, List.append_toArray, List.nil_append, List.cons_append]
  refine wpIn_wide.2 ?_
  go_upto_region 1 with (fail)
  obtain ⟨W0, hW0⟩ : ∃ W0, (w.alloc (.cells #[.slice A0 l0.length c0] 49)).alloc (.cells #[.bool false] 4) = W0 := ⟨_, rfl⟩
  have b1 : W0.heap[w.heap.size]? = some (.cells #[.slice A0 l0.length c0] 49 (0, 0)) := by rw [← hW0]; exact blk_alloc (blk_new w _) _
  have b2 : W0.heap[w.heap.size + 1]? = some (.cells #[.bool false] 4 (0, 0)) := by
    rw [← hW0]
    have := blk_new (w.alloc (.cells #[.slice A0 l0.length c0] 49)) (.cells #[.bool false] 4)
    rw [World.size_alloc] at this
    exact this
  have hz0 : W0.heap.size = w.heap.size + 2 := by rw [← hW0, World.size_alloc, World.size_alloc]
  have hb0 : Below w.heap.size w W0 := by rw [← hW0]; exact below_alloc (below_alloc (Below.refl _ w) _) _
  rw [hW0]
  have k1 : W0.cell? ⟨w.heap.size, 0, none⟩ = some (.slice A0 l0.length c0) := blk_cell b1 0
  have B1 := Aside0.mk b1
  have B2 := Aside0.mk b2
  have HZ := Aside0.mk hz0
  have HB := Aside0.mk hb0
  clear b1 b2 hz0 hb0 hW0
  by_cases h2 : r2 = 0
  · have h21 : decide (r2 = 0) = true := decide_eq_true h2
    subst h2
    go_wp2_with (first
      | (go_at_call 25; refine (instr_Encode.calls A0 c0 l0 _ _ _ W0 (Kd.C_below HR0.out HB.out) hc0 HEF.out).mono ?_; rintro e w2 ⟨v0, rfl, hR, hb⟩; obtain ⟨A1, c1, hv⟩ := Kd.R_slice hR; subst hv; have HR := Aside0.mk hR; have q1 := blk_below B1.out hb; have q2 := blk_below B2.out hb; have q5 := below_step HB.out hb; have f1 := blk_cell q2 0; have f2 := blk_frozen q2 0; have B1' := Aside0.mk q1; have B2' := Aside0.mk q2; have HB' := Aside0.mk q5; clear B1 B2 HB q1 q2 q5; have B1 := B1'; have B2 := B2'; have HB := HB'; clear B1' B2' HB'; clear hR hb k1 f1 f2)
      | (go_at_call 13; refine (pianolalaw05_lives.calls true _ rfl).mono ?_; rintro e w3 ⟨rfl, hb⟩; have q1 := blk_below B1.out hb; have q2 := blk_below B2.out hb; have q5 := below_step HB.out hb; have f1 := blk_cell q2 0; have f2 := blk_frozen q2 0; have B1' := Aside0.mk q1; have B2' := Aside0.mk q2; have HB' := Aside0.mk q5; clear B1 B2 HB q1 q2 q5; have B1 := B1'; have B2 := B2'; have HB := HB'; clear B1' B2' HB'; have HL := Aside0.mk hb; clear hb f1 f2))
    have hen := HEN.out
    unfold encR at hen
    by_cases hbad : 0 ≤ bad l0 0
    · rw [if_pos hbad] at hen
      simp at hen
    · rw [if_neg hbad] at hen
      by_cases hlen : (cat l0).length ≤ 4096
      · rw [if_pos hlen] at hen
        simp only [Prod.mk.injEq, true_and] at hen
        obtain ⟨rfl, rfl⟩ := hen
        have hmay := (bad_neg l0 0 (by omega)).2
        have hll := len_cat l0 hmay
        have HMAY := Aside0.mk hmay
        clear hmay HEN HEF
        refine ((callsIn_wide (n := 4)).1 (all_in 4 A1 (cat l0).length c1 _)).mono ?_
        rintro e w4 ⟨rfl, rfl⟩
        obtain ⟨W4, hW4⟩ : ∃ W4, w3.alloc (.cells #[.slice A1 (cat l0).length c1] 46) = W4 := ⟨_, rfl⟩
        rw [hW4]
        have hb4 : Below w3.heap.size w3 W4 := by rw [← hW4]; exact below_alloc (Below.refl _ w3) _
        have q1 := blk_below B1.out hb4
        have q2 := blk_below B2.out hb4
        have q3 : W4.heap[w3.heap.size]? = some (.cells #[.slice A1 (cat l0).length c1] 46 (0, 0)) := by rw [← hW4]; exact blk_new w3 _
        have q4 := below_step HB.out hb4
        have z4 : W4.heap.size = w3.heap.size + 1 := by rw [← hW4, World.size_alloc]
        have HWS := Aside0.mk (show w.heap.size + 1 < w3.heap.size from blk_lt B2.out)
        have B1' := Aside0.mk q1
        have B2' := Aside0.mk q2
        have BS := Aside0.mk q3
        have HB' := Aside0.mk q4
        have HZ4 := Aside0.mk z4
        have HW4 := Aside0.mk hb4
        clear B1 B2 HB q1 q2 q3 q4 z4 hb4 hW4
        go_wp2_with fail
        obtain ⟨W6, hW6⟩ : ∃ W6, (W4.alloc (.cells #[.int .i64 0] 3)).alloc (.cells #[.int .i64 0] 3) = W6 := ⟨_, rfl⟩
        have hb6 : Below W4.heap.size W4 W6 := by rw [← hW6]; exact below_alloc (below_alloc (Below.refl _ W4) _) _
        have b7 : W6.heap[W4.heap.size]? = some (.cells #[.int .i64 0] 3 (0, 0)) := by rw [← hW6]; exact blk_alloc (blk_new W4 _) _
        have b8 : W6.heap[W4.heap.size + 1]? = some (.cells #[.int .i64 0] 3 (0, 0)) := by
          rw [← hW6]
          have := blk_new (W4.alloc (.cells #[.int .i64 0] 3)) (.cells #[.int .i64 0] 3)
          rw [World.size_alloc] at this
          exact this
        have z6 : W6.heap.size = W4.heap.size + 2 := by rw [← hW6, World.size_alloc, World.size_alloc]
        rw [hW6]
        obtain ⟨xs, hxs⟩ : ∃ xs, placed 0 l0 = xs := ⟨_, rfl⟩
        have hal : allF 200 (cat l0) 5000 0 = some xs := by
          have := allF_cat l0 [] 5000 HMAY.out (by omega)
          simp only [List.nil_append] at this
          rw [show (cat ([] : List X)).length = 0 from rfl, hxs] at this
          exact this
        have hxn : xs.length = l0.length := by rw [← hxs]; exact placed_len l0 0
        have hr := Kd.R_reads' HR.out
        have hC3 : Kd.C (Kd.int .u8) w3 A1 (cat l0).length (cat l0) := Kd.C_below hr.2.2 HL.out
        have hc1 : (cat l0).length ≤ c1 := hr.2.1
        have hws := HWS.out
        have hSB : SB w W6 w3.heap.size W4.heap.size l0.length c0 (cat l0).length c1 A0 A1 ((0 : Nat) : Int) ((0 : Nat) : Int) :=
          ⟨blk_below B1'.out hb6, blk_below B2'.out hb6, blk_below BS.out hb6, b7, b8, hws, by have := HZ4.out; omega, below_step HB'.out hb6⟩
        have HXS := Aside0.mk hxs
        have HAL := Aside0.mk hal
        have HXN := Aside0.mk hxn
        have HC3 := Aside0.mk hC3
        have HSB := Aside0.mk hSB
        have HZ6 := Aside0.mk z6
        have HW6 := Aside0.mk (below_step HW4.out hb6)
        clear hb6 b7 b8 hW6 z6 hxs hal hxn hr hC3 hws hSB B1' B2' BS HB' HR HL HW4
        refine (wpIn_wide (n := 4)).1 ?_
        refine wpIn_rangeFunc_ownH rfl (by omega) (gf := 56) (lb := #[.pointer (some ⟨w3.heap.size, 0, none⟩)]) rfl trivial (enters_of Try.func56 (by kernel_rfl) rfl)
          (all_stops (4 - 1) (by omega) w3.heap.size 200 5000 (cat l0) A1 c1 hc1 xs HAL.out w3 HC3.out W6 HW6.out HSB.out.bs) (fun h k => KeepBox.t h k) (fun W l o o' => KeepBox.b (by have := HZ6.out; have := HZ4.out; omega) (by have := HZ6.out; have := HZ4.out; omega) W l o o') (Below.refl _ _) (fun _ => rfl)
          (SI w w3.heap.size W4.heap.size l0.length c0 (cat l0).length c1 A0 A1 l0 xs) (SX xs) (SI.kept _ _ _ _ _ _ _ _ _ _ _ (by have := HSB.out.hb.size; omega)) (fun _ _ _ _ _ hs _ _ => hs) ⟨by rw [List.length_nil, atK_zero]; exact HSB.out, List.nil_prefix⟩
          (fun x a' Wb => ∃ Bx, Wb.heap[Bx]? = some (.cells #[.int .i64 x.1.2.f0, .int .i64 x.1.2.f1] 58 (0, 0)) ∧ W4.heap.size + 2 ≤ Bx ∧ a' = { tmps := #[.slice A0 l0.length c0, .pointer (some ⟨w.heap.size, 0, none⟩), .pointer (some ⟨w.heap.size + 1, 0, none⟩), .slice A1 (cat l0).length c1, .int .i64 0, .int .i64 ((cat l0).length : Int), .func (.func 56) #[] #[.pointer (some ⟨w3.heap.size, 0, none⟩)], .pointer (some ⟨W4.heap.size, 0, none⟩), .pointer (some ⟨W4.heap.size + 1, 0, none⟩), .int .i64 x.1.1, .pointer (some ⟨Bx, 0, none⟩), .tuple #[.slice A1 (cat l0).length c1, .int .i64 0, .int .i64 ((cat l0).length : Int)], .slice A0 l0.length c0, .tuple #[.slice A1 (cat l0).length c1, .int .i64 0, .int .i64 ((cat l0).length : Int)], .slice A1 (cat l0).length c1, .int .i64 0, .int .i64 ((cat l0).length : Int), .bool true, .bool false, .bool false, .int .i64 0, .bool false, .bool false, undef, .slice A1 (cat l0).length c1, .func (.func 56) #[] #[.pointer (some ⟨w3.heap.size, 0, none⟩)], .func (.func 56) #[] #[.pointer (some ⟨w3.heap.size, 0, none⟩)], .bool false, .bool false, .int .i64 ((cat l0).length : Int), .slice A1 (cat l0).length c1, .int .i64 ((cat l0).length : Int), .bool false, .bool false, .func (.func 56) #[] #[.pointer (some ⟨w3.heap.size, 0, none⟩)], .int .i64 x.1.1, .agg #[.int .i64 x.1.2.f0, .int .i64 x.1.2.f1], undef, undef, undef, undef, undef, undef, undef, undef, undef, undef, undef, undef, undef, undef, undef, undef, undef, undef, undef, undef, undef, undef, undef, undef, undef, undef, undef, undef, undef, undef, undef, undef, undef, undef], defers := [] })
          (fun x a' => (by rintro _ W W' row ⟨Bx, h1, h2, h3⟩ hg hr; exact ⟨Bx, cells_kept h1 hg (fun r e => (hr r e).2), h2, h3⟩)) ?assign ?body ?done ?stop
        case assign =>
          rintro l pre x W K hi hK
          gi_wp2
          refine hK _ _ ((KeepsOthers.alloc _ _).from _) ⟨(Below.refl _ W).alloc (Nat.le_of_lt (blk_lt hi.1.bs)) _, (blk_alloc hi.1.bs _).trans hi.1.bs.symm⟩ ⟨hi.1.below (below_alloc (Below.refl _ W) _), hi.2⟩ ⟨W.heap.size, blk_new W _, ?_, rfl⟩
          · have := blk_lt hi.1.b8; omega
        case body =>
          rintro l pre x a' W hl hloop hi ⟨Bx, hBx, hlo, rfl⟩ hlt
          rcases x with ⟨⟨pl, ⟨xo, xa⟩⟩, hx⟩
          dsimp only at hBx
          dsimp only
          obtain ⟨k, hk⟩ : ∃ k, pre.length = k := ⟨_, rfl⟩
          have hkn : k < l0.length := by have := HXN.out; omega
          obtain ⟨⟨lo, la⟩, hlk⟩ : ∃ y, l0[k]? = some y := ⟨_, List.getElem?_eq_getElem hkn⟩
          have hget := placed_get l0 0 k _ hlk
          rw [HXS.out, Nat.zero_add] at hget
          obtain ⟨ad, hA, q1, q2⟩ := at_T58 (Kd.C_below HR0.out hi.1.hb) (k : Int) (by omega) (by omega)
          subst hA
          have hrd : rd_T58 l0 (k : Int) = (⟨lo, la⟩ : X) := by
            unfold rd_T58
            rw [Int.toNat_natCast, List.getD_eq_getElem?_getD, hlk]
            rfl
          rw [hrd, Int.toNat_natCast] at q1 q2
          dsimp only at q1 q2
          have k1 : W.cell? ⟨w.heap.size, 0, none⟩ = some (.slice (some ad) l0.length c0) := blk_cell hi.1.b1 0
          have k2 : W.cell? ⟨w.heap.size + 1, 0, none⟩ = some (.bool false) := blk_cell hi.1.b2 0
          have f2 : W.frozen? ⟨w.heap.size + 1, 0, none⟩ = false := blk_frozen hi.1.b2 0
          have k7 : W.cell? ⟨W4.heap.size, 0, none⟩ = some (.int .i64 (atK l0 k : Int)) := by rw [← hk]; exact blk_cell hi.1.b7 0
          have f7 : W.frozen? ⟨W4.heap.size, 0, none⟩ = false := blk_frozen hi.1.b7 0
          have k8 : W.cell? ⟨W4.heap.size + 1, 0, none⟩ = some (.int .i64 (k : Int)) := by rw [← hk]; exact blk_cell hi.1.b8 0
          have f8 : W.frozen? ⟨W4.heap.size + 1, 0, none⟩ = false := blk_frozen hi.1.b8 0
          have x0 : W.cell? ⟨Bx, 0, none⟩ = some (.int .i64 xo) := blk_cell hBx 0
          have x1 : W.cell? ⟨Bx, 1, none⟩ = some (.int .i64 xa) := blk_cell hBx 1
          have hk1 : decide (l0.length ≤ k) = false := decide_eq_false (by omega)
          obtain ⟨p, hp⟩ : ∃ p, atK l0 k = p := ⟨_, rfl⟩
          rw [hp] at k7
          have HI := Aside0.mk hi
          have HK := Aside0.mk hk
          have HP := Aside0.mk hp
          have HG := Aside0.mk hget
          have HLK := Aside0.mk hlk
          have HLO := Aside0.mk hlo
          have HLT := Aside0.mk (And.intro hlt hl)
          clear hi hk hp hget hlk hlo hlt hl hloop hBx hrd
          have d7 : ∀ nq, (W.drewN nq).cell? ⟨W4.heap.size, 0, none⟩ = some (.int .i64 (p : Int)) := fun _ => k7
          have d8 : ∀ nq, (W.drewN nq).cell? ⟨W4.heap.size + 1, 0, none⟩ = some (.int .i64 (k : Int)) := fun _ => k8
          have d1 : ∀ nq, (W.drewN nq).cell? ⟨w.heap.size, 0, none⟩ = some (.slice (some ad) l0.length c0) := fun _ => k1
          have dx0 : ∀ nq, (W.drewN nq).cell? ⟨Bx, 0, none⟩ = some (.int .i64 xo) := fun _ => x0
          have dx1 : ∀ nq, (W.drewN nq).cell? ⟨Bx, 1, none⟩ = some (.int .i64 xa) := fun _ => x1
          have dq1 : ∀ nq, (W.drewN nq).cell? (ad.add (k * 2)) = some (.int .i64 lo) := fun _ => q1
          have dq2 : ∀ nq, (W.drewN nq).cell? ⟨(ad.add (k * 2)).block, (ad.add (k * 2)).off + 1, none⟩ = some (.int .i64 la) := fun _ => q2
          have df2 : ∀ nq, (W.drewN nq).frozen? ⟨w.heap.size + 1, 0, none⟩ = false := fun _ => f2
          have dk2 : ∀ nq, (W.drewN nq).cell? ⟨w.heap.size + 1, 0, none⟩ = some (.bool false) := fun _ => k2
          by_cases h1 : pl = (p : Int)
          · by_cases h2 : xo = lo ∧ xa = la
            · obtain ⟨rfl, rfl⟩ := h2
              subst h1
              have hz0 := sz_lo xo
              have hz1 := sz_hi xo
              have hpl : p ≤ (cat l0).length := by have := atK_le l0 k; have := HP.out; omega
              have hnx : ((atK l0 (k + 1) : Nat) : Int) = (p : Int) + sz xo := by have := atK_next l0 k _ HLK.out; have := HP.out; dsimp only at *; omega
              have hfin : ∀ q, KeepsOthers W (((W.drewN q).setCell ⟨W4.heap.size, 0, none⟩ (.int .i64 ((p : Int) + sz xo))).setCell ⟨W4.heap.size + 1, 0, none⟩ (.int .i64 ((k : Int) + 1))) ∧
                  KeepBox w3.heap.size w3.heap.size W (((W.drewN q).setCell ⟨W4.heap.size, 0, none⟩ (.int .i64 ((p : Int) + sz xo))).setCell ⟨W4.heap.size + 1, 0, none⟩ (.int .i64 ((k : Int) + 1))) ∧
                  SI w w3.heap.size W4.heap.size l0.length c0 (cat l0).length c1 (some ad) A1 l0 xs (pre ++ [⟨((p : Int), ⟨xo, xa⟩), hx⟩]) (((W.drewN q).setCell ⟨W4.heap.size, 0, none⟩ (.int .i64 ((p : Int) + sz xo))).setCell ⟨W4.heap.size + 1, 0, none⟩ (.int .i64 ((k : Int) + 1))) := by
                intro q
                have hz4 := HZ4.out
                refine ⟨KeepsOthers.trans (B := W.drewN q) ⟨(KeepsOthers.refl W).size, (KeepsOthers.refl W).same⟩ (KeepsOthers.trans (KeepsOthers.setCell (W.drewN q) ⟨W4.heap.size, 0, none⟩ _) (KeepsOthers.setCell _ ⟨W4.heap.size + 1, 0, none⟩ _)),
                  ⟨Below.setCell (p := ⟨W4.heap.size + 1, 0, none⟩) (Below.setCell (p := ⟨W4.heap.size, 0, none⟩) (pw_below_drewN (Below.refl _ W) q) (by show w3.heap.size ≤ W4.heap.size; omega) _) (by show w3.heap.size ≤ W4.heap.size + 1; omega) _,
                    (Below.heap_setCell _ ⟨W4.heap.size + 1, 0, none⟩ _ w3.heap.size (by show w3.heap.size ≠ W4.heap.size + 1; omega)).trans (Below.heap_setCell (W.drewN q) ⟨W4.heap.size, 0, none⟩ _ w3.heap.size (by show w3.heap.size ≠ W4.heap.size; omega))⟩,
                  ?_, next_pre pre k HK.out _ hx HI.out.2 (by have := HG.out; rw [HP.out] at this; exact this)⟩
                have h0 := HI.out.1
                have h1 : SB w (W.drewN q) w3.heap.size W4.heap.size l0.length c0 (cat l0).length c1 (some ad) A1 (atK l0 pre.length : Int) (pre.length : Int) := ⟨h0.b1, h0.b2, h0.bs, h0.b7, h0.b8, h0.lo, h0.hi, pw_below_drewN h0.hb q⟩
                have h2 := h1.put ((p : Int) + sz xo) ((k : Int) + 1)
                rw [List.length_append, List.length_singleton, HK.out, hnx, show (((k + 1 : Nat)) : Int) = (k : Int) + 1 by omega]
                exact h2
              have HFIN := Aside0.mk hfin
              have hwr : IntKind.i64.wrap ((p : Int) + sz xo) = (p : Int) + sz xo := by
                rw [IntKind.wrap_i64]
                omega
              clear hfin hnx
              have heq : ∀ W, (Op.equalIn 10000 58 (.agg #[.int .i64 xo, .int .i64 xa]) (.agg #[.int .i64 xo, .int .i64 xa])).run Try.prog W = .ok true W := fun W => (eqI xo xa xo xa W).trans (by simp)
              gi_wp2
              refine wpIn_region_calm_lit (fun _ => trivial) (by kernel_rfl) (by rfl) (by kernel_rfl) ?_
              repeat (go_big_quiet_step (fail))
              refine wpQuiet_nil ?_
              intro _ hw'
              obtain ⟨nq, hw''⟩ := hw'
              subst hw''
              gi_wp2
              gi_region_with (refine ⟨trivial, ?_⟩; gi_at_call 33; refine (CallsIn.inRound l (callsIn_wide.2 (instr_Size.calls 200 xo (sz xo) _ (size_all xo)))).mono ?_; rintro e w5 ⟨rfl, hd⟩; obtain ⟨m, hm⟩ := hd; subst hm)
              all_goals gi_wp2
              all_goals exact ⟨(HFIN.out _).1.from _, (HFIN.out _).2.1, (HFIN.out _).2.2⟩
            · have heq : ∀ W, (Op.equalIn 10000 58 (.agg #[.int .i64 xo, .int .i64 xa]) (.agg #[.int .i64 lo, .int .i64 la])).run Try.prog W = .ok false W := fun W => (eqI xo xa lo la W).trans (by rw [decide_eq_false h2])
              subst h1
              have H2 := Aside0.mk h2
              clear h2
              gi_wp2
              refine wpIn_region_calm_lit (fun _ => trivial) (by kernel_rfl) (by rfl) (by kernel_rfl) ?_
              repeat (go_big_quiet_step (fail))
              refine wpQuiet_nil ?_
              intro _ hw'
              obtain ⟨nq, hw''⟩ := hw'
              subst hw''
              gi_wp2
              refine ⟨(KeepsOthers.trans (B := W.drewN nq) ⟨(KeepsOthers.refl W).size, (KeepsOthers.refl W).same⟩ (KeepsOthers.setCell (W.drewN nq) ⟨w.heap.size + 1, 0, none⟩ _)).from _, ?_⟩
              refine next_ne pre k HK.out _ _ hx HG.out ?_
              intro e
              simp only [Prod.mk.injEq, S58.mk.injEq] at e
              exact H2.out ⟨e.2.1.symm, e.2.2.symm⟩
          · have h11 : (pl == (p : Int)) = false := by simpa using h1
            have h12 : (pl != (p : Int)) = true := by simpa using h1
            gi_wp2
            refine wpIn_region_calm_lit (fun _ => trivial) (by kernel_rfl) (by rfl) (by kernel_rfl) ?_
            repeat (go_big_quiet_step (fail))
            refine wpQuiet_nil ?_
            intro _ hw'
            obtain ⟨nq, hw''⟩ := hw'
            subst hw''
            gi_wp2
            refine ⟨(KeepsOthers.trans (B := W.drewN nq) ⟨(KeepsOthers.refl W).size, (KeepsOthers.refl W).same⟩ (KeepsOthers.setCell (W.drewN nq) ⟨w.heap.size + 1, 0, none⟩ _)).from _, ?_⟩
            refine next_ne pre k HK.out _ _ hx HG.out ?_
            intro e
            simp only [Prod.mk.injEq] at e
            exact h1 (by have := HP.out; have := e.1; omega)
        case done =>
          rintro D ys W hD hys hi hK
          have e1 : ys.length = l0.length := by have := congrArg List.length hys; rw [List.length_map, HXN.out] at this; exact this
          have h7 := hi.1.b7
          have h8 := hi.1.b8
          rw [e1] at h7 h8
          rw [atK_all] at h7
          have k7 : W.cell? ⟨W4.heap.size, 0, none⟩ = some (.int .i64 ((cat l0).length : Int)) := blk_cell h7 0
          have k8 : W.cell? ⟨W4.heap.size + 1, 0, none⟩ = some (.int .i64 (l0.length : Int)) := blk_cell h8 0
          have k1 : W.cell? ⟨w.heap.size, 0, none⟩ = some (.slice A0 l0.length c0) := blk_cell hi.1.b1 0
          have k2 : W.cell? ⟨w.heap.size + 1, 0, none⟩ = some (.bool false) := blk_cell hi.1.b2 0
          have f2 : W.frozen? ⟨w.heap.size + 1, 0, none⟩ = false := blk_frozen hi.1.b2 0
          have HSBd := Aside0.mk hi.1
          have HKd := Aside0.mk hK
          have HDd := Aside0.mk hD
          clear hi hK hD hys e1 h7 h8
          dsimp only
          gi_wp2
          go_wp2_with fail
          have hdw : w.heap.size + 1 < D := by have := HDd.out; have := HZ6.out; have := HZ4.out; have := HWS.out; omega
          have hs := blk_set HSBd.out.b2 0 (.bool true)
          have hdd : (W.setCell ⟨w.heap.size + 1, 0, none⟩ (.bool true)).heap[D]? = some (.deferred (some [])) := (Below.heap_setCell W ⟨w.heap.size + 1, 0, none⟩ _ D (by show D ≠ w.heap.size + 1; omega)).trans HKd.out
          refine ⟨by simp, .inl ⟨_, _, rfl, run_takeDeferred hdd, ?_⟩⟩
          have hg := grownBy_putObj' (W.setCell ⟨w.heap.size + 1, 0, none⟩ (.bool true)) D (.deferred none)
          have hs2 := (hg.block (w.heap.size + 1) (blk_lt hs) (fun e => by injection e with e; omega)).trans hs
          have f3 := blk_cell hs2 0
          refine ⟨.bool true, ?_, rfl, ?_⟩
          · simp [results, Try.f11, go_sem, f3]
          · have hb' := Below.setCell (p := ⟨w.heap.size + 1, 0, none⟩) HSBd.out.hb (by show w.heap.size ≤ w.heap.size + 1; omega) (.bool true)
            exact hb'.grown hg hb'.size (fun k e => by injection e with e; omega)
        case stop =>
          rintro D c pre W _ hp h _
          exact absurd hp h
      · rw [if_neg hlen] at hen
        simp at hen
  · have h21 : decide (r2 = 0) = false := decide_eq_false h2
    have h22 : (r2 == 0) = false := by simpa using h2
    go_wp2_with (first
      | (go_at_call 25; refine (instr_Encode.calls A0 c0 l0 _ _ _ W0 (Kd.C_below HR0.out HB.out) hc0 HEF.out).mono ?_; rintro e w2 ⟨v0, rfl, hR, hb⟩; have q1 := blk_below B1.out hb; have q2 := blk_below B2.out hb; have q5 := below_step HB.out hb; have f1 := blk_cell q2 0; have f2 := blk_frozen q2 0; have B1' := Aside0.mk q1; have B2' := Aside0.mk q2; have HB' := Aside0.mk q5; clear B1 B2 HB q1 q2 q5; have B1 := B1'; have B2 := B2'; have HB := HB'; clear B1' B2' HB'; clear hR hb k1 f1 f2)
      | (go_at_call 13; refine (pianolalaw05_lives.calls true _ rfl).mono ?_; rintro e w3 ⟨rfl, hb⟩; have q1 := blk_below B1.out hb; have q2 := blk_below B2.out hb; have q5 := below_step HB.out hb; have f1 := blk_cell q2 0; have f2 := blk_frozen q2 0; have B1' := Aside0.mk q1; have B2' := Aside0.mk q2; have HB' := Aside0.mk q5; clear B1 B2 HB q1 q2 q5; have B1 := B1'; have B2 := B2'; have HB := HB'; clear B1' B2' HB'; clear hb))
    have hs := blk_set B2.out 0 (.bool true)
    have f3 := blk_cell hs 0
    refine ⟨.bool true, ?_, rfl, Below.setCell (p := ⟨w.heap.size + 1, 0, none⟩) HB.out (by show w.heap.size ≤ w.heap.size + 1; omega) _⟩
    simp [results, Try.f11, go_sem, f3]
theorem pianolalaw05_InstrSizes.calls (A0 : Option Addr) (c0 : Nat) (l0 : List S58) (r : Bool) (w : World) (hr0 : Kd.C k58 w A0 l0.length l0) (hc0 : l0.length ≤ c0) (h : pianolalaw05_InstrSizes.f l0 = some r) :
    Calls Try.prog 11 #[.slice A0 l0.length c0] w fun e w' => e = .returned (.bool r) ∧ Below w.heap.size w w' := by
  unfold pianolalaw05_InstrSizes.f at h
  split at h
  · obtain rfl := Option.some.inj h
    exact sizes_walk A0 c0 l0 w hr0 hc0
  · exact absurd h (by simp)

end Go.Proofs.Ytdcjbkhfopdgnaa.P
