/- The reference's Out, its small methods; In: what they come to; no statement of the seat. -/
import Derived.Test.YtdlkkjfbbeffbaaCodecR
import Derived.Test.YtdlkkjfbbeffbaaCodecE
set_option linter.unusedVariables false
set_option linter.unusedSimpArgs false
namespace Go.Proofs.Ytdlkkjfbbeffbaa.P
open Go.RowKit Go.Proofs.YtdlkkjfbbeffbaaW.PrintWords Go.Proofs.YtdlkkjfbbeffbaaW.PrintLast Go.Proofs.YtdlkkjfbbeffbaaW.PrintMore
set_option maxRecDepth 100000 in
set_option maxHeartbeats 400000 in
theorem rbyte_run (B p : Nat) (v : Value) (bs : List Int) (e x : Int) (w : World) (h : ROK w B p v bs e) (hB : B ≤ w.heap.size) (hbs : bs.length ≤ 1048576) :
    Calls Try.prog 20 #[.pointer (some ⟨p, 0, none⟩), .int .i64 x] w fun r w' => r = .returned (.tuple #[]) ∧ RTo w B p (numS (bs, e) 1 255 x) w' := by
  have hp := rcount_run B p v bs e x 255 1 (by decide) w h hB hbs
  rw [show ((1 : Nat) : Int) = 1 from rfl] at hp
  have HP := Aside0.mk hp
  clear hp h
  go_enter Try.func20, Try.ntmps20
  go_wp2_with fail
  with_reducible refine HP.out.mono ?_
  rintro r w2 ⟨rfl, hT⟩
  have HT := Aside0.mk hT
  clear hT
  go_wp2_with fail
  go_end0
  exact ⟨rfl, HT.out⟩
set_option maxRecDepth 100000 in
set_option maxHeartbeats 400000 in
theorem rshort_run (B p : Nat) (v : Value) (bs : List Int) (e x : Int) (w : World) (h : ROK w B p v bs e) (hB : B ≤ w.heap.size) (hbs : bs.length ≤ 1048576) :
    Calls Try.prog 21 #[.pointer (some ⟨p, 0, none⟩), .int .i64 x] w fun r w' => r = .returned (.tuple #[]) ∧ RTo w B p (numS (bs, e) 2 65535 x) w' := by
  have hp := rcount_run B p v bs e x 65535 2 (by decide) w h hB hbs
  rw [show ((2 : Nat) : Int) = 2 from rfl] at hp
  have HP := Aside0.mk hp
  clear hp h
  go_enter Try.func21, Try.ntmps21
  go_wp2_with fail
  with_reducible refine HP.out.mono ?_
  rintro r w2 ⟨rfl, hT⟩
  have HT := Aside0.mk hT
  clear hT
  go_wp2_with fail
  go_end0
  exact ⟨rfl, HT.out⟩
set_option maxRecDepth 100000 in
set_option maxHeartbeats 400000 in
theorem rmany_run (B p : Nat) (v : Value) (bs : List Int) (e x : Int) (w : World) (h : ROK w B p v bs e) (hB : B ≤ w.heap.size) (hbs : bs.length ≤ 1048576) :
    Calls Try.prog 45 #[.pointer (some ⟨p, 0, none⟩), .int .i64 x] w fun r w' => r = .returned (.tuple #[]) ∧ RTo w B p (numS (bs, e) 2 4096 x) w' := by
  have hp := rcount_run B p v bs e x 4096 2 (by decide) w h hB hbs
  rw [show ((2 : Nat) : Int) = 2 from rfl] at hp
  have HP := Aside0.mk hp
  clear hp h
  go_enter Try.func45, Try.ntmps45
  go_wp2_with fail
  with_reducible refine HP.out.mono ?_
  rintro r w2 ⟨rfl, hT⟩
  have HT := Aside0.mk hT
  clear hT
  go_wp2_with fail
  go_end0
  exact ⟨rfl, HT.out⟩
theorem num8 (s : List Int × Int) (most x : Int) : numS s 8 most x = putS s (leB x 8) := by
  unfold numS lowS
  rw [if_neg (by simp)]
set_option maxRecDepth 100000 in
set_option maxHeartbeats 400000 in
theorem rint_run (B p : Nat) (v : Value) (bs : List Int) (e x : Int) (w : World) (h : ROK w B p v bs e) (hB : B ≤ w.heap.size) (hbs : bs.length ≤ 1048576) :
    Calls Try.prog 23 #[.pointer (some ⟨p, 0, none⟩), .int .i64 x] w fun r w' => r = .returned (.tuple #[]) ∧ RTo w B p (numS (bs, e) 8 0 x) w' := by
  rw [num8, leB_leU, ← IntKind.wrap_u64]
  have hp := rlow_run B p v bs e (IntKind.u64.wrap x) (by rw [IntKind.wrap_u64]; omega) (by rw [IntKind.wrap_u64]; omega) 8 (by decide) w h hB hbs
  rw [show ((8 : Nat) : Int) = 8 from rfl] at hp
  have HP := Aside0.mk hp
  clear hp h
  go_enter Try.func23, Try.ntmps23
  go_wp2_with fail
  with_reducible refine HP.out.mono ?_
  rintro r w2 ⟨rfl, hT⟩
  have HT := Aside0.mk hT
  clear hT
  go_wp2_with fail
  go_end0
  exact ⟨rfl, HT.out⟩
set_option maxRecDepth 100000 in
set_option maxHeartbeats 400000 in
theorem rblob_run (w0 : World) (p : Nat) (v : Value) (bs : List Int) (e : Int) (A : Option Addr) (c : Nat) (ys : List Int) (w : World) (h : ROK w w0.heap.size p v bs e) (hC : Kd.C (Kd.int .u8) w0 A ys.length ys) (hlo : Below w0.heap.size w0 w) (hbs : bs.length ≤ 1048576) :
    Calls Try.prog 37 #[.pointer (some ⟨p, 0, none⟩), .slice A ys.length c] w fun r w' => r = .returned (.tuple #[]) ∧ RTo w w0.heap.size p (blobS (bs, e) ys) w' := by
  have hp := rcount_run w0.heap.size p v bs e (ys.length : Int) 65536 4 (by decide) w h hlo.size hbs
  rw [show ((4 : Nat) : Int) = 4 from rfl] at hp
  have HP := Aside0.mk hp
  have HC := Aside0.mk hC
  have HLO := Aside0.mk hlo
  have hmx := Kd.C_max hC
  clear hp h hC hlo
  go_enter Try.func37, Try.ntmps37
  go_wp2_with fail
  with_reducible refine HP.out.mono ?_
  rintro r w1 ⟨rfl, hT⟩
  have HT := Aside0.mk hT
  obtain ⟨⟨v1, hO1⟩, hb1, _⟩ := hT
  have HO1 := Aside0.mk hO1
  have HB1 := Aside0.mk (HLO.out.trans hb1)
  clear hO1 hb1
  go_wp2_with fail
  refine (rput_run w0.heap.size p v1 _ _ A c ys w1 HO1.out (Kd.C_below HC.out HB1.out) HB1.out.size (numS_len (bs, e) 4 65536 _ hbs)).mono ?_
  rintro r w2 ⟨rfl, hT2⟩
  have HT2 := Aside0.mk hT2
  clear hT2
  go_wp2_with fail
  go_end0
  exact ⟨rfl, HT.out.bind HT2.out⟩
theorem below_dN {B : Nat} {a w : World} (h : Below B a w) (n : Nat) : Below B a (w.drewN n) := h.trans ⟨rfl, rfl, rfl, Nat.le_refl _, fun _ _ => rfl⟩
theorem ROK.drewN {w : World} {B p : Nat} {v : Value} {bs : List Int} {e : Int} (h : ROK w B p v bs e) (m : Nat) : ROK (w.drewN m) B p v bs e := ⟨h.le, h.blk, Kd.R_drewN h.own m, h.es⟩
set_option maxRecDepth 100000 in
set_option maxHeartbeats 400000 in
theorem why_run (B p : Nat) (v : Value) (bs : List Int) (e : Int) (w : World) (h : ROK w B p v bs e) :
    Calls Try.prog 25 #[.pointer (some ⟨p, 0, none⟩)] w fun r w' => r = .returned (.int .i64 e) ∧ w' = w := by
  have c1 : w.cell? ⟨p, 1, none⟩ = some (.bool (e == 1)) := blk_cell h.blk 1
  have c2 : w.cell? ⟨p, 2, none⟩ = some (.bool (e == 3)) := blk_cell h.blk 2
  have hes := h.es
  clear h
  rcases hes with rfl | rfl | rfl
  · have k1 : ((0 : Int) == 1) = false := by decide
    have k3 : ((0 : Int) == 3) = false := by decide
    rw [k1] at c1
    rw [k3] at c2
    go_enter Try.func25, Try.ntmps25
    go_wp2_with fail
    go_ret
    exact ⟨rfl, rfl⟩
  · have k1 : ((1 : Int) == 1) = true := by decide
    rw [k1] at c1
    go_enter Try.func25, Try.ntmps25
    go_wp2_with fail
    go_ret
    exact ⟨rfl, rfl⟩
  · have k1 : ((3 : Int) == 1) = false := by decide
    have k3 : ((3 : Int) == 3) = true := by decide
    rw [k1] at c1
    rw [k3] at c2
    go_enter Try.func25, Try.ntmps25
    go_wp2_with fail
    go_ret
    exact ⟨rfl, rfl⟩
/-- A block 'In' of the reference; what it reads lay ahead of it. -/
structure RIn (w0 w : World) (p : Nat) (A : Option Addr) (c : Nat) (bs : List Int) (bad : Bool) : Prop where
  le : w0.heap.size ≤ p
  blk : w.heap[p]? = some (.cells #[.slice A bs.length c, .bool bad] 61 (0, 0))
  rd : Kd.C (Kd.int .u8) w0 A bs.length bs
  cap : bs.length ≤ c
  ok : okL bs
  lo : Below w0.heap.size w0 w
def RInTo (w0 w : World) (p : Nat) (s : List Int × Bool) (w' : World) : Prop := (∃ A c, RIn w0 w' p A c s.1 s.2) ∧ KeepBut w w' p none
theorem RIn.setBad {w0 w : World} {p : Nat} {A : Option Addr} {c : Nat} {bs : List Int} {bad : Bool} (h : RIn w0 w p A c bs bad) (b' : Bool) : RInTo w0 w p (bs, b') (w.setCell ⟨p, 1, none⟩ (.bool b')) :=
  ⟨⟨A, c, h.le, blk_set h.blk 1 _, h.rd, h.cap, h.ok, h.lo.setCell (p := ⟨p, 1, none⟩) h.le _⟩, (KeepBut.refl _ _ _).set_ 1 _⟩
theorem RInTo.refl {w0 w : World} {p : Nat} {A : Option Addr} {c : Nat} {bs : List Int} {bad : Bool} (h : RIn w0 w p A c bs bad) : RInTo w0 w p (bs, bad) w := ⟨⟨A, c, h⟩, KeepBut.refl _ _ _⟩
theorem RInTo.bind {w0 w w1 w2 : World} {p : Nat} {s s' : List Int × Bool} (h1 : RInTo w0 w p s w1) (h2 : RInTo w0 w1 p s' w2) : RInTo w0 w p s' w2 := ⟨h2.1, h1.2.trans h2.2 (.inl rfl)⟩
theorem RInTo.past2 {w0 w w1 : World} {p : Nat} {s : List Int × Bool} (h : RInTo w0 w p s w1) (hp : p < w.heap.size) {w2 : World} (hb : Below w.heap.size w1 w2) (h0 : w0.heap.size ≤ w.heap.size) : RInTo w0 w p s w2 := by
  obtain ⟨⟨A, c, h1⟩, hk⟩ := h
  exact ⟨⟨A, c, h1.le, (hb.block p hp).trans h1.blk, h1.rd, h1.cap, h1.ok, h1.lo.trans (hb.mono h0)⟩, Nat.le_trans hk.1 hb.size, fun i hi h1 h2 => (hb.block i hi).trans (hk.2 i hi h1 h2)⟩
theorem RIn.below {w0 w w1 : World} {p : Nat} {A : Option Addr} {c : Nat} {bs : List Int} {bad : Bool} (h : RIn w0 w p A c bs bad) (hb : Below w.heap.size w w1) : RIn w0 w1 p A c bs bad := ⟨h.le, blk_below h.blk hb, h.rd, h.cap, h.ok, h.lo.trans (hb.mono h.lo.size)⟩
set_option maxRecDepth 100000 in
set_option maxHeartbeats 4000000 in
theorem rtake_run (w0 w : World) (p : Nat) (A : Option Addr) (c : Nat) (bs : List Int) (bad : Bool) (n : Int) (h : RIn w0 w p A c bs bad) :
    Calls Try.prog 85 #[.pointer (some ⟨p, 0, none⟩), .int .i64 n] w fun r w' => ∃ v : Value, r = .returned v ∧ Kd.R (Kd.int .u8) 5 w' w.heap.size (fun _ => True) v (takeS (bs, bad) n).1 ∧ RInTo w0 w p (takeS (bs, bad) n).2 w' := by
  have HI := Aside0.mk h
  have c0 : w.cell? ⟨p, 0, none⟩ = some (.slice A bs.length c) := blk_cell h.blk 0
  have c1 : w.cell? ⟨p, 1, none⟩ = some (.bool bad) := blk_cell h.blk 1
  have f0 := blkO_free h.blk 0
  have f1 := blkO_free h.blk 1
  have hmx := Kd.C_max h.rd
  clear h
  by_cases hb : bad = true
  · subst hb
    have hs : takeS (bs, true) n = ([], bs, true) := by unfold takeS; rw [if_pos (.inl rfl)]
    rw [hs]
    clear hs
    go_enter Try.func85, Try.ntmps85
    go_wp2_with fail
    go_ret
    exact ⟨_, rfl, Kd.R_nil _ _ _ _ _, HI.out.setBad true⟩
  · obtain rfl : bad = false := by cases bad <;> simp_all
    clear hb
    by_cases h0 : n < 0
    · have hs : takeS (bs, false) n = ([], bs, true) := by unfold takeS; rw [if_pos (.inr (.inl h0))]
      rw [hs]
      clear hs
      go_enter Try.func85, Try.ntmps85
      go_wp2_with fail
      go_ret
      exact ⟨_, rfl, Kd.R_nil _ _ _ _ _, HI.out.setBad true⟩
    · by_cases h1 : n > bs.length
      · have hs : takeS (bs, false) n = ([], bs, true) := by unfold takeS; rw [if_pos (.inr (.inr h1))]
        rw [hs]
        clear hs
        have h1' : (bs.length : Int) < n := h1
        have h0' : 0 ≤ n := by omega
        clear h0 h1
        go_enter Try.func85, Try.ntmps85
        go_wp2_with fail
        go_ret
        exact ⟨_, rfl, Kd.R_nil _ _ _ _ _, HI.out.setBad true⟩
      · have hs : takeS (bs, false) n = (bs.take n.toNat, bs.drop n.toNat, false) := by unfold takeS; rw [if_neg (by simp only [Bool.false_eq_true, false_or, not_or]; omega)]
        rw [hs]
        clear hs
        have h1' : n ≤ (bs.length : Int) := by omega
        have h0' : 0 ≤ n := by omega
        obtain ⟨i0, hi0, _, hs0, _⟩ := info_parts (show (Try.prog.info? 5).map (fun i => (i.zero, i.size, i.bytes)) = some (some (.int .u8 0), 1, 1) by kernel_rfl)
        obtain ⟨ht, htr, htl⟩ := print_take_of (P := Try.prog) (Value.int .u8) 0 40 5 .i64 Try.underlying40 hi0 hs0 A c bs n h0' h1' HI.out.cap
        obtain ⟨A', hd, hdr, hdl⟩ := print_drop_of (P := Try.prog) (Value.int .u8) 0 40 5 .i64 Try.underlying40 hi0 hs0 A c bs n h0' h1' HI.out.cap
        have HT := Aside0.mk (htr w0 (Kd.reads_of_C HI.out.rd))
        have HD := Aside0.mk (hdr w0 (Kd.reads_of_C HI.out.rd))
        have HL := Aside0.mk htl
        have HDL := Aside0.mk hdl
        clear hi0 hs0 htr hdr h0 h1 htl hdl
        have HO := Aside0.mk HI.out
        have lp : p < w.heap.size := blk_lt HI.out.blk
        have hsz := HI.out.ok.2
        have e1 : (bs.take n.toNat).length = n.toNat := by rw [List.length_take]; omega
        have E1 := Aside0.mk e1
        clear e1
        go_enter Try.func85, Try.ntmps85
        go_wp2_with (at_builtin; go_loud (refine Kd.R_append_rows (Kd.int .u8) (Rr := fun x cs => cs = [.int .u8 x]) (w0 := w) w.heap.size rfl (.tmp 26) (.tmp 32) 40 5 (.int .u8 0) 1 rfl Try.underlying40 (by kernel_rfl) rfl (by decide) (by decide) (.slice (some ⟨w.heap.size, 0, none⟩) 0 0) [] (bs.take n.toNat) A n.toNat c (fun _ => True) (fun _ => False) rfl rfl (empty_own w w.heap.size (Nat.le_refl _)) (Kd.C_alloc (by have h := Kd.C_below (Kd.C_of_reads (h1 := fun _ => rfl) HT.out) HI.out.lo; rw [E1.out] at h; exact h) _) (fun _ _ h => h) (fun _ hk => hk.elim) (fun _ _ => trivial) (below_alloc (Below.refl _ _) _) (by rw [World.size_alloc]; omega) (by simp; omega) ?_; intro v1 w1 ho hb1 hg hat; obtain ⟨A1, c1', hv1⟩ := Kd.R_slice ho; subst hv1; simp only [List.nil_append] at ho hat; rw [E1.out] at ho hat; have hb := blk_below HO.out.blk hb1; have d0 : w1.cell? ⟨p, 0, none⟩ = some (.slice A bs.length c) := blk_cell hb 0; have g0 := blkO_free hb 0; have HX := Aside0.mk (And.intro ho (And.intro hb1 hb)); clear ho hb1 hg hat hb))
        go_ret
        obtain ⟨ho, hb1, hb⟩ := HX.out
        refine ⟨_, rfl, ?_, ⟨A', c - n.toNat, HI.out.le, ?_, Kd.C_of_reads (h1 := fun _ => rfl) HD.out, HDL.out, HI.out.ok.drop _, (HI.out.lo.trans (hb1.mono HI.out.lo.size)).setCell (p := ⟨p, 0, none⟩) HI.out.le _⟩, (KeepBut.of_below hb1 p none).set_ 0 _⟩
        · exact Kd.R_mono (Kd.R_far (Kd.R_bound ho) (p := ⟨p, 0, none⟩) (fun k hk => by have := hk.2.1; show k ≠ p; omega) _) (fun _ hk => hk.1)
        · have hb2 := blk_set hb 0 (.slice A' (bs.length - n.toNat) (c - n.toNat))
          rw [← List.length_drop] at hb2
          rw [← List.length_drop]
          exact hb2
theorem leN_cons_back (o : List Int) (k : Nat) (h : k < o.length) : leN (o.drop k) = rd o (k : Int) + 256 * leN (o.drop (k + 1)) := by
  rw [← List.getElem_cons_drop h, leN]
  unfold rd
  rw [Int.toNat_natCast, List.getD_eq_getElem?_getD, List.getElem?_eq_getElem h]
  rfl
set_option maxRecDepth 100000 in
set_option maxHeartbeats 400000 in
theorem rinlow_run (w0 w : World) (p : Nat) (A : Option Addr) (c : Nat) (bs : List Int) (bad : Bool) (size : Int) (h8 : size ≤ 8) (h : RIn w0 w p A c bs bad) :
    Calls Try.prog 63 #[.pointer (some ⟨p, 0, none⟩), .int .i64 size] w fun r w' => r = .returned (.int .u64 (leN (takeS (bs, bad) size).1)) ∧ RInTo w0 w p (takeS (bs, bad) size).2 w' := by
  have HI := Aside0.mk h
  clear h
  have hok : okB (takeS (bs, bad) size).1 ∧ (takeS (bs, bad) size).1.length ≤ 8 := by
    unfold takeS
    split
    · exact ⟨by intro y hy; simp at hy, by simp⟩
    · exact ⟨HI.out.ok.1.take _, by simp only [List.length_take]; omega⟩
  have HT0 := Aside0.mk (rtake_run w0 w p A c bs bad size HI.out)
  generalize takeS (bs, bad) size = T at *
  obtain ⟨o, b1, bd⟩ := T
  dsimp only at *
  have HOK := Aside0.mk hok
  have hmx : o.length ≤ 8 := hok.2
  clear hok
  go_enter Try.func63, Try.ntmps63
  go_wp2_with fail
  refine HT0.out.mono ?_
  rintro r w1 ⟨v, rfl, hR, hT⟩
  obtain ⟨A5, c5, hv, _, hC⟩ := Kd.R_reads hR
  subst hv
  have HC := Aside0.mk hC
  have HT := Aside0.mk hT
  clear hR hT hC
  go_wp2_with fail
  go_loop [6, 7] (fun v6 v7 => ∃ k : Nat, v7 = .int .i64 ((k : Int) - 1) ∧ k ≤ o.length ∧ v6 = .int .u64 (leN (o.drop k))) (fun _ v7 => (intOf v7 + 1).toNat)
  case atStart => exact ⟨o.length, rfl, Nat.le_refl _, by rw [List.drop_length]; rfl⟩
  case round =>
    obtain ⟨k, rfl, hk, rfl⟩ := hrel
    by_cases hz : k = 0
    · subst hz
      rw [List.drop_zero]
      go_wp2_with fail
      go_ret
      exact ⟨rfl, HT.out⟩
    · obtain ⟨k, rfl⟩ : ∃ q, k = q + 1 := ⟨k - 1, by omega⟩
      rw [show ((k + 1 : Nat) : Int) - 1 = (k : Int) by omega]
      obtain ⟨ad, rfl, hc⟩ := Kd.at_int HC.out (k : Int) (by omega) (by omega)
      rw [Int.toNat_natCast] at hc
      have hb : 0 ≤ rd o k ∧ rd o k < 256 := by
        unfold rd
        rw [Int.toNat_natCast, List.getD_eq_getElem?_getD, List.getElem?_eq_getElem (by omega)]
        exact HOK.out.1 _ (List.getElem_mem (by omega))
      have hs := leN_range (o.drop (k + 1)) (HOK.out.1.drop _)
      have hp : (256 : Int) ^ (o.drop (k + 1)).length ≤ 72057594037927936 := (show ∀ k, k < 8 → (256 : Int) ^ k ≤ 72057594037927936 by decide) _ (by rw [List.length_drop]; omega)
      have HE := Aside0.mk (leN_cons_back o k (by omega))
      obtain ⟨z, hz⟩ : ∃ z, z = leN (o.drop (k + 1)) := ⟨_, rfl⟩
      obtain ⟨y, hy⟩ : ∃ y, y = rd o (k : Int) := ⟨_, rfl⟩
      rw [← hz, ← hy] at HE
      rw [← hz] at hs ⊢
      rw [← hy] at hc hb
      have z0 : 0 ≤ z := hs.1
      have z1 : z < 72057594037927936 := by omega
      obtain ⟨b0, b1⟩ := hb
      clear hs hp hz hy
      go_wp2_with fail
      go_round
      case rel => exact ⟨k, by first | rfl | go_num, by omega, by rw [HE.out]; first | go_num | (congr 1; omega)⟩
      case measure => first | (simp [intOf]; done) | (simp [intOf]; omega)
set_option maxRecDepth 100000 in
set_option maxHeartbeats 400000 in
theorem rincount_run (w0 w : World) (p : Nat) (A : Option Addr) (c : Nat) (bs : List Int) (bad : Bool) (size most : Int) (h8 : size < 8) (h : RIn w0 w p A c bs bad) :
    Calls Try.prog 62 #[.pointer (some ⟨p, 0, none⟩), .int .i64 size, .int .i64 most] w fun r w' => r = .returned (.int .i64 (lowI (bs, bad) size most).1) ∧ RInTo w0 w p (lowI (bs, bad) size most).2 w' := by
  have HL := Aside0.mk (rinlow_run w0 w p A c bs bad size (by omega) h)
  have HLI := Aside0.mk (show lowI (bs, bad) size most = (if ((takeS (bs, bad) size).2.2 || (decide (size < 8) && decide (wrap64 (leN (takeS (bs, bad) size).1) > most))) = true then 0 else wrap64 (leN (takeS (bs, bad) size).1), (takeS (bs, bad) size).2.1, (takeS (bs, bad) size).2.2 || (decide (size < 8) && decide (wrap64 (leN (takeS (bs, bad) size).1) > most))) from rfl)
  rw [decide_eq_true h8] at HLI
  clear h
  generalize takeS (bs, bad) size = T at *
  obtain ⟨o, b1, bd⟩ := T
  dsimp only at *
  obtain ⟨z, hz⟩ : ∃ z, z = leN o := ⟨_, rfl⟩
  rw [← hz] at HL HLI
  clear hz
  go_enter Try.func62, Try.ntmps62
  go_wp2_with fail
  refine HL.out.mono ?_
  rintro r w1 ⟨rfl, hT⟩
  have HT := Aside0.mk hT
  obtain ⟨⟨A2, c2, hI2⟩, hk2⟩ := hT
  have HI2 := Aside0.mk hI2
  have d1 : w1.cell? ⟨p, 1, none⟩ = some (.bool bd) := blk_cell hI2.blk 1
  have g1 := blkO_free hI2.blk 1
  clear hI2 hk2
  by_cases hm : wrap64 z > most
  · have hm' : most < wrap64 z := hm
    have he : lowI (bs, bad) size most = (0, b1, true) := by rw [HLI.out, decide_eq_true hm, Bool.true_and, Bool.or_true, if_pos rfl]
    have HE := Aside0.mk he
    clear he hm
    go_wp2_with fail
    go_ret
    rw [HE.out]
    exact ⟨rfl, HT.out.bind (HI2.out.setBad true)⟩
  · have hm' : wrap64 z ≤ most := by omega
    have he : lowI (bs, bad) size most = (if bd = true then 0 else wrap64 z, b1, bd) := by rw [HLI.out, decide_eq_false hm, Bool.and_false, Bool.or_false]
    have HE := Aside0.mk he
    clear he hm
    cases bd
    · go_wp2_with fail
      go_ret
      rw [HE.out, if_neg (by decide)]
      exact ⟨rfl, HT.out⟩
    · go_wp2_with fail
      go_ret
      rw [HE.out]
      exact ⟨rfl, HT.out⟩
set_option maxRecDepth 100000 in
set_option maxHeartbeats 400000 in
theorem rinbyte_run (w0 w : World) (p : Nat) (A : Option Addr) (c : Nat) (bs : List Int) (bad : Bool) (h : RIn w0 w p A c bs bad) :
    Calls Try.prog 27 #[.pointer (some ⟨p, 0, none⟩)] w fun r w' => r = .returned (.int .i64 (lowI (bs, bad) 1 255).1) ∧ RInTo w0 w p (lowI (bs, bad) 1 255).2 w' := by
  have HP := Aside0.mk (rincount_run w0 w p A c bs bad 1 255 (by decide) h)
  clear h
  go_enter Try.func27, Try.ntmps27
  go_wp2_with fail
  with_reducible refine HP.out.mono ?_
  rintro r w2 ⟨rfl, hT⟩
  have HT := Aside0.mk hT
  clear hT
  go_wp2_with fail
  go_ret
  exact ⟨rfl, HT.out⟩
set_option maxRecDepth 100000 in
set_option maxHeartbeats 400000 in
theorem rinshort_run (w0 w : World) (p : Nat) (A : Option Addr) (c : Nat) (bs : List Int) (bad : Bool) (h : RIn w0 w p A c bs bad) :
    Calls Try.prog 29 #[.pointer (some ⟨p, 0, none⟩)] w fun r w' => r = .returned (.int .i64 (lowI (bs, bad) 2 65535).1) ∧ RInTo w0 w p (lowI (bs, bad) 2 65535).2 w' := by
  have HP := Aside0.mk (rincount_run w0 w p A c bs bad 2 65535 (by decide) h)
  clear h
  go_enter Try.func29, Try.ntmps29
  go_wp2_with fail
  with_reducible refine HP.out.mono ?_
  rintro r w2 ⟨rfl, hT⟩
  have HT := Aside0.mk hT
  clear hT
  go_wp2_with fail
  go_ret
  exact ⟨rfl, HT.out⟩
set_option maxRecDepth 100000 in
set_option maxHeartbeats 400000 in
theorem rinmany_run (w0 w : World) (p : Nat) (A : Option Addr) (c : Nat) (bs : List Int) (bad : Bool) (h : RIn w0 w p A c bs bad) :
    Calls Try.prog 50 #[.pointer (some ⟨p, 0, none⟩)] w fun r w' => r = .returned (.int .i64 (lowI (bs, bad) 2 4096).1) ∧ RInTo w0 w p (lowI (bs, bad) 2 4096).2 w' := by
  have HP := Aside0.mk (rincount_run w0 w p A c bs bad 2 4096 (by decide) h)
  clear h
  go_enter Try.func50, Try.ntmps50
  go_wp2_with fail
  with_reducible refine HP.out.mono ?_
  rintro r w2 ⟨rfl, hT⟩
  have HT := Aside0.mk hT
  clear hT
  go_wp2_with fail
  go_ret
  exact ⟨rfl, HT.out⟩
theorem lowI8 (s : List Int × Bool) (most : Int) : lowI s 8 most = (wrap64 (leN (takeS s 8).1), (takeS s 8).2) := by
  unfold lowI
  simp only [show decide ((8 : Int) < 8) = false by decide, Bool.false_and, Bool.or_false]
  by_cases c : (takeS s 8).2.2 = true
  · rw [if_pos c]
    have h : (takeS s 8).1 = [] := by
      unfold takeS at c ⊢
      split
      · rfl
      · rename_i h; rw [if_neg h] at c; cases c
    rw [h, show wrap64 (leN []) = 0 by kernel_rfl]
  · rw [if_neg c]
set_option maxRecDepth 100000 in
set_option maxHeartbeats 400000 in
theorem rinint_run (w0 w : World) (p : Nat) (A : Option Addr) (c : Nat) (bs : List Int) (bad : Bool) (h : RIn w0 w p A c bs bad) :
    Calls Try.prog 30 #[.pointer (some ⟨p, 0, none⟩)] w fun r w' => r = .returned (.int .i64 (lowI (bs, bad) 8 0).1) ∧ RInTo w0 w p (lowI (bs, bad) 8 0).2 w' := by
  rw [lowI8]
  have HP := Aside0.mk (rinlow_run w0 w p A c bs bad 8 (by decide) h)
  obtain ⟨z, hz⟩ : ∃ z, z = leN (takeS (bs, bad) 8).1 := ⟨_, rfl⟩
  rw [← hz] at HP ⊢
  clear h hz
  go_enter Try.func30, Try.ntmps30
  go_wp2_with fail
  with_reducible refine HP.out.mono ?_
  rintro r w2 ⟨rfl, hT⟩
  have HT := Aside0.mk hT
  clear hT
  go_wp2_with fail
  go_ret
  exact ⟨rfl, HT.out⟩
set_option maxRecDepth 100000 in
set_option maxHeartbeats 400000 in
theorem rinflag_run (w0 w : World) (p : Nat) (A : Option Addr) (c : Nat) (bs : List Int) (bad : Bool) (h : RIn w0 w p A c bs bad) :
    Calls Try.prog 31 #[.pointer (some ⟨p, 0, none⟩)] w fun r w' => r = .returned (.bool (flagG (bs, bad)).1) ∧ RInTo w0 w p (flagG (bs, bad)).2 w' := by
  have HP := Aside0.mk (rincount_run w0 w p A c bs bad 1 1 (by decide) h)
  obtain ⟨z, hz⟩ : ∃ z, z = (lowI (bs, bad) 1 1).1 := ⟨_, rfl⟩
  have HG := Aside0.mk (show (flagG (bs, bad)).1 = (z == 1) by rw [hz]; rfl)
  rw [← hz] at HP
  clear h hz
  go_enter Try.func31, Try.ntmps31
  go_wp2_with fail
  with_reducible refine HP.out.mono ?_
  rintro r w2 ⟨rfl, hT⟩
  have HT := Aside0.mk hT
  clear hT
  go_wp2_with fail
  go_ret
  rw [HG.out]
  exact ⟨rfl, HT.out⟩
set_option maxRecDepth 100000 in
set_option maxHeartbeats 400000 in
theorem rinblob_run (w0 w : World) (p : Nat) (A : Option Addr) (c : Nat) (bs : List Int) (bad : Bool) (h : RIn w0 w p A c bs bad) :
    Calls Try.prog 51 #[.pointer (some ⟨p, 0, none⟩)] w fun r w' => ∃ v : Value, r = .returned v ∧ Kd.R (Kd.int .u8) 5 w' w.heap.size (fun _ => True) v (blobG (bs, bad)).1 ∧ RInTo w0 w p (blobG (bs, bad)).2 w' := by
  have HP := Aside0.mk (rincount_run w0 w p A c bs bad 4 65536 (by decide) h)
  clear h
  go_enter Try.func51, Try.ntmps51
  go_wp2_with fail
  with_reducible refine HP.out.mono ?_
  rintro r w1 ⟨rfl, hT⟩
  have HT := Aside0.mk hT
  obtain ⟨⟨A1, c1, hI1⟩, hk1⟩ := hT
  have HI1 := Aside0.mk hI1
  have hz1 := hk1.1
  clear hI1 hk1
  go_wp2_with fail
  refine (rtake_run w0 w1 p A1 c1 _ _ _ HI1.out).mono ?_
  rintro r w2 ⟨v, rfl, hR, hT2⟩
  have HX := Aside0.mk (And.intro hR hT2)
  clear hR hT2
  go_wp2_with fail
  go_ret
  exact ⟨v, rfl, Kd.R_lower HX.out.1 hz1, HT.out.bind HX.out.2⟩
end Go.Proofs.Ytdlkkjfbbeffbaa.P
