import Derived.Test.YtjkjpmfenillcaaCodecA
import Derived.Test.YtjkjpmfenillcaaModA
import Derived.Test.YtjkjpmfenillcaaPF22
import Derived.BigQuiet
import Derived.Deep.RegionLaw
/- The reference's Out, its small methods; In: what they come to; no statement of the seat. -/
set_option linter.unusedVariables false
set_option linter.unusedSimpArgs false
namespace Go.Proofs.Ytjkjpmfenillcaa.P
open Go.RowKit Go.Proofs.YtjkjpmfenillcaaW.PrintWords Go.Proofs.YtjkjpmfenillcaaW.PrintLast Go.Proofs.YtjkjpmfenillcaaW.PrintMore
/-- A block 'In' of the reference; what it reads lay ahead of it. -/
structure RIn (w0 w : World) (p : Nat) (A : Option Addr) (c : Nat) (bs : List Int) (bad : Bool) : Prop where
  le : w0.heap.size ≤ p
  blk : w.heap[p]? = some (.cells #[.slice A bs.length c, .bool bad] 79 (0, 0))
  rd : Kd.C (Kd.int .u8) w0 A bs.length bs
  cap : bs.length ≤ c
  ok : okL bs
  lo : Below w0.heap.size w0 w
def RInTo (w0 w : World) (p : Nat) (s : List Int × Bool) (w' : World) : Prop := (∃ A c, RIn w0 w' p A c s.1 s.2) ∧ KeepBut w w' p none
theorem RIn.setBad {w0 w : World} {p : Nat} {A : Option Addr} {c : Nat} {bs : List Int} {bad : Bool} (h : RIn w0 w p A c bs bad) (b' : Bool) : RInTo w0 w p (bs, b') (w.setCell ⟨p, 1, none⟩ (.bool b')) :=
  ⟨⟨A, c, h.le, blk_set h.blk 1 _, h.rd, h.cap, h.ok, h.lo.setCell (p := ⟨p, 1, none⟩) h.le _⟩, (KeepBut.refl _ _ _).set_ 1 _⟩
theorem RInTo.refl {w0 w : World} {p : Nat} {A : Option Addr} {c : Nat} {bs : List Int} {bad : Bool} (h : RIn w0 w p A c bs bad) : RInTo w0 w p (bs, bad) w := ⟨⟨A, c, h⟩, KeepBut.refl _ _ _⟩
theorem RInTo.bind {w0 w w1 w2 : World} {p : Nat} {s s' : List Int × Bool} (h1 : RInTo w0 w p s w1) (h2 : RInTo w0 w1 p s' w2) : RInTo w0 w p s' w2 := ⟨h2.1, h1.2.trans h2.2 (.inl rfl)⟩
theorem RInTo.past2 {w0 w w1 : World} {p : Nat} {s : List Int × Bool} (h : RInTo w0 w p s w1) (hp : p < w.heap.size) {w2 : World} (hb : Below w.heap.size w1 w2) (h0 : w0.heap.size ≤ w.heap.size) : RInTo w0 w p s w2 := by
  obtain ⟨⟨A, c, h1⟩, hk⟩ := h
  exact ⟨⟨A, c, h1.le, (hb.block p hp).trans h1.blk, h1.rd, h1.cap, h1.ok, h1.lo.trans (hb.mono h0)⟩, Nat.le_trans hk.1 hb.size, fun i hi h1 h2 => (hb.block i hi).trans (hk.2 i hi h1 h2)⟩
theorem RIn.below {w0 w w1 : World} {p : Nat} {A : Option Addr} {c : Nat} {bs : List Int} {bad : Bool} (h : RIn w0 w p A c bs bad) (hb : Below w.heap.size w w1) : RIn w0 w1 p A c bs bad := ⟨h.le, blk_below h.blk hb, h.rd, h.cap, h.ok, h.lo.trans (hb.mono h.lo.size)⟩
set_option maxRecDepth 100000 in
set_option maxHeartbeats 4000000 in
theorem rtake_run (w0 w : World) (p : Nat) (A : Option Addr) (c : Nat) (bs : List Int) (bad : Bool) (n : Int) (h : RIn w0 w p A c bs bad) :
    Calls Try.prog 29 #[.pointer (some ⟨p, 0, none⟩), .int .i64 n] w fun r w' => ∃ v : Value, r = .returned v ∧ Kd.R (Kd.int .u8) 5 w' w.heap.size (fun _ => True) v (takeS (bs, bad) n).1 ∧ RInTo w0 w p (takeS (bs, bad) n).2 w' := by
  have HI := Aside0.mk h
  have c0 : w.cell? ⟨p, 0, none⟩ = some (.slice A bs.length c) := blk_cell h.blk 0
  have c1 : w.cell? ⟨p, 1, none⟩ = some (.bool bad) := blk_cell h.blk 1
  have f0 := blkO_free h.blk 0
  have f1 := blkO_free h.blk 1
  have hmx := Kd.C_max h.rd
  clear h
  by_cases hb : bad = true
  · subst hb
    have hs : takeS (bs, true) n = ([], bs, true) := by unfold takeS; rw [if_pos (.inl rfl)]
    rw [hs]
    clear hs
    go_enter Try.func29, Try.ntmps29
    go_wp2_with fail
    go_ret
    exact ⟨_, rfl, Kd.R_nil _ _ _ _ _, HI.out.setBad true⟩
  · obtain rfl : bad = false := by cases bad <;> simp_all
    clear hb
    by_cases h0 : n < 0
    · have hs : takeS (bs, false) n = ([], bs, true) := by unfold takeS; rw [if_pos (.inr (.inl h0))]
      rw [hs]
      clear hs
      go_enter Try.func29, Try.ntmps29
      go_wp2_with fail
      go_ret
      exact ⟨_, rfl, Kd.R_nil _ _ _ _ _, HI.out.setBad true⟩
    · by_cases h1 : n > bs.length
      · have hs : takeS (bs, false) n = ([], bs, true) := by unfold takeS; rw [if_pos (.inr (.inr h1))]
        rw [hs]
        clear hs
        have h1' : (bs.length : Int) < n := h1
        have h0' : 0 ≤ n := by omega
        clear h0 h1
        go_enter Try.func29, Try.ntmps29
        go_wp2_with fail
        go_ret
        exact ⟨_, rfl, Kd.R_nil _ _ _ _ _, HI.out.setBad true⟩
      · have hs : takeS (bs, false) n = (bs.take n.toNat, bs.drop n.toNat, false) := by unfold takeS; rw [if_neg (by simp only [Bool.false_eq_true, false_or, not_or]; omega)]
        rw [hs]
        clear hs
        have h1' : n ≤ (bs.length : Int) := by omega
        have h0' : 0 ≤ n := by omega
        obtain ⟨i0, hi0, _, hs0, _⟩ := info_parts (show (Try.prog.info? 5).map (fun i => (i.zero, i.size, i.bytes)) = some (some (.int .u8 0), 1, 1) by kernel_rfl)
        obtain ⟨ht, htr, htl⟩ := print_take_of (P := Try.prog) (Value.int .u8) 0 22 5 .i64 Try.underlying22 hi0 hs0 A c bs n h0' h1' HI.out.cap
        obtain ⟨A', hd, hdr, hdl⟩ := print_drop_of (P := Try.prog) (Value.int .u8) 0 22 5 .i64 Try.underlying22 hi0 hs0 A c bs n h0' h1' HI.out.cap
        have HT := Aside0.mk (htr w0 (Kd.reads_of_C HI.out.rd))
        have HD := Aside0.mk (hdr w0 (Kd.reads_of_C HI.out.rd))
        have HL := Aside0.mk htl
        have HDL := Aside0.mk hdl
        clear hi0 hs0 htr hdr h0 h1 htl hdl
        have HO := Aside0.mk HI.out
        have lp : p < w.heap.size := blk_lt HI.out.blk
        have hsz := HI.out.ok.2
        have e1 : (bs.take n.toNat).length = n.toNat := by rw [List.length_take]; omega
        have E1 := Aside0.mk e1
        clear e1
        go_enter Try.func29, Try.ntmps29
        go_wp2_with (at_builtin; go_loud (refine Kd.R_append_rows (Kd.int .u8) (Rr := fun x cs => cs = [.int .u8 x]) (w0 := w) w.heap.size rfl (.tmp 26) (.tmp 32) 22 5 (.int .u8 0) 1 rfl Try.underlying22 (by kernel_rfl) rfl (by decide) (by decide) (.slice (some ⟨w.heap.size, 0, none⟩) 0 0) [] (bs.take n.toNat) A n.toNat c (fun _ => True) (fun _ => False) rfl rfl (empty_own w w.heap.size (Nat.le_refl _)) (Kd.C_alloc (by have h := Kd.C_below (Kd.C_of_reads (h1 := fun _ => rfl) HT.out) HI.out.lo; rw [E1.out] at h; exact h) _) (fun _ _ h => h) (fun _ hk => hk.elim) (fun _ _ => trivial) (below_alloc (Below.refl _ _) _) (by rw [World.size_alloc]; omega) (by simp; omega) ?_; intro v1 w1 ho hb1 hg hat; obtain ⟨A1, c1', hv1⟩ := Kd.R_slice ho; subst hv1; simp only [List.nil_append] at ho hat; rw [E1.out] at ho hat; have hb := blk_below HO.out.blk hb1; have d0 : w1.cell? ⟨p, 0, none⟩ = some (.slice A bs.length c) := blk_cell hb 0; have g0 := blkO_free hb 0; have HX := Aside0.mk (And.intro ho (And.intro hb1 hb)); clear ho hb1 hg hat hb))
        go_ret
        obtain ⟨ho, hb1, hb⟩ := HX.out
        refine ⟨_, rfl, ?_, ⟨A', c - n.toNat, HI.out.le, ?_, Kd.C_of_reads (h1 := fun _ => rfl) HD.out, HDL.out, HI.out.ok.drop _, (HI.out.lo.trans (hb1.mono HI.out.lo.size)).setCell (p := ⟨p, 0, none⟩) HI.out.le _⟩, (KeepBut.of_below hb1 p none).set_ 0 _⟩
        · exact Kd.R_mono (Kd.R_far (Kd.R_bound ho) (p := ⟨p, 0, none⟩) (fun k hk => by have := hk.2.1; show k ≠ p; omega) _) (fun _ hk => hk.1)
        · have hb2 := blk_set hb 0 (.slice A' (bs.length - n.toNat) (c - n.toNat))
          rw [← List.length_drop] at hb2
          rw [← List.length_drop]
          exact hb2
theorem leN_cons_back (o : List Int) (k : Nat) (h : k < o.length) : leN (o.drop k) = rd o (k : Int) + 256 * leN (o.drop (k + 1)) := by
  rw [← List.getElem_cons_drop h, leN]
  unfold rd
  rw [Int.toNat_natCast, List.getD_eq_getElem?_getD, List.getElem?_eq_getElem h]
  rfl
set_option maxRecDepth 100000 in
set_option maxHeartbeats 400000 in
theorem rinlow_run (w0 w : World) (p : Nat) (A : Option Addr) (c : Nat) (bs : List Int) (bad : Bool) (size : Int) (h8 : size ≤ 8) (h : RIn w0 w p A c bs bad) :
    Calls Try.prog 65 #[.pointer (some ⟨p, 0, none⟩), .int .i64 size] w fun r w' => r = .returned (.int .u64 (leN (takeS (bs, bad) size).1)) ∧ RInTo w0 w p (takeS (bs, bad) size).2 w' := by
  have HI := Aside0.mk h
  clear h
  have hok : okB (takeS (bs, bad) size).1 ∧ (takeS (bs, bad) size).1.length ≤ 8 := by
    unfold takeS
    split
    · exact ⟨by intro y hy; simp at hy, by simp⟩
    · exact ⟨HI.out.ok.1.take _, by simp only [List.length_take]; omega⟩
  have HT0 := Aside0.mk (rtake_run w0 w p A c bs bad size HI.out)
  generalize takeS (bs, bad) size = T at *
  obtain ⟨o, b1, bd⟩ := T
  dsimp only at *
  have HOK := Aside0.mk hok
  have hmx : o.length ≤ 8 := hok.2
  clear hok
  go_enter Try.func65, Try.ntmps65
  go_wp2_with fail
  refine HT0.out.mono ?_
  rintro r w1 ⟨v, rfl, hR, hT⟩
  obtain ⟨A5, c5, hv, _, hC⟩ := Kd.R_reads hR
  subst hv
  have HC := Aside0.mk hC
  have HT := Aside0.mk hT
  clear hR hT hC
  go_wp2_with fail
  go_loop [6, 7] (fun v6 v7 => ∃ k : Nat, v7 = .int .i64 ((k : Int) - 1) ∧ k ≤ o.length ∧ v6 = .int .u64 (leN (o.drop k))) (fun _ v7 => (intOf v7 + 1).toNat)
  case atStart => exact ⟨o.length, rfl, Nat.le_refl _, by rw [List.drop_length]; rfl⟩
  case round =>
    obtain ⟨k, rfl, hk, rfl⟩ := hrel
    by_cases hz : k = 0
    · subst hz
      rw [List.drop_zero]
      go_wp2_with fail
      go_ret
      exact ⟨rfl, HT.out⟩
    · obtain ⟨k, rfl⟩ : ∃ q, k = q + 1 := ⟨k - 1, by omega⟩
      rw [show ((k + 1 : Nat) : Int) - 1 = (k : Int) by omega]
      obtain ⟨ad, rfl, hc⟩ := Kd.at_int HC.out (k : Int) (by omega) (by omega)
      rw [Int.toNat_natCast] at hc
      have hb : 0 ≤ rd o k ∧ rd o k < 256 := by
        unfold rd
        rw [Int.toNat_natCast, List.getD_eq_getElem?_getD, List.getElem?_eq_getElem (by omega)]
        exact HOK.out.1 _ (List.getElem_mem (by omega))
      have hs := leN_range (o.drop (k + 1)) (HOK.out.1.drop _)
      have hp : (256 : Int) ^ (o.drop (k + 1)).length ≤ 72057594037927936 := (show ∀ k, k < 8 → (256 : Int) ^ k ≤ 72057594037927936 by decide) _ (by rw [List.length_drop]; omega)
      have HE := Aside0.mk (leN_cons_back o k (by omega))
      obtain ⟨z, hz⟩ : ∃ z, z = leN (o.drop (k + 1)) := ⟨_, rfl⟩
      obtain ⟨y, hy⟩ : ∃ y, y = rd o (k : Int) := ⟨_, rfl⟩
      rw [← hz, ← hy] at HE
      rw [← hz] at hs ⊢
      rw [← hy] at hc hb
      have z0 : 0 ≤ z := hs.1
      have z1 : z < 72057594037927936 := by omega
      obtain ⟨b0, b1⟩ := hb
      clear hs hp hz hy
      go_wp2_with fail
      go_round
      case rel => exact ⟨k, by first | rfl | go_num, by omega, by rw [HE.out]; first | go_num | (congr 1; omega)⟩
      case measure => first | (simp [intOf]; done) | (simp [intOf]; omega)
set_option maxRecDepth 100000 in
set_option maxHeartbeats 400000 in
theorem rincount_run (w0 w : World) (p : Nat) (A : Option Addr) (c : Nat) (bs : List Int) (bad : Bool) (size most : Int) (h8 : size < 8) (h : RIn w0 w p A c bs bad) :
    Calls Try.prog 64 #[.pointer (some ⟨p, 0, none⟩), .int .i64 size, .int .i64 most] w fun r w' => r = .returned (.int .i64 (lowI (bs, bad) size most).1) ∧ RInTo w0 w p (lowI (bs, bad) size most).2 w' := by
  have HL := Aside0.mk (rinlow_run w0 w p A c bs bad size (by omega) h)
  have HLI := Aside0.mk (show lowI (bs, bad) size most = (if ((takeS (bs, bad) size).2.2 || (decide (size < 8) && decide (wrap64 (leN (takeS (bs, bad) size).1) > most))) = true then 0 else wrap64 (leN (takeS (bs, bad) size).1), (takeS (bs, bad) size).2.1, (takeS (bs, bad) size).2.2 || (decide (size < 8) && decide (wrap64 (leN (takeS (bs, bad) size).1) > most))) from rfl)
  rw [decide_eq_true h8] at HLI
  clear h
  generalize takeS (bs, bad) size = T at *
  obtain ⟨o, b1, bd⟩ := T
  dsimp only at *
  obtain ⟨z, hz⟩ : ∃ z, z = leN o := ⟨_, rfl⟩
  rw [← hz] at HL HLI
  clear hz
  go_enter Try.func64, Try.ntmps64
  go_wp2_with fail
  refine HL.out.mono ?_
  rintro r w1 ⟨rfl, hT⟩
  have HT := Aside0.mk hT
  obtain ⟨⟨A2, c2, hI2⟩, hk2⟩ := hT
  have HI2 := Aside0.mk hI2
  have d1 : w1.cell? ⟨p, 1, none⟩ = some (.bool bd) := blk_cell hI2.blk 1
  have g1 := blkO_free hI2.blk 1
  clear hI2 hk2
  by_cases hm : wrap64 z > most
  · have hm' : most < wrap64 z := hm
    have he : lowI (bs, bad) size most = (0, b1, true) := by rw [HLI.out, decide_eq_true hm, Bool.true_and, Bool.or_true, if_pos rfl]
    have HE := Aside0.mk he
    clear he hm
    go_wp2_with fail
    go_ret
    rw [HE.out]
    exact ⟨rfl, HT.out.bind (HI2.out.setBad true)⟩
  · have hm' : wrap64 z ≤ most := by omega
    have he : lowI (bs, bad) size most = (if bd = true then 0 else wrap64 z, b1, bd) := by rw [HLI.out, decide_eq_false hm, Bool.and_false, Bool.or_false]
    have HE := Aside0.mk he
    clear he hm
    cases bd
    · go_wp2_with fail
      go_ret
      rw [HE.out, if_neg (by decide)]
      exact ⟨rfl, HT.out⟩
    · go_wp2_with fail
      go_ret
      rw [HE.out]
      exact ⟨rfl, HT.out⟩
set_option maxRecDepth 100000 in
set_option maxHeartbeats 400000 in
theorem rinbyte_run (w0 w : World) (p : Nat) (A : Option Addr) (c : Nat) (bs : List Int) (bad : Bool) (h : RIn w0 w p A c bs bad) :
    Calls Try.prog 32 #[.pointer (some ⟨p, 0, none⟩)] w fun r w' => r = .returned (.int .i64 (lowI (bs, bad) 1 255).1) ∧ RInTo w0 w p (lowI (bs, bad) 1 255).2 w' := by
  have HP := Aside0.mk (rincount_run w0 w p A c bs bad 1 255 (by decide) h)
  clear h
  go_enter Try.func32, Try.ntmps32
  go_wp2_with fail
  with_reducible refine HP.out.mono ?_
  rintro r w2 ⟨rfl, hT⟩
  have HT := Aside0.mk hT
  clear hT
  go_wp2_with fail
  go_ret
  exact ⟨rfl, HT.out⟩
set_option maxRecDepth 100000 in
set_option maxHeartbeats 400000 in
theorem rinmany_run (w0 w : World) (p : Nat) (A : Option Addr) (c : Nat) (bs : List Int) (bad : Bool) (h : RIn w0 w p A c bs bad) :
    Calls Try.prog 30 #[.pointer (some ⟨p, 0, none⟩)] w fun r w' => r = .returned (.int .i64 (lowI (bs, bad) 2 4096).1) ∧ RInTo w0 w p (lowI (bs, bad) 2 4096).2 w' := by
  have HP := Aside0.mk (rincount_run w0 w p A c bs bad 2 4096 (by decide) h)
  clear h
  go_enter Try.func30, Try.ntmps30
  go_wp2_with fail
  with_reducible refine HP.out.mono ?_
  rintro r w2 ⟨rfl, hT⟩
  have HT := Aside0.mk hT
  clear hT
  go_wp2_with fail
  go_ret
  exact ⟨rfl, HT.out⟩
theorem lowI8 (s : List Int × Bool) (most : Int) : lowI s 8 most = (wrap64 (leN (takeS s 8).1), (takeS s 8).2) := by
  unfold lowI
  simp only [show decide ((8 : Int) < 8) = false by decide, Bool.false_and, Bool.or_false]
  by_cases c : (takeS s 8).2.2 = true
  · rw [if_pos c]
    have h : (takeS s 8).1 = [] := by
      unfold takeS at c ⊢
      split
      · rfl
      · rename_i h; rw [if_neg h] at c; cases c
    rw [h, show wrap64 (leN []) = 0 by kernel_rfl]
  · rw [if_neg c]
set_option maxRecDepth 100000 in
set_option maxHeartbeats 400000 in
theorem rinint_run (w0 w : World) (p : Nat) (A : Option Addr) (c : Nat) (bs : List Int) (bad : Bool) (h : RIn w0 w p A c bs bad) :
    Calls Try.prog 31 #[.pointer (some ⟨p, 0, none⟩)] w fun r w' => r = .returned (.int .i64 (lowI (bs, bad) 8 0).1) ∧ RInTo w0 w p (lowI (bs, bad) 8 0).2 w' := by
  rw [lowI8]
  have HP := Aside0.mk (rinlow_run w0 w p A c bs bad 8 (by decide) h)
  obtain ⟨z, hz⟩ : ∃ z, z = leN (takeS (bs, bad) 8).1 := ⟨_, rfl⟩
  rw [← hz] at HP ⊢
  clear h hz
  go_enter Try.func31, Try.ntmps31
  go_wp2_with fail
  with_reducible refine HP.out.mono ?_
  rintro r w2 ⟨rfl, hT⟩
  have HT := Aside0.mk hT
  clear hT
  go_wp2_with fail
  go_ret
  exact ⟨rfl, HT.out⟩
set_option maxRecDepth 100000 in
set_option maxHeartbeats 400000 in
theorem rinblob_run (w0 w : World) (p : Nat) (A : Option Addr) (c : Nat) (bs : List Int) (bad : Bool) (h : RIn w0 w p A c bs bad) :
    Calls Try.prog 33 #[.pointer (some ⟨p, 0, none⟩)] w fun r w' => ∃ v : Value, r = .returned v ∧ Kd.R (Kd.int .u8) 5 w' w.heap.size (fun _ => True) v (blobG (bs, bad)).1 ∧ RInTo w0 w p (blobG (bs, bad)).2 w' := by
  have HP := Aside0.mk (rincount_run w0 w p A c bs bad 4 65536 (by decide) h)
  clear h
  go_enter Try.func33, Try.ntmps33
  go_wp2_with fail
  with_reducible refine HP.out.mono ?_
  rintro r w1 ⟨rfl, hT⟩
  have HT := Aside0.mk hT
  obtain ⟨⟨A1, c1, hI1⟩, hk1⟩ := hT
  have HI1 := Aside0.mk hI1
  have hz1 := hk1.1
  clear hI1 hk1
  go_wp2_with fail
  refine (rtake_run w0 w1 p A1 c1 _ _ _ HI1.out).mono ?_
  rintro r w2 ⟨v, rfl, hR, hT2⟩
  have HX := Aside0.mk (And.intro hR hT2)
  clear hR hT2
  go_wp2_with fail
  go_ret
  exact ⟨v, rfl, Kd.R_lower HX.out.1 hz1, HT.out.bind HX.out.2⟩
end Go.Proofs.Ytjkjpmfenillcaa.P
/- The reference's Decode is the program's; no statement of the seat. -/
set_option linter.unusedVariables false
set_option linter.unusedSimpArgs false
namespace Go.Proofs.Ytjkjpmfenillcaa.P
open Go.RowKit Go.Proofs.YtjkjpmfenillcaaW.PrintWords Go.Proofs.YtjkjpmfenillcaaW.PrintLast Go.Proofs.YtjkjpmfenillcaaW.PrintMore
theorem rdfn_get (l : List FnS) (i : Nat) (h : i < l.length) : rd_T41 l (i : Int) = l[i] := by
  unfold rd_T41
  rw [Int.toNat_natCast, List.getD_eq_getElem?_getD, List.getElem?_eq_getElem h]
  rfl
theorem rmay_l0 (l0 : List Int) (l1 : List FnS) (hl : l1.length ≤ 32) : ∀ (d i k : Nat), i + d = l1.length → pianolaref06_May.l0 (k + 1 + d) (i : Int) l0 l1 = some ((l1.drop i).all fnOK)
  | 0, i, k, h => by
    rw [Nat.add_zero, pianolaref06_May.l0, if_neg (by omega), List.drop_of_length_le (by omega)]
    rfl
  | d + 1, i, k, h => by
    have hw : wrap64 ((i : Int) + 1) = ((i + 1 : Nat) : Int) := by unfold wrap64; omega
    have h0 : i < l1.length := by omega
    have ih := rmay_l0 l0 l1 hl d (i + 1) k (by omega)
    rw [show k + 1 + (d + 1) = (k + 1 + d) + 1 by omega, pianolaref06_May.l0, if_pos (by omega), if_pos (by omega), rdfn_get l1 i h0, hw, ih, ← List.getElem_cons_drop h0, List.all_cons]
    have hf : fnOK l1[i] = (decide (0 ≤ l1[i].f0) && decide (l1[i].f0 ≤ 8) && decide (l1[i].f0 ≤ l1[i].f1) && decide (l1[i].f1 ≤ 16) && decide (1 ≤ l1[i].f2.length) && decide (l1[i].f2.length ≤ 4096)) := by
      unfold fnOK
      simp [Bool.and_assoc]
    rw [hf]
    by_cases c1 : l1[i].f0 < 0
    · rw [if_pos c1, decide_eq_false (show ¬ (0 ≤ l1[i].f0) by omega)]; simp
    by_cases c2 : l1[i].f0 > 8
    · rw [if_neg c1, if_pos c2, decide_eq_false (show ¬ (l1[i].f0 ≤ 8) by omega)]; simp
    by_cases c3 : l1[i].f1 < l1[i].f0
    · rw [if_neg c1, if_neg c2, if_pos c3, decide_eq_false (show ¬ (l1[i].f0 ≤ l1[i].f1) by omega)]; simp
    by_cases c4 : l1[i].f1 > 16
    · rw [if_neg c1, if_neg c2, if_neg c3, if_pos c4, decide_eq_false (show ¬ (l1[i].f1 ≤ 16) by omega)]; simp
    by_cases c5 : (l1[i].f2.length : Int) < 1
    · rw [if_neg c1, if_neg c2, if_neg c3, if_neg c4, if_pos c5, decide_eq_false (show ¬ (1 ≤ l1[i].f2.length) by omega)]; simp
    by_cases c6 : (l1[i].f2.length : Int) > 4096
    · rw [if_neg c1, if_neg c2, if_neg c3, if_neg c4, if_neg c5, if_pos c6, decide_eq_false (show ¬ (l1[i].f2.length ≤ 4096) by omega)]; simp
    rw [if_neg c1, if_neg c2, if_neg c3, if_neg c4, if_neg c5, if_neg c6]
    rw [decide_eq_true (show 0 ≤ l1[i].f0 by omega), decide_eq_true (show l1[i].f0 ≤ 8 by omega), decide_eq_true (show l1[i].f0 ≤ l1[i].f1 by omega), decide_eq_true (show l1[i].f1 ≤ 16 by omega), decide_eq_true (show 1 ≤ l1[i].f2.length by omega), decide_eq_true (show l1[i].f2.length ≤ 4096 by omega)]
    simp
theorem rmay_is (l0 : List Int) (l1 : List FnS) : ∃ k, pianolaref06_May.f k l0 l1 = some (mayM l0 l1) := by
  refine ⟨1 + l1.length + 1, ?_⟩
  unfold pianolaref06_May.f mayM
  by_cases c1 : (l0.length : Int) > 256
  · rw [if_pos c1, pianolaref06_May.j0, if_pos rfl, decide_eq_false (show ¬ (l0.length ≤ 256) by omega)]; simp
  by_cases c2 : (l1.length : Int) < 1
  · rw [if_neg c1, if_pos c2, pianolaref06_May.j0, if_pos rfl, decide_eq_false (show ¬ (1 ≤ l1.length) by omega)]; simp
  rw [if_neg c1, if_neg c2, pianolaref06_May.j0]
  by_cases c3 : (l1.length : Int) > 32
  · rw [if_pos (by simpa using c3), decide_eq_false (show ¬ (l1.length ≤ 32) by omega)]; simp
  · rw [if_neg (by simpa using c3)]
    have h := rmay_l0 l0 l1 (by omega) l1.length 0 0 (by omega)
    rw [show 0 + 1 + l1.length = 1 + l1.length by omega, List.drop_zero] at h
    rw [show ((0 : Nat) : Int) = 0 from rfl] at h
    rw [h, decide_eq_true (show l0.length ≤ 256 by omega), decide_eq_true (show 1 ≤ l1.length by omega), decide_eq_true (show l1.length ≤ 32 by omega)]
    simp
/-- Decode, by what was read. -/
def rdM (b : List Int) (mg cn : List Int) (fs : List Fn3) (s : List Int × Bool) : List Int × List FnS × Int :=
  if s.2 = false ∧ s.1.length = 0 ∧ (strOfNums mg).toList = [80, 78, 76, 49] ∧ mayM cn (fs.map unfn) = true then (cn, fs.map unfn, 0) else ([], [], 10)
theorem decM_reads (b : List Int) (hb : b.length ≤ 1048576) (mg cn : List Int) (fs : List Fn3) (s : List Int × Bool) (h : wholeG (b, false) = ((mg, cn, fs), s)) : decM b = rdM b mg cn fs s := by
  unfold decM rdM decR fstR
  rw [h]
  obtain ⟨r, bad⟩ := s
  simp only []
  cases bad
  · have h1 : decide ((b.length : Int) - (r.length : Int) > 1048576) = false := by simp; omega
    rw [h1, Bool.or_false, if_neg (show ¬ (false = true) by decide), if_neg (show ¬ ((0 : Int) ≠ 0) by decide)]
    simp only []
    by_cases c : r.length = 0
    · rw [if_neg (show ¬ ((b.length : Int) - (r.length : Int) < (b.length : Int)) by omega)]
      simp only [true_and, c]
    · rw [if_pos (show (b.length : Int) - (r.length : Int) < (b.length : Int) by omega), if_neg (by rintro ⟨h0, _⟩; revert h0; decide), if_neg (by rintro ⟨_, h0, _⟩; exact c h0)]
  · rw [Bool.true_or, if_pos rfl, if_pos (show (10 : Int) ≠ 0 by decide), if_neg (by rintro ⟨h0, _⟩; cases h0), if_neg (by rintro ⟨h0, _⟩; cases h0)]
theorem whole_steps (s0 s1 s2 s3 s4 : List Int × Bool) (mg cn : List Int) (fs : List Fn3) (n1 n2 : Int) (h0 : takeS s0 4 = (mg, s1)) (h1 : lowI s1 2 4096 = (n1, s2)) (h2 : manyIn intG n1.toNat [] s2 = (cn, s3)) (h3 : lowI s3 2 4096 = (n2, s4)) (s5 : List Int × Bool) (h4 : manyIn fnG n2.toNat [] s4 = (fs, s5)) : wholeG s0 = ((mg, cn, fs), s5) := by
  have e0 : fixG 4 s0 = (mg, s1) := by
    unfold fixG
    rw [show (s0.1, s0.2 || !mayN 4) = s0 by rw [show mayN 4 = true by kernel_rfl, Bool.not_true, Bool.or_false]]
    exact h0
  have e1 : manyR intG s1 = (cn, s3) := by unfold manyR; rw [h1]; exact h2
  have e2 : manyR fnG s3 = (fs, s5) := by unfold manyR; rw [h3]; exact h4
  unfold wholeG bothG2
  rw [e0, e1, e2]
/-- What ref.Decode holds in memory: its result, its reader, its module. -/
structure RB (w W : World) (v0 v1 : Value) (s : List Int × Bool) : Prop where
  inn : ∃ A c, RIn w W (w.heap.size + 1) A c s.1 s.2
  res : W.heap[w.heap.size]? = some (.cells #[.slice none 0 0, .slice none 0 0] 27 (0, 0))
  mod : W.heap[w.heap.size + 1 + 1]? = some (.cells #[v0, v1] 27 (0, 0))
theorem RB.drew {w W : World} {v0 v1 : Value} {s : List Int × Bool} (h : RB w W v0 v1 s) : RB w W.drew v0 v1 s := by
  obtain ⟨A, c, hi⟩ := h.inn
  exact ⟨⟨A, c, hi.le, blk_drew hi.blk, hi.rd, hi.cap, hi.ok, below_drew hi.lo⟩, blk_drew h.res, blk_drew h.mod⟩
theorem RB.read {w W W' : World} {v0 v1 : Value} {s s' : List Int × Bool} (h : RB w W v0 v1 s) (hT : RInTo w W (w.heap.size + 1) s' W') : RB w W' v0 v1 s' := by
  refine ⟨hT.1, hT.2.blk h.res (by omega) (by simp), hT.2.blk h.mod (by omega) (by simp)⟩
theorem RB.lt {w W : World} {v0 v1 : Value} {s : List Int × Bool} (h : RB w W v0 v1 s) : w.heap.size + 3 ≤ W.heap.size := blk_lt h.mod
theorem RB.below {w W W' : World} {v0 v1 : Value} {s : List Int × Bool} (h : RB w W v0 v1 s) {n : Nat} (hn : w.heap.size + 3 ≤ n) (hb : Below n W W') : RB w W' v0 v1 s := by
  obtain ⟨A, c, hi⟩ := h.inn
  have k : ∀ i, i < w.heap.size + 3 → W'.heap[i]? = W.heap[i]? := fun i h1 => hb.block i (by omega)
  exact ⟨⟨A, c, hi.le, (k _ (by omega)).trans hi.blk, hi.rd, hi.cap, hi.ok, hi.lo.trans (hb.mono (by omega))⟩, (k _ (by omega)).trans h.res, (k _ (by omega)).trans h.mod⟩
theorem RB.far {w W : World} {v0 v1 : Value} {s : List Int × Bool} (h : RB w W v0 v1 s) {p : Addr} (hp : w.heap.size + 3 ≤ p.block) (u : Value) : RB w (W.setCell p u) v0 v1 s := h.below (Nat.le_refl _) ((Below.refl _ _).setCell hp u)
theorem RB.set0 {w W : World} {v0 v1 : Value} {s : List Int × Bool} (h : RB w W v0 v1 s) (u : Value) : RB w (W.setCell ⟨w.heap.size + 1 + 1, 0, none⟩ u) u v1 s := by
  obtain ⟨A, c, hi⟩ := h.inn
  refine ⟨⟨A, c, hi.le, blk_far hi.blk (by show w.heap.size + 1 ≠ w.heap.size + 1 + 1; omega) _, hi.rd, hi.cap, hi.ok, hi.lo.setCell (p := ⟨w.heap.size + 1 + 1, 0, none⟩) (by show w.heap.size ≤ w.heap.size + 1 + 1; omega) _⟩, blk_far h.res (by show w.heap.size ≠ w.heap.size + 1 + 1; omega) _, blk_set h.mod 0 u⟩
theorem RB.set1 {w W : World} {v0 v1 : Value} {s : List Int × Bool} (h : RB w W v0 v1 s) (u : Value) : RB w (W.setCell ⟨w.heap.size + 1 + 1, 1, none⟩ u) v0 u s := by
  obtain ⟨A, c, hi⟩ := h.inn
  refine ⟨⟨A, c, hi.le, blk_far hi.blk (by show w.heap.size + 1 ≠ w.heap.size + 1 + 1; omega) _, hi.rd, hi.cap, hi.ok, hi.lo.setCell (p := ⟨w.heap.size + 1 + 1, 1, none⟩) (by show w.heap.size ≤ w.heap.size + 1 + 1; omega) _⟩, blk_far h.res (by show w.heap.size ≠ w.heap.size + 1 + 1; omega) _, blk_set h.mod 1 u⟩
theorem RB.lo {w W : World} {v0 v1 : Value} {s : List Int × Bool} (h : RB w W v0 v1 s) : Below w.heap.size w W := by
  obtain ⟨A, c, hi⟩ := h.inn
  exact hi.lo
theorem rint_is (s : List Int × Bool) : (lowI s 8 0) = intG s := rfl
abbrev NI (w W : World) (B : Nat) (v : Value) (xs : List Int) : Prop := Kd.N (Kd.int .i64) 3 W (w.heap.size + 3) (fun b => w.heap.size + 3 ≤ b ∧ b < B) v xs
theorem int_FK (W : World) (ok : Nat → Prop) (x : Int) : Kd.FK (Kd.int .i64) W ok x [.int .i64 x] := fun W' _ => rfl
structure L1 (w W : World) (n : Nat) (s2 : List Int × Bool) (k : Nat) (v0 : Value) (acc : List Int) (s : List Int × Bool) : Prop where
  rb : RB w W v0 (.slice none 0 0) s
  n0 : Kd.N (Kd.int .i64) 3 W (w.heap.size + 3) (fun b => w.heap.size + 3 ≤ b) v0 acc
  len : acc.length = k
  le : k ≤ n
  go : manyIn intG (n - k) acc s = manyIn intG n [] s2
theorem manyIn_step {α : Type} {G : List Int × Bool → α × List Int × Bool} {n k : Nat} {acc : List α} {bs : List Int} {z : List α × List Int × Bool} (hk : k < n) (h : manyIn G (n - k) acc (bs, false) = z) : manyIn G (n - (k + 1)) (acc ++ [(G (bs, false)).1]) (G (bs, false)).2 = z := by
  rw [show n - k = (n - (k + 1)) + 1 by omega, manyIn, if_neg (by simp)] at h
  exact h
theorem manyIn_end {α : Type} {G : List Int × Bool → α × List Int × Bool} {n k : Nat} {acc : List α} {s : List Int × Bool} {z : List α × List Int × Bool} (hk : k = n ∨ s.2 = true) (h : manyIn G (n - k) acc s = z) : z = (acc, s) := by
  rcases hk with rfl | hs
  · rw [Nat.sub_self, manyIn] at h; exact h.symm
  · rw [manyIn_stop G _ _ _ hs] at h; exact h.symm
/-- The same, and a function being read at fb. -/
structure FB (w W : World) (B1 fb : Nat) (v0 v1 : Value) (cn : List Int) (acc : List FnS) (s : List Int × Bool) (cs : Array Value) : Prop where
  rb : RB w W v0 v1 s
  n0 : Kd.N (Kd.int .i64) 3 W (w.heap.size + 3) (fun b => w.heap.size + 3 ≤ b ∧ b < B1) v0 cn
  n1 : Kd.N k41 41 W B1 (fun b => B1 ≤ b ∧ b < fb) v1 acc
  le : w.heap.size + 3 ≤ B1
  le2 : B1 ≤ fb
  box : W.heap[fb]? = some (.cells cs 41 (0, 0))
theorem FB.read {w W W' : World} {B1 fb : Nat} {v0 v1 : Value} {cn : List Int} {acc : List FnS} {s s' : List Int × Bool} {cs : Array Value} (h : FB w W B1 fb v0 v1 cn acc s cs) (hT : RInTo w W (w.heap.size + 1) s' W') : FB w W' B1 fb v0 v1 cn acc s' cs := by
  have h1 := h.le
  have h2 := h.le2
  exact ⟨h.rb.read hT, Kd.N_keep h.n0 hT.2 (fun b hb => by omega), Kd.N_keep h.n1 hT.2 (fun b hb => by omega), h.le, h.le2, hT.2.blk h.box (by omega) (by simp)⟩
theorem FB.set {w W : World} {B1 fb : Nat} {v0 v1 : Value} {cn : List Int} {acc : List FnS} {s : List Int × Bool} {cs : Array Value} (h : FB w W B1 fb v0 v1 cn acc s cs) (j : Nat) (u : Value) : FB w (W.setCell ⟨fb, j, none⟩ u) B1 fb v0 v1 cn acc s (cs.setIfInBounds j u) := by
  have h1 := h.le
  have h2 := h.le2
  refine ⟨h.rb.far (p := ⟨fb, j, none⟩) (by show w.heap.size + 3 ≤ fb; omega) u, Kd.N_far h.n0 (p := ⟨fb, j, none⟩) (fun b hb => by show b ≠ fb; omega) u, Kd.N_far h.n1 (p := ⟨fb, j, none⟩) (fun b hb => by show b ≠ fb; omega) u, h.le, h.le2, blk_set h.box j u⟩
structure L2 (w W : World) (B1 : Nat) (v0 : Value) (cn : List Int) (n : Nat) (s4 : List Int × Bool) (k : Nat) (v1 : Value) (acc : List Fn3) (s : List Int × Bool) : Prop where
  rb : RB w W v0 v1 s
  n0 : Kd.N (Kd.int .i64) 3 W (w.heap.size + 3) (fun b => w.heap.size + 3 ≤ b ∧ b < B1) v0 cn
  n1 : Kd.N k41 41 W B1 (fun b => B1 ≤ b) v1 (acc.map unfn)
  le : w.heap.size + 3 ≤ B1
  le2 : B1 ≤ W.heap.size
  len : acc.length = k
  lek : k ≤ n
  go : manyIn fnG (n - k) acc s = manyIn fnG n [] s4
theorem L2.box {w W : World} {B1 : Nat} {v0 : Value} {cn : List Int} {n : Nat} {s4 : List Int × Bool} {k : Nat} {v1 : Value} {acc : List Fn3} {s : List Int × Bool} (h : L2 w W B1 v0 cn n s4 k v1 acc s) (cs : Array Value) : FB w (W.alloc (.cells cs 41)) B1 W.heap.size v0 v1 cn (acc.map unfn) s cs :=
  ⟨h.rb.below h.rb.lt (below_alloc (Below.refl _ _) _), Kd.N_alloc h.n0 _, Kd.N_alloc (Kd.N_bound h.n1) _, h.le, h.le2, blk_new W _⟩
theorem rfn_FK {W : World} {base B : Nat} {A : Option Addr} {n c : Nat} {x y : Int} {bs : List Int} (h : Kd.R (Kd.int .u8) 5 W base (fun b => B ≤ b) (.slice A n c) bs) : Kd.FK k41 W (fun b => B ≤ b) ⟨x, y, bs⟩ [.int .i64 x, .int .i64 y, .slice A bs.length c] := by
  obtain ⟨rfl, hl, hC⟩ := Kd.R_reads' h
  have hF := Kd.N_F (Kd.R_N h)
  exact fun W' hW => ⟨[_], [_, _], rfl, rfl, [_], [_], rfl, rfl, A, c, rfl, hl, hF W' hW⟩
end Go.Proofs.Ytjkjpmfenillcaa.P
/- The reference's Decode: what it comes to; no statement of the seat. -/
set_option linter.unusedVariables false
set_option linter.unusedSimpArgs false
namespace Go.Proofs.Ytjkjpmfenillcaa.P
open Go.RowKit Go.Proofs.YtjkjpmfenillcaaW.PrintWords Go.Proofs.YtjkjpmfenillcaaW.PrintLast Go.Proofs.YtjkjpmfenillcaaW.PrintMore
set_option maxRecDepth 100000 in
set_option maxHeartbeats 4000000 in
theorem rdec_run (A : Option Addr) (c : Nat) (b : List Int) (w : World) (hx : Kd.C (Kd.int .u8) w A b.length b) (hc : b.length ≤ c) (hok : okL b) (hb20 : b.length ≤ 1048576) :
    Calls Try.prog 11 #[.slice A b.length c] w fun e w' => ∃ A0 c0 A1 c1, e = .returned (.tuple #[.agg #[.slice A0 (decM b).1.length c0, .slice A1 (decM b).2.1.length c1], .int .i64 (decM b).2.2]) ∧ (Kd.C (Kd.int .i64) w' A0 (decM b).1.length (decM b).1 ∧ (decM b).1.length ≤ c0) ∧ (Kd.C k41 w' A1 (decM b).2.1.length (decM b).2.1 ∧ (decM b).2.1.length ≤ c1) ∧ Below w.heap.size w w' := by
  have hmx := Kd.C_max hx
  have HX := Aside0.mk hx
  have HOK := Aside0.mk hok
  have HB20 := Aside0.mk hb20
  clear hx hok hb20
  go_enter Try.func11, Try.ntmps11
  go_wp2_with fail
  obtain ⟨W1, hW1⟩ : ∃ W1, ((w.alloc (.cells #[.slice none 0 0, .slice none 0 0] 27)).alloc (.cells #[.slice A b.length c, .bool false] 79)).alloc (.cells #[.slice none 0 0, .slice none 0 0] 27) = W1 := ⟨_, rfl⟩
  have hrb : RB w W1 (.slice none 0 0) (.slice none 0 0) (b, false) := by
    rw [← hW1]
    refine ⟨⟨A, c, Nat.le_succ _, ?_, HX.out, hc, HOK.out, below_alloc (below_alloc (below_alloc (Below.refl _ _) _) _) _⟩, blk_alloc (blk_alloc (blk_new w _) _) _, ?_⟩
    · have h := blk_new (w.alloc (.cells #[.slice none 0 0, .slice none 0 0] 27)) (.cells #[.slice A b.length c, .bool false] 79)
      rw [World.size_alloc] at h
      exact blk_alloc h _
    · have h := blk_new ((w.alloc (.cells #[.slice none 0 0, .slice none 0 0] 27)).alloc (.cells #[.slice A b.length c, .bool false] 79)) (.cells #[.slice none 0 0, .slice none 0 0] 27)
      rw [World.size_alloc, World.size_alloc] at h
      exact h
  rw [hW1]
  clear hW1
  have HRB := Aside0.mk hrb
  obtain ⟨A1, c1, hi⟩ := hrb.inn
  have HI := Aside0.mk hi
  clear hi hrb
  refine (rtake_run w W1 (w.heap.size + 1) A1 c1 b false 4 HI.out).mono ?_
  rintro r w2 ⟨v, rfl, hR, hT⟩
  obtain ⟨Am, cm, hv, _, hC⟩ := Kd.R_reads hR
  subst hv
  obtain ⟨mg, bs1, bad1, hs1⟩ : ∃ mg bs1 bad1, takeS (b, false) 4 = (mg, bs1, bad1) := ⟨_, _, _, rfl⟩
  rw [hs1] at hC hT
  simp only [] at hC hT
  have HS1 := Aside0.mk hs1
  have hrb2 := HRB.out.read hT
  obtain ⟨A2, c2, hi⟩ := hrb2.inn
  have HI2 := Aside0.mk hi
  have HRB2 := Aside0.mk hrb2
  have kst := Kd.C_string (P := Try.prog) Try.underlying22 Try.underlying5 Try.underlying9 (c := cm) hC
  clear hR hT hC hi hrb2
  rw [hs1]
  clear hs1
  go_wp2_with fail
  clear kst
  obtain ⟨okm, hokm⟩ : ∃ okm : Bool, okm = ((strOfNums mg).toList == [80, 78, 76, 49]) := ⟨_, rfl⟩
  rw [← hokm]
  have HOKM := Aside0.mk hokm
  clear hokm
  refine (rinmany_run w w2 (w.heap.size + 1) A2 c2 bs1 bad1 HI2.out).mono ?_
  rintro r w3 ⟨rfl, hT⟩
  obtain ⟨n1, bs2, bad2, hs2⟩ : ∃ n1 bs2 bad2, lowI (bs1, bad1) 2 4096 = (n1, bs2, bad2) := ⟨_, _, _, rfl⟩
  rw [hs2] at hT ⊢
  have hn1 : n1 ≤ 4096 := by have h := lowI_le (bs1, bad1) 4096 (by decide); rw [hs2] at h; exact h
  have HS2 := Aside0.mk hs2
  have HRB3 := Aside0.mk (HRB2.out.read hT)
  clear hT hs2
  go_wp2_with fail
  go_loopw [8] (fun v8 W => ∃ (k : Nat) (v0 : Value) (acc : List Int) (s : List Int × Bool), v8 = .int .i64 k ∧ L1 w W n1.toNat (bs2, bad2) k v0 acc s) (fun v8 _ => n1.toNat - (intOf v8).toNat)
  case atStart => exact ⟨0, _, [], _, rfl, ⟨HRB3.out, Kd.N_nil _ _ _ _ _, rfl, Nat.zero_le _, rfl⟩⟩
  case round =>
    obtain ⟨k, v0, acc, ⟨bs, bad⟩, rfl, hL⟩ := hrel
    obtain ⟨Ar, cr, hi⟩ := hL.rb.inn
    obtain ⟨AB, cB, rfl⟩ := Kd.N_slice hL.n0
    have i1 : wr.cell? ⟨w.heap.size + 1, 1, none⟩ = some (.bool bad) := blk_cell hi.blk 1
    have q0 : wr.cell? ⟨w.heap.size + 1 + 1, 0, none⟩ = some (.slice AB acc.length cB) := blk_cell hL.rb.mod 0
    have HL := Aside0.mk hL
    have hkl := hL.le
    have HKA := Aside0.mk hL.len
    have hle := (hL.len ▸ hL.le : acc.length ≤ n1.toNat)
    by_cases hgo : (k : Int) < n1 ∧ bad = false
    · obtain ⟨hlt, rfl⟩ := hgo
      as_aux_lemma =>
        have hb3 := hL.rb.lt
        have HNR := Aside0.mk (show Calls Try.prog 31 #[.pointer (some ⟨w.heap.size + 1, 0, none⟩)] wr.drew fun r w' => r = .returned (.int .i64 (intG (bs, false)).1) ∧ RB w w' (.slice AB acc.length cB) (.slice none 0 0) (intG (bs, false)).2 ∧ Kd.N (Kd.int .i64) 3 w' (w.heap.size + 3) (fun b => w.heap.size + 3 ≤ b) (.slice AB acc.length cB) acc by
          obtain ⟨Aq, cq, hq⟩ := HL.out.rb.drew.inn
          refine (rinint_run w wr.drew (w.heap.size + 1) Aq cq bs false hq).mono ?_
          rintro r w' ⟨rfl, hT⟩
          exact ⟨rfl, HL.out.rb.drew.read hT, Kd.N_keep (Kd.N_drew HL.out.n0) hT.2 (fun b hb => by omega)⟩)
        obtain ⟨x, s', hxs⟩ : ∃ x s', intG (bs, false) = (x, s') := ⟨_, _, rfl⟩
        rw [hxs] at HNR
        have HXS := Aside0.mk hxs
        clear hL hi hxs
        go_upto_region 8 with (fail)
        go_region_law (first
          | (go_simp; go_at_call 31; go_loud ((with_reducible refine HNR.out.mono ?_); rintro r w5 ⟨rfl, hB5, hN5⟩; have HB5 := Aside0.mk hB5; have HN5 := Aside0.mk hN5; have q5 : w5.cell? ⟨w.heap.size + 1 + 1, 0, none⟩ = some (.slice AB acc.length cB) := blk_cell hB5.mod 0; have q5a : (w5.alloc (.cells #[.int .i64 x] 3)).cell? ⟨w.heap.size + 1 + 1, 0, none⟩ = some (.slice AB acc.length cB) := blk_cell (blk_alloc hB5.mod _) 0; clear hB5 hN5))
          | (refine Kd.N_append_step (Kd.int .i64) (w0 := w5) (w.heap.size + 3) rfl (.tmp 34) (.tmp 37) 24 3 (.int .i64 0) 8 rfl Try.underlying24 (by kernel_rfl) rfl (by decide) (by decide) (.slice AB acc.length cB) acc x [.int .i64 x] (fun b => w.heap.size + 3 ≤ b) (fun _ => False) ?h1 ?h2 (int_FK _ _ _) (fun _ h => h.elim) (fun b hb => by have := HB5.out.lt; omega) HN5.out (Below.refl _ _) HB5.out.lt (by omega) ?_; (case h1 => first | rfl | simp [Act.eval, Act.put]); (case h2 => first | rfl | simp [Act.eval, Act.put]); intro v1 w6 ho hb1 hg hat; obtain ⟨AN, cN, rfl⟩ := Kd.N_slice ho; have hB6 := HB5.out.below (Nat.le_refl _) hb1; have z0 : w6.cell? ⟨w.heap.size + 1 + 1, 0, none⟩ = some (.slice AB acc.length cB) := blk_cell hB6.mod 0; have y0 : w6.frozen? ⟨w.heap.size + 1 + 1, 0, none⟩ = false := blkO_free hB6.mod 0; have HX := Aside0.mk (And.intro ho hB6); clear ho hb1 hg hat hB6))
        all_goals (
          go_wp2_with fail
          go_roundw
          case rel =>
            obtain ⟨ho, hB6⟩ := HX.out
            have hl1 : (acc ++ [x]).length = acc.length + 1 := by rw [List.length_append, List.length_singleton]
            rw [hl1] at ho
            have h := hB6.set0 (.slice AN (acc.length + 1) cN)
            refine ⟨k + 1, _, acc ++ [x], s', by go_num, h, Kd.N_far ho (p := ⟨w.heap.size + 1 + 1, 0, none⟩) (fun b hb => by show b ≠ w.heap.size + 1 + 1; omega) _, ?_, by omega, ?_⟩
            · rw [hl1, HKA.out]
            · have h := manyIn_step (by omega) HL.out.go
              rw [HXS.out] at h
              exact h
          case measure => simp [intOf]; omega)
    · have hend : ((k : Int) < n1 ∧ bad = true) ∨ n1 ≤ (k : Int) := by
        by_cases h : (k : Int) < n1
        · cases bad
          · exact absurd ⟨h, rfl⟩ hgo
          · exact .inl ⟨h, rfl⟩
        · exact .inr (by omega)
      have hE : k = n1.toNat ∨ (bs, bad).2 = true := by
        rcases hend with h | h
        · exact .inr h.2
        · exact .inl (by omega)
      have HEX := Aside0.mk (manyIn_end hE HL.out.go)
      have HI := Aside0.mk hi
      clear hL hi hgo
      rcases hend with ⟨hlt, hbad⟩ | hlt
      all_goals (try (rw [hbad] at i1; clear hbad))
      all_goals (
        as_aux_lemma =>
          go_wp2_with fail
          refine (rinmany_run w wr (w.heap.size + 1) Ar cr bs bad HI.out).mono ?_
          rintro r w7 ⟨rfl, hT⟩
          obtain ⟨n2, bs4, bad4, hs4⟩ : ∃ n2 bs4 bad4, lowI (bs, bad) 2 4096 = (n2, bs4, bad4) := ⟨_, _, _, rfl⟩
          rw [hs4] at hT ⊢
          have hn2 : n2 ≤ 4096 := by have h := lowI_le (bs, bad) 4096 (by decide); rw [hs4] at h; exact h
          have HS4 := Aside0.mk hs4
          have HST := Aside0.mk (show L2 w w7 w7.heap.size (.slice AB acc.length cB) acc n2.toNat (bs4, bad4) 0 (.slice none 0 0) [] (bs4, bad4) from
            ⟨HL.out.rb.read hT, Kd.N_mono (Kd.N_bound (Kd.N_keep HL.out.n0 hT.2 (fun b hb => by omega))) (fun b hb => hb), Kd.N_nil _ _ _ _ _, (HL.out.rb.read hT).lt, Nat.le_refl _, rfl, Nat.zero_le _, rfl⟩)
          clear hT hs4 i1 q0 hlt
          go_wp2_with fail
          go_loopw [9] (fun v9 W => ∃ (k2 : Nat) (v1 : Value) (fs : List Fn3) (s : List Int × Bool), v9 = .int .i64 k2 ∧ L2 w W w7.heap.size (.slice AB acc.length cB) acc n2.toNat (bs4, bad4) k2 v1 fs s) (fun v9 _ => n2.toNat - (intOf v9).toNat)
          case atStart => exact ⟨0, _, [], _, rfl, HST.out⟩
          case round =>
            obtain ⟨k2, v1, fs, ⟨bs5, bad5⟩, rfl, hL2⟩ := hrel
            obtain ⟨Af, cf, hi5⟩ := hL2.rb.inn
            obtain ⟨AF, cF, hv1⟩ := Kd.N_slice hL2.n1
            rw [List.length_map] at hv1
            subst hv1
            have i5 : wr.cell? ⟨w.heap.size + 1, 1, none⟩ = some (.bool bad5) := blk_cell hi5.blk 1
            have HL2 := Aside0.mk hL2
            have hkl2 := hL2.lek
            have HKA2 := Aside0.mk hL2.len
            by_cases hgo2 : (k2 : Int) < n2 ∧ bad5 = false
            · obtain ⟨hlt2, rfl⟩ := hgo2
              as_aux_lemma =>
                have HFB := Aside0.mk (hL2.box #[.int .i64 0, .int .i64 0, .slice none 0 0])
                have HLT := Aside0.mk (Kd.N_lt hL2.n1)
                obtain ⟨Ax, cx, hix⟩ := HFB.out.rb.inn
                have HIX := Aside0.mk hix
                clear hL2 hi5 hix
                go_wp2_with fail
                refine (rinbyte_run w _ (w.heap.size + 1) Ax cx bs5 false HIX.out).mono ?_
                rintro r w8 ⟨rfl, hT⟩
                obtain ⟨x, bs6, bad6, h6⟩ : ∃ x bs6 bad6, lowI (bs5, false) 1 255 = (x, bs6, bad6) := ⟨_, _, _, rfl⟩
                rw [h6] at hT ⊢
                have hF8 := HFB.out.read hT
                have z8 := blk_cell hF8.box 0
                have y8 := blkO_free hF8.box 0
                have H6 := Aside0.mk h6
                have HF8 := Aside0.mk (hF8.set 0 (.int .i64 x))
                obtain ⟨Ay, cy, hiy⟩ := HF8.out.rb.inn
                have HIY := Aside0.mk hiy
                clear hT h6 hF8 hiy
                go_wp2_with fail
                clear z8 y8
                refine (rinbyte_run w _ (w.heap.size + 1) Ay cy bs6 bad6 HIY.out).mono ?_
                rintro r w9 ⟨rfl, hT⟩
                obtain ⟨y, bs7, bad7, h7⟩ : ∃ y bs7 bad7, lowI (bs6, bad6) 1 255 = (y, bs7, bad7) := ⟨_, _, _, rfl⟩
                rw [h7] at hT ⊢
                have hF9 := HF8.out.read hT
                have z9 := blk_cell hF9.box 1
                have y9 := blkO_free hF9.box 1
                have H7 := Aside0.mk h7
                have HF9 := Aside0.mk (hF9.set 1 (.int .i64 y))
                obtain ⟨Az, cz, hiz⟩ := HF9.out.rb.inn
                have HIZ := Aside0.mk hiz
                clear hT h7 hF9 hiz
                go_wp2_with fail
                clear z9 y9
                obtain ⟨W9, hW9⟩ : ∃ W9, w9.setCell ⟨wr.heap.size, 1, none⟩ (.int .i64 y) = W9 := ⟨_, rfl⟩
                rw [hW9] at HF9 HIZ ⊢
                clear hW9
                refine (rinblob_run w _ (w.heap.size + 1) Az cz bs7 bad7 HIZ.out).mono ?_
                rintro r w10 ⟨vb, rfl, hR, hT⟩
                obtain ⟨bl, bs8, bad8, h8⟩ : ∃ bl bs8 bad8, blobG (bs7, bad7) = (bl, bs8, bad8) := ⟨_, _, _, rfl⟩
                rw [h8] at hT hR
                obtain ⟨AC, cC, rfl⟩ := Kd.R_slice hR
                have hF10 := HF9.out.read hT
                have hfb9 := blk_lt HF9.out.box
                have hR2 := Kd.R_mono (Kd.R_far (Kd.R_bound hR) (p := ⟨wr.heap.size, 2, none⟩) (fun b hb => by have := hb.2.1; show b ≠ wr.heap.size; omega) (.slice AC bl.length cC)) (ok' := fun b => wr.heap.size ≤ b) (fun b hb => by have := hb.2.1; omega)
                have HFK := Aside0.mk (rfn_FK (x := x) (y := y) hR2)
                have H8 := Aside0.mk h8
                have HF10 := Aside0.mk hF10
                have z10 := blk_cell hF10.box 2
                have y10 := blkO_free hF10.box 2
                have hF11 := hF10.set 2 (.slice AC bl.length cC)
                have q1 : (w10.setCell ⟨wr.heap.size, 2, none⟩ (.slice AC bl.length cC)).cell? ⟨w.heap.size + 1 + 1, 1, none⟩ = some (.slice AF fs.length cF) := blk_cell hF11.rb.mod 1
                have f0 : (w10.setCell ⟨wr.heap.size, 2, none⟩ (.slice AC bl.length cC)).cell? ⟨wr.heap.size, 0, none⟩ = some (.int .i64 x) := blk_cell hF11.box 0
                have f1 : (w10.setCell ⟨wr.heap.size, 2, none⟩ (.slice AC bl.length cC)).cell? ⟨wr.heap.size, 1, none⟩ = some (.int .i64 y) := blk_cell hF11.box 1
                have f2 : (w10.setCell ⟨wr.heap.size, 2, none⟩ (.slice AC bl.length cC)).cell? ⟨wr.heap.size, 2, none⟩ = some (.slice AC bl.length cC) := blk_cell hF11.box 2
                have HF11 := Aside0.mk hF11
                have hle2 := hF11.le2
                have hle1 := hF11.le
                have hlb := blk_lt hF11.box
                have HLM := Aside0.mk (show (fs.map unfn).length ≤ 4096 by rw [List.length_map, HKA2.out]; omega)
                clear hT hR hR2 h8 hF10 hF11
                go_wp2_with (at_builtin; go_loud (refine Kd.N_append k41 (w0 := w10) w7.heap.size rfl (.tmp 65) (.tmp 67) 25 41 (.agg #[.int .i64 0, .int .i64 0, .slice none 0 0]) 40 rfl Try.underlying25 (by kernel_rfl) rfl (by decide) (by decide) (.slice AF fs.length cF) (fs.map unfn) (unfn ((x, y), bl)) [.int .i64 x, .int .i64 y, .slice AC bl.length cC] (fun b => w7.heap.size ≤ b) (fun b => wr.heap.size ≤ b) rfl (by first | rfl | simp [Act.eval]) HFK.out (fun b hb => ⟨by omega, fun he => by have := HLT.out b he.symm; omega⟩) (fun b hb => by omega) (Kd.N_mono HF11.out.n1 (fun b hb => hb.1)) (Below.setCell (Below.refl _ _) (p := ⟨wr.heap.size, 2, none⟩) (by show w7.heap.size ≤ wr.heap.size; omega) _) (by omega) (by have := HLM.out; omega) ?_; intro v1 w11 ho hb1 hg hat; obtain ⟨AN, cN, rfl⟩ := Kd.N_slice ho; have hB11 := HF10.out.rb.below hle1 hb1; have z11 := blk_cell hB11.mod 1; have y11 := blkO_free hB11.mod 1; have HY := Aside0.mk (And.intro ho (And.intro hb1 hB11)); clear ho hb1 hg hat hB11))
                go_roundw
                case rel =>
                  obtain ⟨ho, hb1, hB11⟩ := HY.out
                  have hl1 : (fs.map unfn ++ [unfn ((x, y), bl)]).length = fs.length + 1 := by rw [List.length_append, List.length_map, List.length_singleton]
                  rw [hl1] at ho
                  have hfn : fnG (bs5, false) = (((x, y), bl), bs8, bad8) := by
                    unfold fnG bothG2 byteG
                    simp only [H6.out, H7.out, H8.out]
                  have h := hB11.set1 (.slice AN (fs.length + 1) cN)
                  have hn := Kd.N_far ho (p := ⟨w.heap.size + 1 + 1, 1, none⟩) (fun b hb => by show b ≠ w.heap.size + 1 + 1; omega) (.slice AN (fs.length + 1) cN)
                  have hn0 := Kd.N_far (Kd.N_step HF10.out.n0 (fun k ho _ => hb1.block k ho.2)) (p := ⟨w.heap.size + 1 + 1, 1, none⟩) (fun b hb => by show b ≠ w.heap.size + 1 + 1; omega) (.slice AN (fs.length + 1) cN)
                  refine ⟨k2 + 1, _, fs ++ [((x, y), bl)], (bs8, bad8), by go_num, h, hn0, ?_, hle1, ?_, ?_, by omega, ?_⟩
                  · rw [List.map_append]
                    exact hn
                  · rw [World.size_setCell]
                    exact Nat.le_trans (by rw [World.size_setCell] at hlb; omega) hb1.size
                  · rw [List.length_append, HKA2.out, List.length_singleton]
                  · have h := manyIn_step (by omega) HL2.out.go
                    rw [hfn] at h
                    exact h
                case measure => simp [intOf]; omega
            · have hE2 : k2 = n2.toNat ∨ (bs5, bad5).2 = true := by
                by_cases h : (k2 : Int) < n2
                · cases bad5
                  · exact absurd ⟨h, rfl⟩ hgo2
                  · exact .inr rfl
                · exact .inl (by omega)
              have HDEC := Aside0.mk (decM_reads b HB20.out mg acc fs (bs5, bad5) (whole_steps (b, false) (bs1, bad1) (bs2, bad2) (bs, bad) (bs4, bad4) mg acc fs n1 n2 HS1.out HS2.out HEX.out HS4.out (bs5, bad5) (manyIn_end hE2 HL2.out.go)))
              have r0 := blk_cell hL2.rb.res 0
              have r1 := blk_cell hL2.rb.res 1
              have g0 := blkO_free hL2.rb.res 0
              have g1 := blkO_free hL2.rb.res 1
              have q0 := blk_cell hL2.rb.mod 0
              have q1 := blk_cell hL2.rb.mod 1
              have i0 : wr.cell? ⟨w.heap.size + 1, 0, none⟩ = some (.slice Af bs5.length cf) := blk_cell hi5.blk 0
              have HB := Aside0.mk hL2.rb.lo
              clear hL2 hi5 hE2
              cases bad5
              · have hlt2 : n2 ≤ (k2 : Int) := by
                  by_cases h : (k2 : Int) < n2
                  · exact absurd ⟨h, rfl⟩ hgo2
                  · omega
                clear hgo2
                by_cases hz : bs5.length = 0
                · have hz0 : ¬ (0 : Int) < (bs5.length : Int) := by omega
                  have HZ := Aside0.mk hz
                  cases okm
                  · go_wp2_with fail
                    rw [HDEC.out, show rdM b mg acc fs (bs5, false) = ([], [], 10) from if_neg (by rintro ⟨_, _, h, _⟩; have h1 := HOKM.out; rw [h] at h1; cases h1)]
                    refine bodyPost_ret (v := .tuple #[.agg #[.slice none 0 0, .slice none 0 0], .int .i64 10]) (results_ct (p := 2) (u := 3) (ty := 27) rfl _ _ w.heap.size 27 #[.slice none 0 0, .slice none 0 0] (0, 0) _ rfl (two_set HL2.out.rb.res _ _) Try.underlying27 rfl (by kernel_rfl)) rfl ⟨none, 0, none, 0, rfl, ⟨Kd.C_nil _ _, Nat.le_refl _⟩, ⟨Kd.C_nil _ _, Nat.le_refl _⟩, ?_⟩
                    exact (HB.out.setCell (p := ⟨w.heap.size, 0, none⟩) (Nat.le_refl _) _).setCell (p := ⟨w.heap.size, 1, none⟩) (Nat.le_refl _) _
                  · have HQ := Aside0.mk (show (strOfNums mg).toList = [80, 78, 76, 49] from by have h1 := HOKM.out; exact eq_of_beq h1.symm)
                    obtain ⟨km, hkm⟩ := rmay_is acc (fs.map unfn)
                    have HMY := Aside0.mk (pianolaref06_May.calls km AB cB acc AF cF (fs.map unfn) _ wr (Kd.N_reads' HL2.out.n0).2.2 (Kd.N_reads' HL2.out.n0).2.1 (Kd.N_reads' HL2.out.n1).2.2 (by have h := (Kd.N_reads' HL2.out.n1).2.1; rw [List.length_map]; exact h) hkm)
                    rw [List.length_map] at HMY
                    clear hkm
                    go_wp2_with fail
                    refine HMY.out.mono ?_
                    rintro e w12 ⟨rfl, hb⟩
                    have hr12 := blk_below HL2.out.rb.res hb
                    have hm12 := blk_below HL2.out.rb.mod hb
                    have r0 := blk_cell hr12 0
                    have r1 := blk_cell hr12 1
                    have g0 := blkO_free hr12 0
                    have g1 := blkO_free hr12 1
                    have q0 := blk_cell hm12 0
                    have q1 := blk_cell hm12 1
                    have HR12 := Aside0.mk hr12
                    have HB12 := Aside0.mk (below_step HB.out hb)
                    have HBB := Aside0.mk hb
                    clear hb hr12 hm12
                    cases hmy : mayM acc (fs.map unfn)
                    · have HMY2 := Aside0.mk hmy
                      clear hmy
                      go_wp2_with fail
                      rw [HDEC.out, show rdM b mg acc fs (bs5, false) = ([], [], 10) from if_neg (by rintro ⟨_, _, _, h⟩; rw [HMY2.out] at h; cases h)]
                      refine bodyPost_ret (v := .tuple #[.agg #[.slice none 0 0, .slice none 0 0], .int .i64 10]) (results_ct (p := 2) (u := 3) (ty := 27) rfl _ _ w.heap.size 27 #[.slice none 0 0, .slice none 0 0] (0, 0) _ rfl (two_set HR12.out _ _) Try.underlying27 rfl (by kernel_rfl)) rfl ⟨none, 0, none, 0, rfl, ⟨Kd.C_nil _ _, Nat.le_refl _⟩, ⟨Kd.C_nil _ _, Nat.le_refl _⟩, ?_⟩
                      exact (HB12.out.setCell (p := ⟨w.heap.size, 0, none⟩) (Nat.le_refl _) _).setCell (p := ⟨w.heap.size, 1, none⟩) (Nat.le_refl _) _
                    · have HMY2 := Aside0.mk hmy
                      clear hmy
                      go_wp2_with fail
                      rw [HDEC.out, show rdM b mg acc fs (bs5, false) = (acc, fs.map unfn, 0) from if_pos ⟨rfl, HZ.out, HQ.out, HMY2.out⟩]
                      have hn1 := Kd.N_far (Kd.N_far (Kd.N_below HL2.out.n1 HBB.out) (p := ⟨w.heap.size, 0, none⟩) (fun b hb => by have := HL2.out.le; show b ≠ w.heap.size; omega) (.slice AB acc.length cB)) (p := ⟨w.heap.size, 1, none⟩) (fun b hb => by have := HL2.out.le; show b ≠ w.heap.size; omega) (.slice AF fs.length cF)
                      have hn0 := Kd.N_far (Kd.N_far (Kd.N_below HL2.out.n0 HBB.out) (p := ⟨w.heap.size, 0, none⟩) (fun b hb => by show b ≠ w.heap.size; omega) (.slice AB acc.length cB)) (p := ⟨w.heap.size, 1, none⟩) (fun b hb => by show b ≠ w.heap.size; omega) (.slice AF fs.length cF)
                      refine bodyPost_ret (v := .tuple #[.agg #[.slice AB acc.length cB, .slice AF fs.length cF], .int .i64 0]) (results_ct (p := 2) (u := 3) (ty := 27) rfl _ _ w.heap.size 27 #[.slice AB acc.length cB, .slice AF fs.length cF] (0, 0) _ rfl (two_set HR12.out _ _) Try.underlying27 rfl (by kernel_rfl)) rfl ⟨AB, cB, AF, cF, by rw [List.length_map], ⟨(Kd.N_reads' hn0).2.2, (Kd.N_reads' hn0).2.1⟩, ⟨(Kd.N_reads' hn1).2.2, by have h := (Kd.N_reads' hn1).2.1; rw [List.length_map]; exact h⟩, ?_⟩
                      exact (HB12.out.setCell (p := ⟨w.heap.size, 0, none⟩) (Nat.le_refl _) _).setCell (p := ⟨w.heap.size, 1, none⟩) (Nat.le_refl _) _
                · have hz0 : (0 : Int) < (bs5.length : Int) := by omega
                  have HZ := Aside0.mk hz
                  go_wp2_with fail
                  rw [HDEC.out, show rdM b mg acc fs (bs5, false) = ([], [], 10) from if_neg (by rintro ⟨_, h, _⟩; exact HZ.out h)]
                  refine bodyPost_ret (v := .tuple #[.agg #[.slice none 0 0, .slice none 0 0], .int .i64 10]) (results_ct (p := 2) (u := 3) (ty := 27) rfl _ _ w.heap.size 27 #[.slice none 0 0, .slice none 0 0] (0, 0) _ rfl (two_set HL2.out.rb.res _ _) Try.underlying27 rfl (by kernel_rfl)) rfl ⟨none, 0, none, 0, rfl, ⟨Kd.C_nil _ _, Nat.le_refl _⟩, ⟨Kd.C_nil _ _, Nat.le_refl _⟩, ?_⟩
                  exact (HB.out.setCell (p := ⟨w.heap.size, 0, none⟩) (Nat.le_refl _) _).setCell (p := ⟨w.heap.size, 1, none⟩) (Nat.le_refl _) _
              · have HDEC2 := Aside0.mk (HDEC.out.trans (show rdM b mg acc fs (bs5, true) = ([], [], 10) from if_neg (by rintro ⟨h, _⟩; cases h)))
                clear hgo2
                by_cases hlt2 : (k2 : Int) < n2
                all_goals (
                  go_wp2_with fail
                  rw [HDEC2.out]
                  refine bodyPost_ret (v := .tuple #[.agg #[.slice none 0 0, .slice none 0 0], .int .i64 10]) (results_ct (p := 2) (u := 3) (ty := 27) rfl _ _ w.heap.size 27 #[.slice none 0 0, .slice none 0 0] (0, 0) _ rfl (two_set HL2.out.rb.res _ _) Try.underlying27 rfl (by kernel_rfl)) rfl ⟨none, 0, none, 0, rfl, ⟨Kd.C_nil _ _, Nat.le_refl _⟩, ⟨Kd.C_nil _ _, Nat.le_refl _⟩, ?_⟩
                  exact (HB.out.setCell (p := ⟨w.heap.size, 0, none⟩) (Nat.le_refl _) _).setCell (p := ⟨w.heap.size, 1, none⟩) (Nat.le_refl _) _))
end Go.Proofs.Ytjkjpmfenillcaa.P
