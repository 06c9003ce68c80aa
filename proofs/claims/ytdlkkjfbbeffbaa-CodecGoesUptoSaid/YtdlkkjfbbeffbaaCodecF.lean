/- codec.Many of lists, of pairs; text that is read; no statement of the seat. -/
import Derived.Test.YtdlkkjfbbeffbaaCodecE
set_option linter.unusedVariables false
set_option linter.unusedSimpArgs false
namespace Go.Proofs.Ytdlkkjfbbeffbaa.P
open Go.RowKit Go.Proofs.YtdlkkjfbbeffbaaW.PrintWords Go.Proofs.YtdlkkjfbbeffbaaW.PrintLast Go.Proofs.YtdlkkjfbbeffbaaW.PrintMore
def manyV (dc df : Nat) : Array Value := #[.func (.func 56) #[] #[.pointer (some ⟨dc, 0, none⟩), .pointer (some ⟨df, 0, none⟩)], .func (.func 57) #[] #[.pointer (some ⟨dc, 0, none⟩), .pointer (some ⟨df, 0, none⟩)]]
def bothV (ba bb : Nat) : Array Value := #[.func (.func 83) #[] #[.pointer (some ⟨ba, 0, none⟩), .pointer (some ⟨bb, 0, none⟩)], .func (.func 84) #[] #[.pointer (some ⟨ba, 0, none⟩), .pointer (some ⟨bb, 0, none⟩)]]
/-- Pairs of a number and bytes. -/
def kP : Kd PairS := Kd.pair (Kd.int .i64) (Kd.slice 5 (Kd.int .u8))
theorem manyGo_len {α : Type} (S : List Int × Int → α → List Int × Int) (hS : ∀ s x, s.1.length ≤ 1048576 → (S s x).1.length ≤ 1048576) : ∀ (l : List α) (s : List Int × Int), s.1.length ≤ 1048576 → (manyGo S l s).1.length ≤ 1048576
  | [], _, h => h
  | x :: l, s, h => by
    rw [manyGo]
    split
    · exact manyGo_len S hS l _ (hS s x h)
    · exact h
theorem manyS_len {α : Type} {S : List Int × Int → α → List Int × Int} (hS : ∀ s x, s.1.length ≤ 1048576 → (S s x).1.length ≤ 1048576) (s : List Int × Int) (l : List α) (h : s.1.length ≤ 1048576) : (manyS S s l).1.length ≤ 1048576 := manyGo_len S hS l _ (numS_len s 2 4096 _ h)
theorem bothS_len (n : Nat) (most : Int) (s : List Int × Int) (x : PairS) (h : s.1.length ≤ 1048576) : (bothS n most s x).1.length ≤ 1048576 := putS_len _ _ (numS_len _ 4 65536 _ (numS_len s n most x.1 h))
set_option maxRecDepth 100000 in
set_option maxHeartbeats 4000000 in
theorem manyJ_put (w0 w : World) (p : Nat) (v : Value) (bs : List Int) (e : Int) (A : Option Addr) (c : Nat) (l : List (List Int)) (bc bf c1 c2 : Nat) (dc df d1 d2 f1 f2 n : Nat) (most : Int) (hM : ManyF w0 bc bf c1 c2 32 (manyV dc df)) (hf : ManyF w0 dc df d1 d2 37 (numV f1 f2) ∧ NumF w0 f1 f2 n most) (hl : Kd.C (Kd.slice 3 (Kd.int .i64)) w0 A l.length l) (hlo : Below w0.heap.size w0 w) (h : OutOK w w0.heap.size p v bs e) (hbs : bs.length ≤ 1048576) :
    Calls Try.prog 54 #[.pointer (some ⟨p, 0, none⟩), .slice A l.length c, .pointer (some ⟨bc, 0, none⟩), .pointer (some ⟨bf, 0, none⟩)] w fun r w' => r = .returned (.tuple #[]) ∧ OutTo w w0.heap.size p v (manyS (manyS (fun s x => numS s n most x)) (bs, e) l) w' := by
  have HO := Aside0.mk h
  have HL := Aside0.mk hl
  have HM := Aside0.mk hM
  have HF := Aside0.mk hf
  have HLO := Aside0.mk hlo
  have hmx := Kd.C_max hl
  have hM1 := hM.below hlo
  have q0 : w.cell? ⟨bc, 0, none⟩ = some (.func (.func 86) #[] #[.pointer (some ⟨c1, 0, none⟩), .pointer (some ⟨c2, 0, none⟩)]) := blk_cell hM1.c 0
  have HN := Aside0.mk hM1.n
  have hB := hlo.size
  clear h hl hM hf hlo hM1
  go_enter Try.func54, Try.ntmps54
  go_wp2_with fail
  with_reducible refine (numput_run w0.heap.size p c1 c2 2 4096 v bs e (l.length : Int) w HN.out HO.out (by omega) hbs).mono ?_
  rintro r w1 ⟨rfl, hT⟩
  have HT := Aside0.mk hT
  have hlen1 := numS_len (bs, e) 2 4096 (l.length : Int) hbs
  obtain ⟨s1, hs1⟩ : ∃ s1, s1 = numS (bs, e) 2 4096 (l.length : Int) := ⟨_, rfl⟩
  have HR := Aside0.mk (show manyGo (manyS (fun s x => numS s n most x)) l s1 = manyS (manyS (fun s x => numS s n most x)) (bs, e) l by rw [hs1]; rfl)
  have HT1 := Aside0.mk (show OutTo w w0.heap.size p v s1 w1 by rw [hs1]; exact hT)
  have HS1 := Aside0.mk (show s1.1.length ≤ 1048576 by rw [hs1]; exact hlen1)
  clear hT hs1 hlen1 q0 HT
  go_wp2_with fail
  go_loopw [6] (fun v6 wr => ∃ (k : Nat) (s' : List Int × Int), v6 = .int .i64 k ∧ k ≤ l.length ∧ OutTo w w0.heap.size p v s' wr ∧ s'.1.length ≤ 1048576 ∧ manyGo (manyS (fun s x => numS s n most x)) (l.drop k) s' = manyS (manyS (fun s x => numS s n most x)) (bs, e) l) (fun v6 _ => l.length - (intOf v6).toNat)
  case atStart => exact ⟨0, s1, rfl, Nat.zero_le _, HT1.out, HS1.out, HR.out⟩
  case round =>
    obtain ⟨k, ⟨b', e'⟩, rfl, hk, hTT, hl', hr⟩ := hrel
    obtain ⟨v', hO', hk', hat', hb'⟩ := hTT
    have h1 : wr.cell? ⟨p, 1, none⟩ = some (.int .i64 e') := blk_cell hO'.blk 1
    have hMr := HM.out.below (HLO.out.trans hb')
    have q0 : wr.cell? ⟨bf, 0, none⟩ = some (.func (.func 56) #[] #[.pointer (some ⟨dc, 0, none⟩), .pointer (some ⟨df, 0, none⟩)]) := blk_cell hMr.f 0
    have HO' := Aside0.mk hO'
    have HX := Aside0.mk (And.intro hk' (And.intro hat' hb'))
    have HR' := Aside0.mk hr
    have HL' := Aside0.mk hl'
    have hsz : w0.heap.size ≤ wr.heap.size := (HLO.out.trans hb').size
    have hszd : w0.heap.size ≤ wr.drew.heap.size := hsz
    clear hO' hMr hk' hat' hb' hr
    by_cases hlt : k < l.length
    · by_cases he : e' = 0
      · subst he
        have hC := Kd.C_below HL.out (HLO.out.trans HX.out.2.2)
        obtain ⟨ad, cc, hA, hcl, hK, hcc⟩ := Kd.C_get HL.out [] (k : Int) (by omega) (by omega)
        rw [Int.toNat_natCast] at hK hcc
        obtain ⟨Ae, ce, hce, hlc, hCe⟩ := hK
        subst hce hA
        have hc := pw_cell_below (HLO.out.trans HX.out.2.2) (hcc 0 _ rfl)
        rw [show (Kd.slice 3 (Kd.int .i64)).sz = 1 from rfl, Nat.mul_one, Nat.add_zero] at hc
        obtain ⟨x, hx⟩ : ∃ x, x = l.getD k [] := ⟨_, rfl⟩
        rw [← hx] at hc hCe
        have HCe := Aside0.mk hCe
        have HXX := Aside0.mk hx
        clear hcc hCe hcl hlc hx
        go_upto_region 4 with (fail)
        go_still_tail 7, (by kernel_rfl)
        go_wp2_with fail
        with_reducible refine (manyI_put w0 wr.drew p v' b' 0 Ae ce x dc df d1 d2 f1 f2 n most HF.out.1 HF.out.2 HCe.out (below_drew (HLO.out.trans HX.out.2.2)) HO'.out.drew HL'.out).mono ?_
        rintro r w2 ⟨rfl, hT2⟩
        have HT2 := Aside0.mk (OutTo.of_drew hT2)
        clear hT2 q0 hC
        go_wp2_with fail
        go_roundw
        case rel =>
          refine ⟨k + 1, (manyS (fun s x => numS s n most x)) (b', 0) x, by go_num, by omega, OutTo.trans HX.out.1 HX.out.2.1 HX.out.2.2 hsz HT2.out, manyS_len (fun s x h => numS_len s n most x h) (b', 0) _ HL'.out, ?_⟩
          have h := HR'.out
          rw [drop_cons l k hlt, manyGo, if_pos rfl] at h
          rw [HXX.out, List.getD_eq_getElem?_getD, List.getElem?_eq_getElem hlt]; exact h
        case measure => simp [intOf]; omega
      · have he1 : (e' == 0) = false := by simpa using he
        have hlt' : (k : Int) < (l.length : Int) := by omega
        go_wp2_with fail
        go_end0
        rw [← HR'.out, manyGo_stop _ _ _ he]
        exact ⟨rfl, v', HO'.out, HX.out.1, HX.out.2.1, HX.out.2.2⟩
    · obtain rfl : k = l.length := by omega
      go_wp2_with fail
      go_end0
      rw [← HR'.out, List.drop_length]
      exact ⟨rfl, v', HO'.out, HX.out.1, HX.out.2.1, HX.out.2.2⟩
set_option maxRecDepth 100000 in
set_option maxHeartbeats 4000000 in
theorem manyP_put (w0 w : World) (p : Nat) (v : Value) (bs : List Int) (e : Int) (A : Option Addr) (c : Nat) (l : List PairS) (bc bf c1 c2 : Nat) (ba bb a1 a2 n : Nat) (most : Int) (bk e1 e2 : Nat) (hM : ManyF w0 bc bf c1 c2 109 (bothV ba bb)) (hf : BothF w0 ba bb a1 a2 n most bk e1 e2) (hl : Kd.C kP w0 A l.length l) (hlo : Below w0.heap.size w0 w) (h : OutOK w w0.heap.size p v bs e) (hbs : bs.length ≤ 1048576) :
    Calls Try.prog 81 #[.pointer (some ⟨p, 0, none⟩), .slice A l.length c, .pointer (some ⟨bc, 0, none⟩), .pointer (some ⟨bf, 0, none⟩)] w fun r w' => r = .returned (.tuple #[]) ∧ OutTo w w0.heap.size p v (manyS (bothS n most) (bs, e) l) w' := by
  have HO := Aside0.mk h
  have HL := Aside0.mk hl
  have HM := Aside0.mk hM
  have HF := Aside0.mk hf
  have HLO := Aside0.mk hlo
  have hmx := Kd.C_max hl
  have hM1 := hM.below hlo
  have q0 : w.cell? ⟨bc, 0, none⟩ = some (.func (.func 86) #[] #[.pointer (some ⟨c1, 0, none⟩), .pointer (some ⟨c2, 0, none⟩)]) := blk_cell hM1.c 0
  have HN := Aside0.mk hM1.n
  have hB := hlo.size
  clear h hl hM hf hlo hM1
  go_enter Try.func81, Try.ntmps81
  go_wp2_with fail
  with_reducible refine (numput_run w0.heap.size p c1 c2 2 4096 v bs e (l.length : Int) w HN.out HO.out (by omega) hbs).mono ?_
  rintro r w1 ⟨rfl, hT⟩
  have HT := Aside0.mk hT
  have hlen1 := numS_len (bs, e) 2 4096 (l.length : Int) hbs
  obtain ⟨s1, hs1⟩ : ∃ s1, s1 = numS (bs, e) 2 4096 (l.length : Int) := ⟨_, rfl⟩
  have HR := Aside0.mk (show manyGo (bothS n most) l s1 = manyS (bothS n most) (bs, e) l by rw [hs1]; rfl)
  have HT1 := Aside0.mk (show OutTo w w0.heap.size p v s1 w1 by rw [hs1]; exact hT)
  have HS1 := Aside0.mk (show s1.1.length ≤ 1048576 by rw [hs1]; exact hlen1)
  clear hT hs1 hlen1 q0 HT
  go_wp2_with fail
  go_loopw [6] (fun v6 wr => ∃ (k : Nat) (s' : List Int × Int), v6 = .int .i64 k ∧ k ≤ l.length ∧ OutTo w w0.heap.size p v s' wr ∧ s'.1.length ≤ 1048576 ∧ manyGo (bothS n most) (l.drop k) s' = manyS (bothS n most) (bs, e) l) (fun v6 _ => l.length - (intOf v6).toNat)
  case atStart => exact ⟨0, s1, rfl, Nat.zero_le _, HT1.out, HS1.out, HR.out⟩
  case round =>
    obtain ⟨k, ⟨b', e'⟩, rfl, hk, hTT, hl', hr⟩ := hrel
    obtain ⟨v', hO', hk', hat', hb'⟩ := hTT
    have h1 : wr.cell? ⟨p, 1, none⟩ = some (.int .i64 e') := blk_cell hO'.blk 1
    have hMr := HM.out.below (HLO.out.trans hb')
    have q0 : wr.cell? ⟨bf, 0, none⟩ = some (.func (.func 83) #[] #[.pointer (some ⟨ba, 0, none⟩), .pointer (some ⟨bb, 0, none⟩)]) := blk_cell hMr.f 0
    have HO' := Aside0.mk hO'
    have HX := Aside0.mk (And.intro hk' (And.intro hat' hb'))
    have HR' := Aside0.mk hr
    have HL' := Aside0.mk hl'
    have hsz : w0.heap.size ≤ wr.heap.size := (HLO.out.trans hb').size
    have hszd : w0.heap.size ≤ wr.drew.heap.size := hsz
    clear hO' hMr hk' hat' hb' hr
    by_cases hlt : k < l.length
    · by_cases he : e' = 0
      · subst he
        have hC := Kd.C_below HL.out (HLO.out.trans HX.out.2.2)
        obtain ⟨ad, cc, hA, hcl, hK, hcc⟩ := Kd.C_get HL.out (0, []) (k : Int) (by omega) (by omega)
        rw [Int.toNat_natCast] at hK hcc
        obtain ⟨cc0, cc1, hce, hK0, Ae, ce, hK1, hlc, hCe⟩ := hK
        have hK0 : cc0 = [.int .i64 (l.getD k (0, [])).1] := hK0
        subst hK0 hK1 hce hA
        have hc := pw_cell_below (HLO.out.trans HX.out.2.2) (hcc 0 _ rfl)
        have hc1 := pw_cell_below (HLO.out.trans HX.out.2.2) (hcc 1 _ rfl)
        rw [show kP.sz = 2 from rfl] at hc hc1
        rw [Nat.add_zero] at hc
        rw [add_field ad (k * 2) 1 (by decide)] at hc1
        obtain ⟨x, hx⟩ : ∃ x, x = l.getD k (0, []) := ⟨_, rfl⟩
        rw [← hx] at hc hc1 hCe
        have HCe := Aside0.mk hCe
        have HXX := Aside0.mk hx
        clear hcc hCe hcl hlc hx hK0
        go_upto_region 4 with (fail)
        go_still_tail 7, (by kernel_rfl)
        go_wp2_with fail
        with_reducible refine (both_put w0 wr.drew p v' b' 0 x.1 Ae ce x.2 ba bb a1 a2 n most bk e1 e2 HF.out HCe.out (below_drew (HLO.out.trans HX.out.2.2)) HO'.out.drew HL'.out).mono ?_
        rintro r w2 ⟨rfl, hT2⟩
        have HT2 := Aside0.mk (OutTo.of_drew hT2)
        clear hT2 q0 hC
        go_wp2_with fail
        go_roundw
        case rel =>
          refine ⟨k + 1, (bothS n most) (b', 0) x, by go_num, by omega, OutTo.trans HX.out.1 HX.out.2.1 HX.out.2.2 hsz HT2.out, bothS_len n most (b', 0) _ HL'.out, ?_⟩
          have h := HR'.out
          rw [drop_cons l k hlt, manyGo, if_pos rfl] at h
          rw [HXX.out, List.getD_eq_getElem?_getD, List.getElem?_eq_getElem hlt]; exact h
        case measure => simp [intOf]; omega
      · have he1 : (e' == 0) = false := by simpa using he
        have hlt' : (k : Int) < (l.length : Int) := by omega
        go_wp2_with fail
        go_end0
        rw [← HR'.out, manyGo_stop _ _ _ he]
        exact ⟨rfl, v', HO'.out, HX.out.1, HX.out.2.1, HX.out.2.2⟩
    · obtain rfl : k = l.length := by omega
      go_wp2_with fail
      go_end0
      rw [← HR'.out, List.drop_length]
      exact ⟨rfl, v', HO'.out, HX.out.1, HX.out.2.1, HX.out.2.2⟩
set_option maxRecDepth 100000 in
set_option maxHeartbeats 4000000 in
theorem manyJ_get (w0 w : World) (p : Nat) (A : Option Addr) (c : Nat) (bs : List Int) (bad : Bool) (bc bf c1 c2 : Nat) (dc df d1 d2 f1 f2 n : Nat) (most : Int) (hM : ManyF w0 bc bf c1 c2 32 (manyV dc df)) (hf : ManyF w0 dc df d1 d2 37 (numV f1 f2) ∧ NumF w0 f1 f2 n most) (h : InOK w0 w p A c bs bad) :
    Calls Try.prog 55 #[.pointer (some ⟨p, 0, none⟩), .pointer (some ⟨bc, 0, none⟩), .pointer (some ⟨bf, 0, none⟩)] w fun r w' => ∃ v : Value, r = .returned v ∧ Kd.R (Kd.slice 3 (Kd.int .i64)) 28 w' w.heap.size (fun _ => True) v (manyR (manyR (fun s => lowI s n most)) (bs, bad)).1 ∧ InTo w0 w p (manyR (manyR (fun s => lowI s n most)) (bs, bad)).2 w' := by
  have HI := Aside0.mk h
  have HM := Aside0.mk hM
  have HF := Aside0.mk hf
  have hM1 := hM.below h.lo
  have q0 : w.cell? ⟨bc, 1, none⟩ = some (.func (.func 88) #[] #[.pointer (some ⟨c1, 0, none⟩), .pointer (some ⟨c2, 0, none⟩)]) := blk_cell hM1.c 1
  have HN := Aside0.mk hM1.n
  have hp : p < w.heap.size := blk_lt h.blk
  have hB := h.lo.size
  clear h hM hf hM1
  go_enter Try.func55, Try.ntmps55
  go_wp2_with fail
  with_reducible refine (numget_run w0 w p c1 c2 2 4096 A c bs bad HN.out HI.out).mono ?_
  rintro r w1 ⟨rfl, hT⟩
  have HT := Aside0.mk hT
  have HC := Aside0.mk (lowI_range (bs, bad) 2 4096 (by decide) (by decide) HI.out.ok.1)
  obtain ⟨n0, hn0⟩ : ∃ n0 : Nat, (lowI (bs, bad) 2 4096).1 = (n0 : Int) := ⟨_, (Int.toNat_of_nonneg HC.out.1).symm⟩
  have HR := Aside0.mk (show manyIn (manyR (fun s => lowI s n most)) n0 [] (lowI (bs, bad) 2 4096).2 = manyR (manyR (fun s => lowI s n most)) (bs, bad) by unfold manyR; rw [hn0, Int.toNat_natCast])
  have hn1 : n0 ≤ 4096 := by have := HC.out.2; omega
  have hn0' : (lowI (bs, bad) ((2 : Nat) : Int) 4096).1 = (n0 : Int) := hn0
  rw [hn0']
  clear hT q0 hn0 hn0' HC
  go_wp2_with fail
  go_loopw [5, 6] (fun v5 v6 wr => ∃ (m : Nat) (acc : List (List Int)) (s' : List Int × Bool), v6 = .int .i64 m ∧ acc.length + m ≤ 4096 ∧ Kd.R (Kd.slice 3 (Kd.int .i64)) 28 wr w.heap.size (fun _ => True) v5 acc ∧ InTo w0 w p s' wr ∧ manyIn (manyR (fun s => lowI s n most)) m acc s' = manyR (manyR (fun s => lowI s n most)) (bs, bad)) (fun _ v6 _ => (intOf v6).toNat)
  case atStart => exact ⟨n0, [], _, rfl, by simp; omega, Kd.R_nil _ _ _ _ _, HT.out, HR.out⟩
  case round =>
    obtain ⟨m, acc, ⟨b', bd'⟩, rfl, hm, hR, hTT, hr⟩ := hrel
    obtain ⟨⟨A', c', hI'⟩, hk'⟩ := hTT
    obtain ⟨A5, c5, hv5⟩ := Kd.R_slice hR
    subst hv5
    have h1 : wr.cell? ⟨p, 1, none⟩ = some (.bool bd') := blk_cell hI'.blk 1
    have hMr := HM.out.below hI'.lo
    have q0 : wr.cell? ⟨bf, 1, none⟩ = some (.func (.func 57) #[] #[.pointer (some ⟨dc, 0, none⟩), .pointer (some ⟨df, 0, none⟩)]) := blk_cell hMr.f 1
    have HI' := Aside0.mk hI'
    have HR5 := Aside0.mk hR
    have HK' := Aside0.mk hk'
    have HR' := Aside0.mk hr
    clear hI' hMr hk' hr hR
    by_cases hz : m = 0
    · subst hz
      go_wp2_with fail
      go_ret
      rw [← HR'.out]
      exact ⟨_, rfl, HR5.out, ⟨A', c', HI'.out⟩, HK'.out⟩
    · cases bd'
      · obtain ⟨m, rfl⟩ : ∃ q, m = q + 1 := ⟨m - 1, by omega⟩
        go_wp2_with fail
        with_reducible refine (manyI_get w0 wr p A' c' b' false dc df d1 d2 f1 f2 n most HF.out.1 HF.out.2 HI'.out).mono ?_
        rintro r w2 ⟨ve, rfl, hRe, hT2⟩
        have HT2 := Aside0.mk hT2
        obtain ⟨⟨A2, c2', hI2⟩, hk2⟩ := hT2
        have hR2 : Kd.R (Kd.slice 3 (Kd.int .i64)) 28 w2 w.heap.size (fun _ => True) (.slice A5 acc.length c5) acc := Kd.R_mono (Kd.R_keep (Kd.R_bound HR5.out) hk2 (fun k hk => by have := hk.2.1; omega)) (fun _ hk => hk.1)
        have HR2 := Aside0.mk hR2
        have hsz2 : w.heap.size ≤ w2.heap.size := Nat.le_trans HK'.out.1 hk2.1
        clear hI2 hk2 hR2
        obtain ⟨Ae, ce, hve⟩ := Kd.R_slice hRe
        subst hve
        have HMP := Aside0.mk (show (Kd.slice 3 (Kd.int .i64)).M w2 w.heap.size (fun k => True ∧ some k ≠ (Value.slice A5 acc.length c5).ownBlock) (manyR (fun s => lowI s n most) (b', false)).1 [.slice Ae (manyR (fun s => lowI s n most) (b', false)).1.length ce] from ⟨_, rfl, Kd.R_lower (Kd.R_new' hRe (fun k hk => Kd.R_lt HR5.out k hk)) HK'.out.1⟩)
        clear hRe
        go_wp2_with (refine Kd.R_append (Kd.slice 3 (Kd.int .i64)) (w0 := w2) w.heap.size rfl (.tmp 22) (.tmp 27) 39 28 (.slice none 0 0) 24 rfl Try.underlying39 (by kernel_rfl) rfl (by decide) (by decide) (.slice A5 acc.length c5) acc ((manyR (fun s => lowI s n most)) (b', false)).1 [.slice Ae (manyR (fun s => lowI s n most) (b', false)).1.length ce] (fun _ => True) (fun k => True ∧ some k ≠ (Value.slice A5 acc.length c5).ownBlock) rfl rfl HMP.out (fun _ hk => hk) (fun _ _ => trivial) HR2.out (Below.refl _ _) hsz2 (by omega) ?_; intro v3 w3 ho hb3 hg hat; obtain ⟨A3, c3, hv3⟩ := Kd.R_slice ho; subst hv3; simp only [List.length_append, List.length_singleton] at ho hat; have HX := Aside0.mk (And.intro ho hb3); clear ho hb3 hg hat)
        go_roundw
        case rel =>
          refine ⟨m, acc ++ [((manyR (fun s => lowI s n most)) (b', false)).1], ((manyR (fun s => lowI s n most)) (b', false)).2, by go_num, by simp; omega, ?_, ?_, ?_⟩
          · have h := HX.out.1
            simpa using h
          · exact (InTo.bind (s := (b', false)) ⟨⟨A', c', HI'.out⟩, HK'.out⟩ HT2.out).past hp HX.out.2 hB
          · have h := HR'.out
            rw [manyIn, if_neg (show ¬ ((b', false).2 = true) from Bool.false_ne_true)] at h
            exact h
        case measure => simp [intOf]
      · go_wp2_with fail
        go_ret
        rw [← HR'.out, manyIn_stop _ _ _ _ rfl]
        exact ⟨_, rfl, HR5.out, ⟨A', c', HI'.out⟩, HK'.out⟩
set_option maxRecDepth 100000 in
set_option maxHeartbeats 4000000 in
theorem manyP_get (w0 w : World) (p : Nat) (A : Option Addr) (c : Nat) (bs : List Int) (bad : Bool) (bc bf c1 c2 : Nat) (ba bb a1 a2 n : Nat) (most : Int) (bk e1 e2 : Nat) (hM : ManyF w0 bc bf c1 c2 109 (bothV ba bb)) (hf : BothF w0 ba bb a1 a2 n most bk e1 e2) (h : InOK w0 w p A c bs bad) :
    Calls Try.prog 82 #[.pointer (some ⟨p, 0, none⟩), .pointer (some ⟨bc, 0, none⟩), .pointer (some ⟨bf, 0, none⟩)] w fun r w' => ∃ v : Value, r = .returned v ∧ Kd.R kP 100 w' w.heap.size (fun _ => True) v (manyR (bothG n most) (bs, bad)).1 ∧ InTo w0 w p (manyR (bothG n most) (bs, bad)).2 w' := by
  have HI := Aside0.mk h
  have HM := Aside0.mk hM
  have HF := Aside0.mk hf
  have hM1 := hM.below h.lo
  have q0 : w.cell? ⟨bc, 1, none⟩ = some (.func (.func 88) #[] #[.pointer (some ⟨c1, 0, none⟩), .pointer (some ⟨c2, 0, none⟩)]) := blk_cell hM1.c 1
  have HN := Aside0.mk hM1.n
  have hp : p < w.heap.size := blk_lt h.blk
  have hB := h.lo.size
  clear h hM hf hM1
  go_enter Try.func82, Try.ntmps82
  go_wp2_with fail
  with_reducible refine (numget_run w0 w p c1 c2 2 4096 A c bs bad HN.out HI.out).mono ?_
  rintro r w1 ⟨rfl, hT⟩
  have HT := Aside0.mk hT
  have HC := Aside0.mk (lowI_range (bs, bad) 2 4096 (by decide) (by decide) HI.out.ok.1)
  obtain ⟨n0, hn0⟩ : ∃ n0 : Nat, (lowI (bs, bad) 2 4096).1 = (n0 : Int) := ⟨_, (Int.toNat_of_nonneg HC.out.1).symm⟩
  have HR := Aside0.mk (show manyIn (bothG n most) n0 [] (lowI (bs, bad) 2 4096).2 = manyR (bothG n most) (bs, bad) by unfold manyR; rw [hn0, Int.toNat_natCast])
  have hn1 : n0 ≤ 4096 := by have := HC.out.2; omega
  have hn0' : (lowI (bs, bad) ((2 : Nat) : Int) 4096).1 = (n0 : Int) := hn0
  rw [hn0']
  clear hT q0 hn0 hn0' HC
  go_wp2_with fail
  go_loopw [5, 6] (fun v5 v6 wr => ∃ (m : Nat) (acc : List PairS) (s' : List Int × Bool), v6 = .int .i64 m ∧ acc.length + m ≤ 4096 ∧ Kd.R kP 100 wr w.heap.size (fun _ => True) v5 acc ∧ InTo w0 w p s' wr ∧ manyIn (bothG n most) m acc s' = manyR (bothG n most) (bs, bad)) (fun _ v6 _ => (intOf v6).toNat)
  case atStart => exact ⟨n0, [], _, rfl, by simp; omega, Kd.R_nil _ _ _ _ _, HT.out, HR.out⟩
  case round =>
    obtain ⟨m, acc, ⟨b', bd'⟩, rfl, hm, hR, hTT, hr⟩ := hrel
    obtain ⟨⟨A', c', hI'⟩, hk'⟩ := hTT
    obtain ⟨A5, c5, hv5⟩ := Kd.R_slice hR
    subst hv5
    have h1 : wr.cell? ⟨p, 1, none⟩ = some (.bool bd') := blk_cell hI'.blk 1
    have hMr := HM.out.below hI'.lo
    have q0 : wr.cell? ⟨bf, 1, none⟩ = some (.func (.func 84) #[] #[.pointer (some ⟨ba, 0, none⟩), .pointer (some ⟨bb, 0, none⟩)]) := blk_cell hMr.f 1
    have HI' := Aside0.mk hI'
    have HR5 := Aside0.mk hR
    have HK' := Aside0.mk hk'
    have HR' := Aside0.mk hr
    clear hI' hMr hk' hr hR
    by_cases hz : m = 0
    · subst hz
      go_wp2_with fail
      go_ret
      rw [← HR'.out]
      exact ⟨_, rfl, HR5.out, ⟨A', c', HI'.out⟩, HK'.out⟩
    · cases bd'
      · obtain ⟨m, rfl⟩ : ∃ q, m = q + 1 := ⟨m - 1, by omega⟩
        go_wp2_with fail
        with_reducible refine (both_get w0 wr p A' c' b' false ba bb a1 a2 n most bk e1 e2 HF.out HI'.out).mono ?_
        rintro r w2 ⟨ve, rfl, hRe, hT2⟩
        have HT2 := Aside0.mk hT2
        obtain ⟨⟨A2, c2', hI2⟩, hk2⟩ := hT2
        have hR2 : Kd.R kP 100 w2 w.heap.size (fun _ => True) (.slice A5 acc.length c5) acc := Kd.R_mono (Kd.R_keep (Kd.R_bound HR5.out) hk2 (fun k hk => by have := hk.2.1; omega)) (fun _ hk => hk.1)
        have HR2 := Aside0.mk hR2
        have hsz2 : w.heap.size ≤ w2.heap.size := Nat.le_trans HK'.out.1 hk2.1
        clear hI2 hk2 hR2
        obtain ⟨Ae, ce, hve⟩ := Kd.R_slice hRe
        subst hve
        have HMP := Aside0.mk (show kP.M w2 w.heap.size (fun k => True ∧ some k ≠ (Value.slice A5 acc.length c5).ownBlock) (bothG n most (b', false)).1 [.int .i64 (bothG n most (b', false)).1.1, .slice Ae (bothG n most (b', false)).1.2.length ce] from ⟨[_], [_], rfl, rfl, _, rfl, Kd.R_lower (Kd.R_new' hRe (fun k hk => Kd.R_lt HR5.out k hk)) HK'.out.1⟩)
        clear hRe
        go_wp2_with (refine Kd.R_append kP (w0 := w2) w.heap.size rfl (.tmp 22) (.tmp 27) 98 100 (.agg #[.int .i64 0, .slice none 0 0]) 32 rfl Try.underlying98 (by kernel_rfl) rfl (by decide) (by decide) (.slice A5 acc.length c5) acc ((bothG n most) (b', false)).1 [.int .i64 (bothG n most (b', false)).1.1, .slice Ae (bothG n most (b', false)).1.2.length ce] (fun _ => True) (fun k => True ∧ some k ≠ (Value.slice A5 acc.length c5).ownBlock) rfl rfl HMP.out (fun _ hk => hk) (fun _ _ => trivial) HR2.out (Below.refl _ _) hsz2 (by omega) ?_; intro v3 w3 ho hb3 hg hat; obtain ⟨A3, c3, hv3⟩ := Kd.R_slice ho; subst hv3; simp only [List.length_append, List.length_singleton] at ho hat; have HX := Aside0.mk (And.intro ho hb3); clear ho hb3 hg hat)
        go_roundw
        case rel =>
          refine ⟨m, acc ++ [((bothG n most) (b', false)).1], ((bothG n most) (b', false)).2, by go_num, by simp; omega, ?_, ?_, ?_⟩
          · have h := HX.out.1
            simpa using h
          · exact (InTo.bind (s := (b', false)) ⟨⟨A', c', HI'.out⟩, HK'.out⟩ HT2.out).past hp HX.out.2 hB
          · have h := HR'.out
            rw [manyIn, if_neg (show ¬ ((b', false).2 = true) from Bool.false_ne_true)] at h
            exact h
        case measure => simp [intOf]
      · go_wp2_with fail
        go_ret
        rw [← HR'.out, manyIn_stop _ _ _ _ rfl]
        exact ⟨_, rfl, HR5.out, ⟨A', c', HI'.out⟩, HK'.out⟩
end Go.Proofs.Ytdlkkjfbbeffbaa.P
