/- codec.Many: lists written and read, an instance each; no statement of the seat. -/
import Derived.Test.YtdlkkjfbbeffbaaCodecB
import Derived.StillTailTactics
set_option linter.unusedVariables false
set_option linter.unusedSimpArgs false
namespace Go.Proofs.Ytdlkkjfbbeffbaa.P
open Go.RowKit Go.Proofs.YtdlkkjfbbeffbaaW.PrintWords Go.Proofs.YtdlkkjfbbeffbaaW.PrintLast Go.Proofs.YtdlkkjfbbeffbaaW.PrintMore
/-- The boxes of a list's field: the count's and the elements' fields. -/
structure ManyF (w : World) (bc bf c1 c2 : Nat) (tf : TypeId) (fv : Array Value) : Prop where
  c : w.heap[bc]? = some (.cells (numV c1 c2) 37 (0, 0))
  n : NumF w c1 c2 2 4096
  f : w.heap[bf]? = some (.cells fv tf (0, 0))
theorem ManyF.below {w w1 : World} {bc bf c1 c2 : Nat} {tf : TypeId} {fv : Array Value} (h : ManyF w bc bf c1 c2 tf fv) (hb : Below w.heap.size w w1) : ManyF w1 bc bf c1 c2 tf fv := ⟨blk_below h.c hb, h.n.below hb, blk_below h.f hb⟩
theorem OutOK.drew {w : World} {B p : Nat} {v : Value} {bs : List Int} {e : Int} (h : OutOK w B p v bs e) : OutOK w.drew B p v bs e := ⟨h.le, h.blk, Kd.R_drew h.own⟩
theorem OutTo.of_drew {w w' : World} {B p : Nat} {v : Value} {s : List Int × Int} (h : OutTo w.drew B p v s w') : OutTo w B p v s w' := by
  obtain ⟨v', ho, hk, hat, hb⟩ := h
  exact ⟨v', ho, hk, hat, (below_drew (Below.refl B w)).trans hb⟩
theorem drop_cons {α : Type} (l : List α) (k : Nat) (h : k < l.length) : l.drop k = l[k] :: l.drop (k + 1) := (List.getElem_cons_drop h).symm
theorem rd_get (l : List Int) (k : Nat) (h : k < l.length) : rd l (k : Int) = l[k] := by
  unfold rd
  rw [Int.toNat_natCast, List.getD_eq_getElem?_getD, List.getElem?_eq_getElem h]
  rfl
/-- What a list's field reads. -/
def manyIn {α : Type} (G : List Int × Bool → α × List Int × Bool) : Nat → List α → List Int × Bool → List α × List Int × Bool
  | 0, acc, s => (acc, s)
  | n + 1, acc, s => if s.2 = true then (acc, s) else manyIn G n (acc ++ [(G s).1]) (G s).2
def manyR {α : Type} (G : List Int × Bool → α × List Int × Bool) (s : List Int × Bool) : List α × List Int × Bool := manyIn G (lowI s 2 4096).1.toNat [] (lowI s 2 4096).2
theorem manyIn_stop {α : Type} (G : List Int × Bool → α × List Int × Bool) (n : Nat) (acc : List α) (s : List Int × Bool) (h : s.2 = true) : manyIn G n acc s = (acc, s) := by
  cases n with
  | zero => rfl
  | succ n => rw [manyIn, if_pos h]
theorem takeS_ok (s : List Int × Bool) (n : Int) (h : okB s.1) : okB (takeS s n).1 ∧ okB (takeS s n).2.1 := by
  unfold takeS
  split
  · exact ⟨fun y hy => (List.not_mem_nil hy).elim, h⟩
  · exact ⟨h.take _, h.drop _⟩
theorem lowI_range (s : List Int × Bool) (size most : Int) (hm : 0 ≤ most) (h7 : size < 8) (h : okB s.1) : 0 ≤ (lowI s size most).1 ∧ (lowI s size most).1 ≤ most := by
  have ho := (takeS_ok s size h).1
  have hr := leN_range _ ho
  have hl : (takeS s size).1.length ≤ 7 := by
    unfold takeS
    split
    · simp
    · simp only [List.length_take]; omega
  have hp : (256 : Int) ^ (takeS s size).1.length ≤ 72057594037927936 := (show ∀ k, k < 8 → (256 : Int) ^ k ≤ 72057594037927936 by decide) _ (by omega)
  have hw : wrap64 (leN (takeS s size).1) = leN (takeS s size).1 := by unfold wrap64; omega
  unfold lowI
  simp only
  rw [hw]
  by_cases c : ((takeS s size).2.2 || (decide (size < 8) && decide (leN (takeS s size).1 > most))) = true
  · rw [if_pos c]; omega
  · rw [if_neg c]
    rw [decide_eq_true h7, Bool.true_and, Bool.or_eq_true, not_or, decide_eq_true_eq] at c
    omega
theorem InOK.drew {w0 w : World} {p : Nat} {A : Option Addr} {c : Nat} {bs : List Int} {bad : Bool} (h : InOK w0 w p A c bs bad) : InOK w0 w.drew p A c bs bad := ⟨h.le, h.blk, h.rd, h.cap, h.ok, below_drew h.lo⟩
theorem InOK.alloc {w0 w : World} {p : Nat} {A : Option Addr} {c : Nat} {bs : List Int} {bad : Bool} (h : InOK w0 w p A c bs bad) (o : Obj) : InOK w0 (w.alloc o) p A c bs bad := ⟨h.le, blk_alloc h.blk o, h.rd, h.cap, h.ok, h.lo.alloc h.lo.size o⟩
/-- Blocks beyond a world's end turn: what lay in it is as it was. -/
theorem InTo.past {w0 w w1 : World} {p : Nat} {s : List Int × Bool} (h : InTo w0 w p s w1) (hp : p < w.heap.size) {w2 : World} (hb : Below w.heap.size w1 w2) (h0 : w0.heap.size ≤ w.heap.size) : InTo w0 w p s w2 := by
  obtain ⟨⟨A, c, h1⟩, hk⟩ := h
  refine ⟨⟨A, c, h1.le, (hb.block p hp).trans h1.blk, h1.rd, h1.cap, h1.ok, h1.lo.trans (hb.mono h0)⟩, Nat.le_trans hk.1 ?_, fun i hi h1 h2 => (hb.block i hi).trans (hk.2 i hi h1 h2)⟩
  exact hb.size
set_option maxRecDepth 100000 in
set_option maxHeartbeats 4000000 in
theorem manyI_put (w0 w : World) (p : Nat) (v : Value) (bs : List Int) (e : Int) (A : Option Addr) (c : Nat) (l : List Int) (bc bf c1 c2 : Nat) (f1 f2 n : Nat) (most : Int) (hM : ManyF w0 bc bf c1 c2 37 (numV f1 f2)) (hf : NumF w0 f1 f2 n most) (hl : Kd.C (Kd.int .i64) w0 A l.length l) (hlo : Below w0.heap.size w0 w) (h : OutOK w w0.heap.size p v bs e) (hbs : bs.length ≤ 1048576) :
    Calls Try.prog 56 #[.pointer (some ⟨p, 0, none⟩), .slice A l.length c, .pointer (some ⟨bc, 0, none⟩), .pointer (some ⟨bf, 0, none⟩)] w fun r w' => r = .returned (.tuple #[]) ∧ OutTo w w0.heap.size p v (manyS (fun s x => numS s n most x) (bs, e) l) w' := by
  have HO := Aside0.mk h
  have HL := Aside0.mk hl
  have HM := Aside0.mk hM
  have HF := Aside0.mk hf
  have HLO := Aside0.mk hlo
  have hmx := Kd.C_max hl
  have hM1 := hM.below hlo
  have q0 : w.cell? ⟨bc, 0, none⟩ = some (.func (.func 86) #[] #[.pointer (some ⟨c1, 0, none⟩), .pointer (some ⟨c2, 0, none⟩)]) := blk_cell hM1.c 0
  have HN := Aside0.mk hM1.n
  have hB := hlo.size
  clear h hl hM hf hlo hM1
  go_enter Try.func56, Try.ntmps56
  go_wp2_with fail
  with_reducible refine (numput_run w0.heap.size p c1 c2 2 4096 v bs e (l.length : Int) w HN.out HO.out (by omega) hbs).mono ?_
  rintro r w1 ⟨rfl, hT⟩
  have HT := Aside0.mk hT
  have hlen1 := numS_len (bs, e) 2 4096 (l.length : Int) hbs
  obtain ⟨s1, hs1⟩ : ∃ s1, s1 = numS (bs, e) 2 4096 (l.length : Int) := ⟨_, rfl⟩
  have HR := Aside0.mk (show manyGo (fun s x => numS s n most x) l s1 = manyS (fun s x => numS s n most x) (bs, e) l by rw [hs1]; rfl)
  have HT1 := Aside0.mk (show OutTo w w0.heap.size p v s1 w1 by rw [hs1]; exact hT)
  have HS1 := Aside0.mk (show s1.1.length ≤ 1048576 by rw [hs1]; exact hlen1)
  clear hT hs1 hlen1 q0 HT
  go_wp2_with fail
  go_loopw [6] (fun v6 wr => ∃ (k : Nat) (s' : List Int × Int), v6 = .int .i64 k ∧ k ≤ l.length ∧ OutTo w w0.heap.size p v s' wr ∧ s'.1.length ≤ 1048576 ∧ manyGo (fun s x => numS s n most x) (l.drop k) s' = manyS (fun s x => numS s n most x) (bs, e) l) (fun v6 _ => l.length - (intOf v6).toNat)
  case atStart => exact ⟨0, s1, rfl, Nat.zero_le _, HT1.out, HS1.out, HR.out⟩
  case round =>
    obtain ⟨k, ⟨b', e'⟩, rfl, hk, hTT, hl', hr⟩ := hrel
    obtain ⟨v', hO', hk', hat', hb'⟩ := hTT
    have h1 : wr.cell? ⟨p, 1, none⟩ = some (.int .i64 e') := blk_cell hO'.blk 1
    have hMr := HM.out.below (HLO.out.trans hb')
    have q0 : wr.cell? ⟨bf, 0, none⟩ = some (.func (.func 86) #[] #[.pointer (some ⟨f1, 0, none⟩), .pointer (some ⟨f2, 0, none⟩)]) := blk_cell hMr.f 0
    have HO' := Aside0.mk hO'
    have HX := Aside0.mk (And.intro hk' (And.intro hat' hb'))
    have HR' := Aside0.mk hr
    have HL' := Aside0.mk hl'
    have hsz : w0.heap.size ≤ wr.heap.size := (HLO.out.trans hb').size
    have hszd : w0.heap.size ≤ wr.drew.heap.size := hsz
    clear hO' hMr hk' hat' hb' hr
    by_cases hlt : k < l.length
    · by_cases he : e' = 0
      · subst he
        have hC := Kd.C_below HL.out (HLO.out.trans HX.out.2.2)
        obtain ⟨ad, rfl, hc⟩ := Kd.at_int hC (k : Int) (by omega) (by omega)
        rw [Int.toNat_natCast] at hc
        go_upto_region 4 with (fail)
        go_still_tail 7, (by kernel_rfl)
        go_wp2_with fail
        with_reducible refine (numput_run w0.heap.size p f1 f2 n most v' b' 0 (rd l (k : Int)) wr.drew (HF.out.below (below_drew (HLO.out.trans HX.out.2.2))) HO'.out.drew hszd HL'.out).mono ?_
        rintro r w2 ⟨rfl, hT2⟩
        have HT2 := Aside0.mk (OutTo.of_drew hT2)
        clear hT2 q0 hC
        go_wp2_with fail
        go_roundw
        case rel =>
          refine ⟨k + 1, (fun s x => numS s n most x) (b', 0) (rd l (k : Int)), by go_num, by omega, OutTo.trans HX.out.1 HX.out.2.1 HX.out.2.2 hsz HT2.out, numS_len (b', 0) n most _ HL'.out, ?_⟩
          have h := HR'.out
          rw [drop_cons l k hlt, manyGo, if_pos rfl] at h
          rw [rd_get l k hlt]; exact h
        case measure => simp [intOf]; omega
      · have he1 : (e' == 0) = false := by simpa using he
        have hlt' : (k : Int) < (l.length : Int) := by omega
        go_wp2_with fail
        go_end0
        rw [← HR'.out, manyGo_stop _ _ _ he]
        exact ⟨rfl, v', HO'.out, HX.out.1, HX.out.2.1, HX.out.2.2⟩
    · obtain rfl : k = l.length := by omega
      go_wp2_with fail
      go_end0
      rw [← HR'.out, List.drop_length]
      exact ⟨rfl, v', HO'.out, HX.out.1, HX.out.2.1, HX.out.2.2⟩
set_option maxRecDepth 100000 in
set_option maxHeartbeats 4000000 in
theorem manyI_get (w0 w : World) (p : Nat) (A : Option Addr) (c : Nat) (bs : List Int) (bad : Bool) (bc bf c1 c2 : Nat) (f1 f2 n : Nat) (most : Int) (hM : ManyF w0 bc bf c1 c2 37 (numV f1 f2)) (hf : NumF w0 f1 f2 n most) (h : InOK w0 w p A c bs bad) :
    Calls Try.prog 57 #[.pointer (some ⟨p, 0, none⟩), .pointer (some ⟨bc, 0, none⟩), .pointer (some ⟨bf, 0, none⟩)] w fun r w' => ∃ v : Value, r = .returned v ∧ Kd.R (Kd.int .i64) 3 w' w.heap.size (fun _ => True) v (manyR (fun s => lowI s n most) (bs, bad)).1 ∧ InTo w0 w p (manyR (fun s => lowI s n most) (bs, bad)).2 w' := by
  have HI := Aside0.mk h
  have HM := Aside0.mk hM
  have HF := Aside0.mk hf
  have hM1 := hM.below h.lo
  have q0 : w.cell? ⟨bc, 1, none⟩ = some (.func (.func 88) #[] #[.pointer (some ⟨c1, 0, none⟩), .pointer (some ⟨c2, 0, none⟩)]) := blk_cell hM1.c 1
  have HN := Aside0.mk hM1.n
  have hp : p < w.heap.size := blk_lt h.blk
  have hB := h.lo.size
  clear h hM hf hM1
  go_enter Try.func57, Try.ntmps57
  go_wp2_with fail
  with_reducible refine (numget_run w0 w p c1 c2 2 4096 A c bs bad HN.out HI.out).mono ?_
  rintro r w1 ⟨rfl, hT⟩
  have HT := Aside0.mk hT
  have HC := Aside0.mk (lowI_range (bs, bad) 2 4096 (by decide) (by decide) HI.out.ok.1)
  obtain ⟨n0, hn0⟩ : ∃ n0 : Nat, (lowI (bs, bad) 2 4096).1 = (n0 : Int) := ⟨_, (Int.toNat_of_nonneg HC.out.1).symm⟩
  have HR := Aside0.mk (show manyIn (fun s => lowI s n most) n0 [] (lowI (bs, bad) 2 4096).2 = manyR (fun s => lowI s n most) (bs, bad) by unfold manyR; rw [hn0, Int.toNat_natCast])
  have hn1 : n0 ≤ 4096 := by have := HC.out.2; omega
  have hn0' : (lowI (bs, bad) ((2 : Nat) : Int) 4096).1 = (n0 : Int) := hn0
  rw [hn0']
  clear hT q0 hn0 hn0' HC
  go_wp2_with fail
  go_loopw [5, 6] (fun v5 v6 wr => ∃ (m : Nat) (acc : List Int) (s' : List Int × Bool), v6 = .int .i64 m ∧ acc.length + m ≤ 4096 ∧ Kd.R (Kd.int .i64) 3 wr w.heap.size (fun _ => True) v5 acc ∧ InTo w0 w p s' wr ∧ manyIn (fun s => lowI s n most) m acc s' = manyR (fun s => lowI s n most) (bs, bad)) (fun _ v6 _ => (intOf v6).toNat)
  case atStart => exact ⟨n0, [], _, rfl, by simp; omega, Kd.R_nil _ _ _ _ _, HT.out, HR.out⟩
  case round =>
    obtain ⟨m, acc, ⟨b', bd'⟩, rfl, hm, hR, hTT, hr⟩ := hrel
    obtain ⟨⟨A', c', hI'⟩, hk'⟩ := hTT
    obtain ⟨A5, c5, hv5⟩ := Kd.R_slice hR
    subst hv5
    have h1 : wr.cell? ⟨p, 1, none⟩ = some (.bool bd') := blk_cell hI'.blk 1
    have hMr := HM.out.below hI'.lo
    have q0 : wr.cell? ⟨bf, 1, none⟩ = some (.func (.func 88) #[] #[.pointer (some ⟨f1, 0, none⟩), .pointer (some ⟨f2, 0, none⟩)]) := blk_cell hMr.f 1
    have HI' := Aside0.mk hI'
    have HR5 := Aside0.mk hR
    have HK' := Aside0.mk hk'
    have HR' := Aside0.mk hr
    clear hI' hMr hk' hr hR
    by_cases hz : m = 0
    · subst hz
      go_wp2_with fail
      go_ret
      rw [← HR'.out]
      exact ⟨_, rfl, HR5.out, ⟨A', c', HI'.out⟩, HK'.out⟩
    · cases bd'
      · obtain ⟨m, rfl⟩ : ∃ q, m = q + 1 := ⟨m - 1, by omega⟩
        go_wp2_with fail
        with_reducible refine (numget_run w0 wr p f1 f2 n most A' c' b' false (HF.out.below HI'.out.lo) HI'.out).mono ?_
        rintro r w2 ⟨rfl, hT2⟩
        have HT2 := Aside0.mk hT2
        obtain ⟨⟨A2, c2', hI2⟩, hk2⟩ := hT2
        have hR2 : Kd.R (Kd.int .i64) 3 w2 w.heap.size (fun _ => True) (.slice A5 acc.length c5) acc := Kd.R_mono (Kd.R_keep (Kd.R_bound HR5.out) hk2 (fun k hk => by have := hk.2.1; omega)) (fun _ hk => hk.1)
        have HR2 := Aside0.mk hR2
        have hsz2 : w.heap.size ≤ w2.heap.size := Nat.le_trans HK'.out.1 hk2.1
        clear hI2 hk2 hR2
        have HMP := Aside0.mk (show (Kd.int .i64).M w2 w.heap.size (fun k => True ∧ some k ≠ (Value.slice A5 acc.length c5).ownBlock) (lowI (b', false) n most).1 [.int .i64 (lowI (b', false) n most).1] from rfl)
        go_wp2_with (refine Kd.R_append (Kd.int .i64) (w0 := w2) w.heap.size rfl (.tmp 22) (.tmp 27) 28 3 (.int .i64 0) 8 rfl Try.underlying28 (by kernel_rfl) rfl (by decide) (by decide) (.slice A5 acc.length c5) acc ((fun s => lowI s n most) (b', false)).1 [.int .i64 (lowI (b', false) n most).1] (fun _ => True) (fun k => True ∧ some k ≠ (Value.slice A5 acc.length c5).ownBlock) rfl rfl HMP.out (fun _ hk => hk) (fun _ _ => trivial) HR2.out (Below.refl _ _) hsz2 (by omega) ?_; intro v3 w3 ho hb3 hg hat; obtain ⟨A3, c3, hv3⟩ := Kd.R_slice ho; subst hv3; simp only [List.length_append, List.length_singleton] at ho hat; have HX := Aside0.mk (And.intro ho hb3); clear ho hb3 hg hat)
        go_roundw
        case rel =>
          refine ⟨m, acc ++ [((fun s => lowI s n most) (b', false)).1], ((fun s => lowI s n most) (b', false)).2, by go_num, by simp; omega, ?_, ?_, ?_⟩
          · have h := HX.out.1
            simpa using h
          · exact (InTo.bind (s := (b', false)) ⟨⟨A', c', HI'.out⟩, HK'.out⟩ HT2.out).past hp HX.out.2 hB
          · have h := HR'.out
            rw [manyIn, if_neg (show ¬ ((b', false).2 = true) from Bool.false_ne_true)] at h
            exact h
        case measure => simp [intOf]
      · go_wp2_with fail
        go_ret
        rw [← HR'.out, manyIn_stop _ _ _ _ rfl]
        exact ⟨_, rfl, HR5.out, ⟨A', c', HI'.out⟩, HK'.out⟩
end Go.Proofs.Ytdlkkjfbbeffbaa.P
