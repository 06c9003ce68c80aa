import Derived.Test.YtjkjpmfenillcaaCodecA
import Derived.StillTailTactics
import Derived.WalkSpells
import Derived.Lib.SliceRun
/- codec.Many: lists written and read, an instance each; no statement of the seat. -/
set_option linter.unusedVariables false
set_option linter.unusedSimpArgs false
namespace Go.Proofs.Ytjkjpmfenillcaa.P
open Go.RowKit Go.Proofs.YtjkjpmfenillcaaW.PrintWords Go.Proofs.YtjkjpmfenillcaaW.PrintLast Go.Proofs.YtjkjpmfenillcaaW.PrintMore
/-- The boxes of a list's field: the count's and the elements' fields. -/
structure ManyF (w : World) (bc bf c1 c2 : Nat) (tf : TypeId) (fv : Array Value) : Prop where
  c : w.heap[bc]? = some (.cells (numV c1 c2) 118 (0, 0))
  n : NumF w c1 c2 2 4096
  f : w.heap[bf]? = some (.cells fv tf (0, 0))
theorem ManyF.below {w w1 : World} {bc bf c1 c2 : Nat} {tf : TypeId} {fv : Array Value} (h : ManyF w bc bf c1 c2 tf fv) (hb : Below w.heap.size w w1) : ManyF w1 bc bf c1 c2 tf fv := ⟨blk_below h.c hb, h.n.below hb, blk_below h.f hb⟩
theorem OutOK.drew {w : World} {B p : Nat} {v : Value} {bs : List Int} {e : Int} (h : OutOK w B p v bs e) : OutOK w.drew B p v bs e := ⟨h.le, h.blk, Kd.R_drew h.own⟩
theorem OutTo.of_drew {w w' : World} {B p : Nat} {v : Value} {s : List Int × Int} (h : OutTo w.drew B p v s w') : OutTo w B p v s w' := by
  obtain ⟨v', ho, hk, hat, hb⟩ := h
  exact ⟨v', ho, hk, hat, (below_drew (Below.refl B w)).trans hb⟩
theorem drop_cons {α : Type} (l : List α) (k : Nat) (h : k < l.length) : l.drop k = l[k] :: l.drop (k + 1) := (List.getElem_cons_drop h).symm
theorem rd_get (l : List Int) (k : Nat) (h : k < l.length) : rd l (k : Int) = l[k] := by
  unfold rd
  rw [Int.toNat_natCast, List.getD_eq_getElem?_getD, List.getElem?_eq_getElem h]
  rfl
/-- What a list's field reads. -/
def manyIn {α : Type} (G : List Int × Bool → α × List Int × Bool) : Nat → List α → List Int × Bool → List α × List Int × Bool
  | 0, acc, s => (acc, s)
  | n + 1, acc, s => if s.2 = true then (acc, s) else manyIn G n (acc ++ [(G s).1]) (G s).2
def manyR {α : Type} (G : List Int × Bool → α × List Int × Bool) (s : List Int × Bool) : List α × List Int × Bool := manyIn G (lowI s 2 4096).1.toNat [] (lowI s 2 4096).2
theorem manyIn_stop {α : Type} (G : List Int × Bool → α × List Int × Bool) (n : Nat) (acc : List α) (s : List Int × Bool) (h : s.2 = true) : manyIn G n acc s = (acc, s) := by
  cases n with
  | zero => rfl
  | succ n => rw [manyIn, if_pos h]
theorem takeS_ok (s : List Int × Bool) (n : Int) (h : okB s.1) : okB (takeS s n).1 ∧ okB (takeS s n).2.1 := by
  unfold takeS
  split
  · exact ⟨fun y hy => (List.not_mem_nil hy).elim, h⟩
  · exact ⟨h.take _, h.drop _⟩
theorem lowI_range (s : List Int × Bool) (size most : Int) (hm : 0 ≤ most) (h7 : size < 8) (h : okB s.1) : 0 ≤ (lowI s size most).1 ∧ (lowI s size most).1 ≤ most := by
  have ho := (takeS_ok s size h).1
  have hr := leN_range _ ho
  have hl : (takeS s size).1.length ≤ 7 := by
    unfold takeS
    split
    · simp
    · simp only [List.length_take]; omega
  have hp : (256 : Int) ^ (takeS s size).1.length ≤ 72057594037927936 := (show ∀ k, k < 8 → (256 : Int) ^ k ≤ 72057594037927936 by decide) _ (by omega)
  have hw : wrap64 (leN (takeS s size).1) = leN (takeS s size).1 := by unfold wrap64; omega
  unfold lowI
  simp only
  rw [hw]
  by_cases c : ((takeS s size).2.2 || (decide (size < 8) && decide (leN (takeS s size).1 > most))) = true
  · rw [if_pos c]; omega
  · rw [if_neg c]
    rw [decide_eq_true h7, Bool.true_and, Bool.or_eq_true, not_or, decide_eq_true_eq] at c
    omega
theorem InOK.drew {w0 w : World} {p : Nat} {A : Option Addr} {c : Nat} {bs : List Int} {bad : Bool} (h : InOK w0 w p A c bs bad) : InOK w0 w.drew p A c bs bad := ⟨h.le, h.blk, h.rd, h.cap, h.ok, below_drew h.lo⟩
theorem InOK.alloc {w0 w : World} {p : Nat} {A : Option Addr} {c : Nat} {bs : List Int} {bad : Bool} (h : InOK w0 w p A c bs bad) (o : Obj) : InOK w0 (w.alloc o) p A c bs bad := ⟨h.le, blk_alloc h.blk o, h.rd, h.cap, h.ok, h.lo.alloc h.lo.size o⟩
/-- Blocks beyond a world's end turn: what lay in it is as it was. -/
theorem InTo.past {w0 w w1 : World} {p : Nat} {s : List Int × Bool} (h : InTo w0 w p s w1) (hp : p < w.heap.size) {w2 : World} (hb : Below w.heap.size w1 w2) (h0 : w0.heap.size ≤ w.heap.size) : InTo w0 w p s w2 := by
  obtain ⟨⟨A, c, h1⟩, hk⟩ := h
  refine ⟨⟨A, c, h1.le, (hb.block p hp).trans h1.blk, h1.rd, h1.cap, h1.ok, h1.lo.trans (hb.mono h0)⟩, Nat.le_trans hk.1 ?_, fun i hi h1 h2 => (hb.block i hi).trans (hk.2 i hi h1 h2)⟩
  exact hb.size
set_option maxRecDepth 100000 in
set_option maxHeartbeats 4000000 in
theorem manyI_put (w0 w : World) (p : Nat) (v : Value) (bs : List Int) (e : Int) (A : Option Addr) (c : Nat) (l : List Int) (bc bf c1 c2 : Nat) (f1 f2 n : Nat) (most : Int) (hM : ManyF w0 bc bf c1 c2 118 (numV f1 f2)) (hf : NumF w0 f1 f2 n most) (hl : Kd.C (Kd.int .i64) w0 A l.length l) (hlo : Below w0.heap.size w0 w) (h : OutOK w w0.heap.size p v bs e) (hbs : bs.length ≤ 1048576) :
    Calls Try.prog 95 #[.pointer (some ⟨p, 0, none⟩), .slice A l.length c, .pointer (some ⟨bc, 0, none⟩), .pointer (some ⟨bf, 0, none⟩)] w fun r w' => r = .returned (.tuple #[]) ∧ OutTo w w0.heap.size p v (manyS (fun s x => numS s n most x) (bs, e) l) w' := by
  have HO := Aside0.mk h
  have HL := Aside0.mk hl
  have HM := Aside0.mk hM
  have HF := Aside0.mk hf
  have HLO := Aside0.mk hlo
  have hmx := Kd.C_max hl
  have hM1 := hM.below hlo
  have q0 : w.cell? ⟨bc, 0, none⟩ = some (.func (.func 105) #[] #[.pointer (some ⟨c1, 0, none⟩), .pointer (some ⟨c2, 0, none⟩)]) := blk_cell hM1.c 0
  have HN := Aside0.mk hM1.n
  have hB := hlo.size
  clear h hl hM hf hlo hM1
  go_enter Try.func95, Try.ntmps95
  go_wp2_with fail
  with_reducible refine (numput_run w0.heap.size p c1 c2 2 4096 v bs e (l.length : Int) w HN.out HO.out (by omega) hbs).mono ?_
  rintro r w1 ⟨rfl, hT⟩
  have HT := Aside0.mk hT
  have hlen1 := numS_len (bs, e) 2 4096 (l.length : Int) hbs
  obtain ⟨s1, hs1⟩ : ∃ s1, s1 = numS (bs, e) 2 4096 (l.length : Int) := ⟨_, rfl⟩
  have HR := Aside0.mk (show manyGo (fun s x => numS s n most x) l s1 = manyS (fun s x => numS s n most x) (bs, e) l by rw [hs1]; rfl)
  have HT1 := Aside0.mk (show OutTo w w0.heap.size p v s1 w1 by rw [hs1]; exact hT)
  have HS1 := Aside0.mk (show s1.1.length ≤ 1048576 by rw [hs1]; exact hlen1)
  clear hT hs1 hlen1 q0 HT
  go_wp2_with fail
  go_loopw [6] (fun v6 wr => ∃ (k : Nat) (s' : List Int × Int), v6 = .int .i64 k ∧ k ≤ l.length ∧ OutTo w w0.heap.size p v s' wr ∧ s'.1.length ≤ 1048576 ∧ manyGo (fun s x => numS s n most x) (l.drop k) s' = manyS (fun s x => numS s n most x) (bs, e) l) (fun v6 _ => l.length - (intOf v6).toNat)
  case atStart => exact ⟨0, s1, rfl, Nat.zero_le _, HT1.out, HS1.out, HR.out⟩
  case round =>
    obtain ⟨k, ⟨b', e'⟩, rfl, hk, hTT, hl', hr⟩ := hrel
    obtain ⟨v', hO', hk', hat', hb'⟩ := hTT
    have h1 : wr.cell? ⟨p, 1, none⟩ = some (.int .i64 e') := blk_cell hO'.blk 1
    have hMr := HM.out.below (HLO.out.trans hb')
    have q0 : wr.cell? ⟨bf, 0, none⟩ = some (.func (.func 105) #[] #[.pointer (some ⟨f1, 0, none⟩), .pointer (some ⟨f2, 0, none⟩)]) := blk_cell hMr.f 0
    have HO' := Aside0.mk hO'
    have HX := Aside0.mk (And.intro hk' (And.intro hat' hb'))
    have HR' := Aside0.mk hr
    have HL' := Aside0.mk hl'
    have hsz : w0.heap.size ≤ wr.heap.size := (HLO.out.trans hb').size
    have hszd : w0.heap.size ≤ wr.drew.heap.size := hsz
    clear hO' hMr hk' hat' hb' hr
    by_cases hlt : k < l.length
    · by_cases he : e' = 0
      · subst he
        have hC := Kd.C_below HL.out (HLO.out.trans HX.out.2.2)
        obtain ⟨ad, rfl, hc⟩ := Kd.at_int hC (k : Int) (by omega) (by omega)
        rw [Int.toNat_natCast] at hc
        go_upto_region 4 with (fail)
        go_still_tail 7, (by kernel_rfl)
        go_wp2_with fail
        with_reducible refine (numput_run w0.heap.size p f1 f2 n most v' b' 0 (rd l (k : Int)) wr.drew (HF.out.below (below_drew (HLO.out.trans HX.out.2.2))) HO'.out.drew hszd HL'.out).mono ?_
        rintro r w2 ⟨rfl, hT2⟩
        have HT2 := Aside0.mk (OutTo.of_drew hT2)
        clear hT2 q0 hC
        go_wp2_with fail
        go_roundw
        case rel =>
          refine ⟨k + 1, (fun s x => numS s n most x) (b', 0) (rd l (k : Int)), by go_num, by omega, OutTo.trans HX.out.1 HX.out.2.1 HX.out.2.2 hsz HT2.out, numS_len (b', 0) n most _ HL'.out, ?_⟩
          have h := HR'.out
          rw [drop_cons l k hlt, manyGo, if_pos rfl] at h
          rw [rd_get l k hlt]; exact h
        case measure => simp [intOf]; omega
      · have he1 : (e' == 0) = false := by simpa using he
        have hlt' : (k : Int) < (l.length : Int) := by omega
        go_wp2_with fail
        go_end0
        rw [← HR'.out, manyGo_stop _ _ _ he]
        exact ⟨rfl, v', HO'.out, HX.out.1, HX.out.2.1, HX.out.2.2⟩
    · obtain rfl : k = l.length := by omega
      go_wp2_with fail
      go_end0
      rw [← HR'.out, List.drop_length]
      exact ⟨rfl, v', HO'.out, HX.out.1, HX.out.2.1, HX.out.2.2⟩
set_option maxRecDepth 100000 in
set_option maxHeartbeats 4000000 in
theorem manyI_get (w0 w : World) (p : Nat) (A : Option Addr) (c : Nat) (bs : List Int) (bad : Bool) (bc bf c1 c2 : Nat) (f1 f2 n : Nat) (most : Int) (hM : ManyF w0 bc bf c1 c2 118 (numV f1 f2)) (hf : NumF w0 f1 f2 n most) (h : InOK w0 w p A c bs bad) :
    Calls Try.prog 96 #[.pointer (some ⟨p, 0, none⟩), .pointer (some ⟨bc, 0, none⟩), .pointer (some ⟨bf, 0, none⟩)] w fun r w' => ∃ v : Value, r = .returned v ∧ Kd.R (Kd.int .i64) 3 w' w.heap.size (fun _ => True) v (manyR (fun s => lowI s n most) (bs, bad)).1 ∧ InTo w0 w p (manyR (fun s => lowI s n most) (bs, bad)).2 w' := by
  have HI := Aside0.mk h
  have HM := Aside0.mk hM
  have HF := Aside0.mk hf
  have hM1 := hM.below h.lo
  have q0 : w.cell? ⟨bc, 1, none⟩ = some (.func (.func 107) #[] #[.pointer (some ⟨c1, 0, none⟩), .pointer (some ⟨c2, 0, none⟩)]) := blk_cell hM1.c 1
  have HN := Aside0.mk hM1.n
  have hp : p < w.heap.size := blk_lt h.blk
  have hB := h.lo.size
  clear h hM hf hM1
  go_enter Try.func96, Try.ntmps96
  go_wp2_with fail
  with_reducible refine (numget_run w0 w p c1 c2 2 4096 A c bs bad HN.out HI.out).mono ?_
  rintro r w1 ⟨rfl, hT⟩
  have HT := Aside0.mk hT
  have HC := Aside0.mk (lowI_range (bs, bad) 2 4096 (by decide) (by decide) HI.out.ok.1)
  obtain ⟨n0, hn0⟩ : ∃ n0 : Nat, (lowI (bs, bad) 2 4096).1 = (n0 : Int) := ⟨_, (Int.toNat_of_nonneg HC.out.1).symm⟩
  have HR := Aside0.mk (show manyIn (fun s => lowI s n most) n0 [] (lowI (bs, bad) 2 4096).2 = manyR (fun s => lowI s n most) (bs, bad) by unfold manyR; rw [hn0, Int.toNat_natCast])
  have hn1 : n0 ≤ 4096 := by have := HC.out.2; omega
  have hn0' : (lowI (bs, bad) ((2 : Nat) : Int) 4096).1 = (n0 : Int) := hn0
  rw [hn0']
  clear hT q0 hn0 hn0' HC
  go_wp2_with fail
  go_loopw [5, 6] (fun v5 v6 wr => ∃ (m : Nat) (acc : List Int) (s' : List Int × Bool), v6 = .int .i64 m ∧ acc.length + m ≤ 4096 ∧ Kd.R (Kd.int .i64) 3 wr w.heap.size (fun _ => True) v5 acc ∧ InTo w0 w p s' wr ∧ manyIn (fun s => lowI s n most) m acc s' = manyR (fun s => lowI s n most) (bs, bad)) (fun _ v6 _ => (intOf v6).toNat)
  case atStart => exact ⟨n0, [], _, rfl, by simp; omega, Kd.R_nil _ _ _ _ _, HT.out, HR.out⟩
  case round =>
    obtain ⟨m, acc, ⟨b', bd'⟩, rfl, hm, hR, hTT, hr⟩ := hrel
    obtain ⟨⟨A', c', hI'⟩, hk'⟩ := hTT
    obtain ⟨A5, c5, hv5⟩ := Kd.R_slice hR
    subst hv5
    have h1 : wr.cell? ⟨p, 1, none⟩ = some (.bool bd') := blk_cell hI'.blk 1
    have hMr := HM.out.below hI'.lo
    have q0 : wr.cell? ⟨bf, 1, none⟩ = some (.func (.func 107) #[] #[.pointer (some ⟨f1, 0, none⟩), .pointer (some ⟨f2, 0, none⟩)]) := blk_cell hMr.f 1
    have HI' := Aside0.mk hI'
    have HR5 := Aside0.mk hR
    have HK' := Aside0.mk hk'
    have HR' := Aside0.mk hr
    clear hI' hMr hk' hr hR
    by_cases hz : m = 0
    · subst hz
      go_wp2_with fail
      go_ret
      rw [← HR'.out]
      exact ⟨_, rfl, HR5.out, ⟨A', c', HI'.out⟩, HK'.out⟩
    · cases bd'
      · obtain ⟨m, rfl⟩ : ∃ q, m = q + 1 := ⟨m - 1, by omega⟩
        go_wp2_with fail
        with_reducible refine (numget_run w0 wr p f1 f2 n most A' c' b' false (HF.out.below HI'.out.lo) HI'.out).mono ?_
        rintro r w2 ⟨rfl, hT2⟩
        have HT2 := Aside0.mk hT2
        obtain ⟨⟨A2, c2', hI2⟩, hk2⟩ := hT2
        have hR2 : Kd.R (Kd.int .i64) 3 w2 w.heap.size (fun _ => True) (.slice A5 acc.length c5) acc := Kd.R_mono (Kd.R_keep (Kd.R_bound HR5.out) hk2 (fun k hk => by have := hk.2.1; omega)) (fun _ hk => hk.1)
        have HR2 := Aside0.mk hR2
        have hsz2 : w.heap.size ≤ w2.heap.size := Nat.le_trans HK'.out.1 hk2.1
        clear hI2 hk2 hR2
        have HMP := Aside0.mk (show (Kd.int .i64).M w2 w.heap.size (fun k => True ∧ some k ≠ (Value.slice A5 acc.length c5).ownBlock) (lowI (b', false) n most).1 [.int .i64 (lowI (b', false) n most).1] from rfl)
        go_wp2_with (refine Kd.R_append (Kd.int .i64) (w0 := w2) w.heap.size rfl (.tmp 22) (.tmp 27) 24 3 (.int .i64 0) 8 rfl Try.underlying24 (by kernel_rfl) rfl (by decide) (by decide) (.slice A5 acc.length c5) acc ((fun s => lowI s n most) (b', false)).1 [.int .i64 (lowI (b', false) n most).1] (fun _ => True) (fun k => True ∧ some k ≠ (Value.slice A5 acc.length c5).ownBlock) rfl rfl HMP.out (fun _ hk => hk) (fun _ _ => trivial) HR2.out (Below.refl _ _) hsz2 (by omega) ?_; intro v3 w3 ho hb3 hg hat; obtain ⟨A3, c3, hv3⟩ := Kd.R_slice ho; subst hv3; simp only [List.length_append, List.length_singleton] at ho hat; have HX := Aside0.mk (And.intro ho hb3); clear ho hb3 hg hat)
        go_roundw
        case rel =>
          refine ⟨m, acc ++ [((fun s => lowI s n most) (b', false)).1], ((fun s => lowI s n most) (b', false)).2, by go_num, by simp; omega, ?_, ?_, ?_⟩
          · have h := HX.out.1
            simpa using h
          · exact (InTo.bind (s := (b', false)) ⟨⟨A', c', HI'.out⟩, HK'.out⟩ HT2.out).past hp HX.out.2 hB
          · have h := HR'.out
            rw [manyIn, if_neg (show ¬ ((b', false).2 = true) from Bool.false_ne_true)] at h
            exact h
        case measure => simp [intOf]
      · go_wp2_with fail
        go_ret
        rw [← HR'.out, manyIn_stop _ _ _ _ rfl]
        exact ⟨_, rfl, HR5.out, ⟨A', c', HI'.out⟩, HK'.out⟩
end Go.Proofs.Ytjkjpmfenillcaa.P
/- codec.Blob, Fixed, Both, turned: what is written, what is read; no statement of the seat. -/
set_option linter.unusedVariables false
set_option linter.unusedSimpArgs false
namespace Go.Proofs.Ytjkjpmfenillcaa.P
open Go.RowKit Go.Proofs.YtjkjpmfenillcaaW.PrintWords Go.Proofs.YtjkjpmfenillcaaW.PrintLast Go.Proofs.YtjkjpmfenillcaaW.PrintMore
/-- Bytes that lie in neither of two blocks. -/
def FarB (A : Option Addr) (n p : Nat) (row : Option Nat) : Prop := ∀ ad, A = some ad → 0 < n → ad.block ≠ p ∧ some ad.block ≠ row
theorem C_far {w W : World} {A : Option Addr} {n p : Nat} {row : Option Nat} {xs : List Int} (h : Kd.C (Kd.int .u8) w A n xs) (hk : KeepBut w W p row) (hf : FarB A n p row) : Kd.C (Kd.int .u8) W A n xs := by
  have hr := Kd.reads_of_C (d := (0 : Int)) (h1 := fun _ => rfl) h
  refine Kd.C_of_reads (h1 := fun _ => rfl) (d := (0 : Int)) ⟨hr.1, hr.2.1, fun hn => ?_⟩
  obtain ⟨ad, ha, hc⟩ := hr.2.2 hn
  refine ⟨ad, ha, fun j hj => ?_⟩
  have h1 := hc j hj
  have hb := World.block_lt_of_cell? w _ h1
  rw [← h1]
  obtain ⟨f1, f2⟩ := hf ad ha hn
  exact World.cell?_of_block (w := w) (hk.2 _ hb (by rw [add_block]; exact f1) (by rw [add_block]; exact f2))
theorem far_w0 {w0 w : World} {p : Nat} {v : Value} {bs : List Int} {e : Int} {A : Option Addr} {n : Nat} {xs : List Int} (h : Kd.C (Kd.int .u8) w0 A n xs) (ho : OutOK w w0.heap.size p v bs e) : FarB A n p v.ownBlock := by
  intro ad ha hn
  have hr := Kd.reads_of_C (d := (0 : Int)) (h1 := fun _ => rfl) h
  obtain ⟨ad', ha', hc⟩ := hr.2.2 hn
  rw [ha] at ha'
  obtain rfl := Option.some.inj ha'
  have hb := World.block_lt_of_cell? w0 _ (hc 0 hn)
  rw [add_block] at hb
  have h1 := ho.le
  exact ⟨by omega, fun e => by have := Kd.R_base ho.own _ e.symm; omega⟩
theorem keep_alloc_row {w W : World} {g : Nat} {row : Option Nat} (h : KeepBut w W g row) (o : Obj) : KeepBut w (W.alloc o) g row :=
  ⟨Nat.le_trans h.1 (by rw [World.size_alloc]; omega), fun i hi h1 h2 => (Below.heap_alloc W o i (Nat.lt_of_lt_of_le hi h.1)).trans (h.2 i hi h1 h2)⟩
structure BlobF (w : World) (bb c1 c2 : Nat) : Prop where
  c : w.heap[bb]? = some (.cells (numV c1 c2) 118 (0, 0))
  n : NumF w c1 c2 4 65536
theorem BlobF.below {w w1 : World} {bb c1 c2 : Nat} (h : BlobF w bb c1 c2) (hb : Below w.heap.size w w1) : BlobF w1 bb c1 c2 := ⟨blk_below h.c hb, h.n.below hb⟩
def blobS (s : List Int × Int) (ys : List Int) : List Int × Int := putS (numS s 4 65536 (ys.length : Int)) ys
set_option maxRecDepth 100000 in
set_option maxHeartbeats 4000000 in
theorem blob_put (B p : Nat) (w : World) (v : Value) (bs : List Int) (e : Int) (A : Option Addr) (c : Nat) (ys : List Int) (bb c1 c2 : Nat) (hF : BlobF w bb c1 c2) (hl : Kd.C (Kd.int .u8) w A ys.length ys) (hfar : FarB A ys.length p v.ownBlock) (h : OutOK w B p v bs e) (hB : B ≤ w.heap.size) (hbs : bs.length ≤ 1048576) :
    Calls Try.prog 84 #[.pointer (some ⟨p, 0, none⟩), .slice A ys.length c, .pointer (some ⟨bb, 0, none⟩)] w fun r w' => r = .returned (.tuple #[]) ∧ OutTo w B p v (blobS (bs, e) ys) w' := by
  have HO := Aside0.mk h
  have HL := Aside0.mk hl
  have HFA := Aside0.mk hfar
  have hmx := Kd.C_max hl
  have q0 : w.cell? ⟨bb, 0, none⟩ = some (.func (.func 105) #[] #[.pointer (some ⟨c1, 0, none⟩), .pointer (some ⟨c2, 0, none⟩)]) := blk_cell hF.c 0
  have HN := Aside0.mk hF.n
  clear h hl hF hfar
  go_enter Try.func84, Try.ntmps84
  go_wp2_with fail
  with_reducible refine (numput_run B p c1 c2 4 65536 v bs e (ys.length : Int) w HN.out HO.out hB hbs).mono ?_
  rintro r w1 ⟨rfl, hT⟩
  have HT := Aside0.mk hT
  obtain ⟨v1, hO1, hk1, ha1, hb1⟩ := hT
  have HO1 := Aside0.mk hO1
  have HX := Aside0.mk (And.intro hk1 (And.intro ha1 hb1))
  have HC1 := Aside0.mk (C_far HL.out hk1 HFA.out)
  have hs1 := hk1.1
  clear hO1 hk1 ha1 hb1 q0
  go_wp2_with fail
  refine (put_run B p v1 _ _ A c ys w1 HO1.out HC1.out (by omega) (numS_len (bs, e) 4 65536 _ hbs)).mono ?_
  rintro r w2 ⟨rfl, hT2⟩
  have HT2 := Aside0.mk hT2
  clear hT2
  go_wp2_with fail
  go_end0
  exact ⟨rfl, OutTo.trans HX.out.1 HX.out.2.1 HX.out.2.2 (by omega) HT2.out⟩
theorem InTo.past2 {w0 w w1 : World} {p : Nat} {s : List Int × Bool} (h : InTo w0 w p s w1) (hp : p < w.heap.size) {w2 : World} (hb : Below w.heap.size w1 w2) (h0 : w0.heap.size ≤ w.heap.size) : InTo w0 w p s w2 := by
  obtain ⟨⟨A, c, h1⟩, hk⟩ := h
  exact ⟨⟨A, c, h1.le, (hb.block p hp).trans h1.blk, h1.rd, h1.cap, h1.ok, h1.lo.trans (hb.mono h0)⟩, Nat.le_trans hk.1 hb.size, fun i hi h1 h2 => (hb.block i hi).trans (hk.2 i hi h1 h2)⟩
/-- A copy of bytes. -/
theorem empty_own (W : World) (B : Nat) (hB : B ≤ W.heap.size) : Kd.R (Kd.int .u8) 5 (W.alloc (.cells #[] 5)) B (fun _ => True) (.slice (some ⟨W.heap.size, 0, none⟩) 0 0) [] := by
  have h := own_lit_of (enc := Value.int .u8) W B 5 ([] : List Int) hB (by simp)
  exact Kd.R_of_own (h1 := fun _ => rfl) h (fun _ _ => trivial)
set_option maxRecDepth 100000 in
set_option maxHeartbeats 4000000 in
theorem clone_run (A : Option Addr) (c : Nat) (xs : List Int) (w : World) (hc : Kd.C (Kd.int .u8) w A xs.length xs) (hx : xs.length ≤ 140737488355328) :
    Calls Try.prog 87 #[.slice A xs.length c] w fun r w' => ∃ v : Value, r = .returned v ∧ Kd.R (Kd.int .u8) 5 w' w.heap.size (fun _ => True) v xs ∧ Below w.heap.size w w' := by
  have HC := Aside0.mk hc
  have hmx := Kd.C_max hc
  cases A with
  | none =>
    have hx0 : xs = [] := by
      cases xs with
      | nil => rfl
      | cons x l =>
        have hr := Kd.reads_of_C (d := (0 : Int)) (h1 := fun _ => rfl) hc
        obtain ⟨ad, ha, _⟩ := hr.2.2 (by simp)
        cases ha
    subst hx0
    clear hc
    have heq : ∀ W, (binOp .eql 22 (.slice none 0 c) (.slice none 0 0)).run Try.prog W = .ok (.bool true) W := fun W => Lib.run_eql_slice_nil W 22 5 none 0 c 0 0 Try.underlying22
    go_enter Try.func87, Try.ntmps87
    go_wp2_with fail
    go_ret
    exact ⟨_, rfl, Kd.R_nil _ _ _ _ _, Below.refl _ _⟩
  | some ad =>
    clear hc
    have heq : ∀ W, (binOp .eql 22 (.slice (some ad) xs.length c) (.slice none 0 0)).run Try.prog W = .ok (.bool false) W := fun W => Lib.run_eql_slice_nil W 22 5 (some ad) xs.length c 0 0 Try.underlying22
    go_enter Try.func87, Try.ntmps87
    go_wp2_with (refine Kd.R_append_rows (Kd.int .u8) (Rr := fun x cs => cs = [.int .u8 x]) (w0 := w) w.heap.size rfl (.tmp 5) (.tmp 6) 22 5 (.int .u8 0) 1 rfl Try.underlying22 (by kernel_rfl) rfl (by decide) (by decide) (.slice (some ⟨w.heap.size, 0, none⟩) 0 0) [] xs (some ad) xs.length c (fun _ => True) (fun _ => False) rfl rfl (empty_own w w.heap.size (Nat.le_refl _)) (Kd.C_alloc HC.out _) (fun _ _ h => h) (fun _ hk => hk.elim) (fun _ _ => trivial) ((Below.refl _ w).alloc (Nat.le_refl _) _) (by rw [World.size_alloc]; omega) (by simp; omega) ?_; intro v1 w1 ho hb1 hg hat; have HX := Aside0.mk (And.intro ho hb1); clear ho hb1 hg hat)
    go_ret
    exact ⟨_, rfl, HX.out.1, HX.out.2⟩
def blobG (s : List Int × Bool) : List Int × List Int × Bool := takeS (lowI s 4 65536).2 (lowI s 4 65536).1
theorem takeS_len (s : List Int × Bool) (n : Int) : (takeS s n).1.length ≤ s.1.length := by
  unfold takeS
  split
  · simp
  · simp only [List.length_take]; omega
theorem lowI_len (s : List Int × Bool) (a b : Int) : (lowI s a b).2.1.length ≤ s.1.length := by
  unfold lowI takeS
  dsimp only
  split
  · exact Nat.le_refl _
  · simp only [List.length_drop]; omega
theorem takeS_rest (s : List Int × Bool) (n : Int) : (takeS s n).2.1.length ≤ s.1.length := by
  unfold takeS
  split
  · exact Nat.le_refl _
  · simp only [List.length_drop]; omega
theorem InTo.len {w0 w w' : World} {p : Nat} {s : List Int × Bool} (h : InTo w0 w p s w') : ∃ A c, InOK w0 w' p A c s.1 s.2 := h.1
set_option maxRecDepth 100000 in
set_option maxHeartbeats 4000000 in
/-- take, and a copy of it. -/
theorem clone_take (w0 w : World) (p : Nat) (A1 : Option Addr) (c1 : Nat) (o : List Int) (s : List Int × Bool) (w1 : World) (hC : Kd.C (Kd.int .u8) w0 A1 o.length o) (hT : InTo w0 w p s w1) (ho : o.length ≤ 140737488355328) (hp : p < w.heap.size) (h0 : w0.heap.size ≤ w.heap.size) :
    Calls Try.prog 87 #[.slice A1 o.length c1] w1 fun r w' => ∃ v : Value, r = .returned v ∧ Kd.R (Kd.int .u8) 5 w' w.heap.size (fun _ => True) v o ∧ InTo w0 w p s w' := by
  obtain ⟨⟨A2, c2, hI⟩, hk⟩ := hT
  refine (clone_run A1 c1 o w1 (Kd.C_below hC hI.lo) ho).mono ?_
  rintro r w' ⟨v, hr, hR, hB⟩
  exact ⟨v, hr, Kd.R_lower hR hk.1, InTo.past2 ⟨⟨A2, c2, hI⟩, hk⟩ hp (hB.mono hk.1) h0⟩
set_option maxRecDepth 100000 in
set_option maxHeartbeats 4000000 in
theorem blob_get (w0 w : World) (p : Nat) (A : Option Addr) (c : Nat) (bs : List Int) (bad : Bool) (bb c1 c2 : Nat) (hF : BlobF w bb c1 c2) (h : InOK w0 w p A c bs bad) :
    Calls Try.prog 86 #[.pointer (some ⟨p, 0, none⟩), .pointer (some ⟨bb, 0, none⟩)] w fun r w' => ∃ v : Value, r = .returned v ∧ Kd.R (Kd.int .u8) 5 w' w.heap.size (fun _ => True) v (blobG (bs, bad)).1 ∧ InTo w0 w p (blobG (bs, bad)).2 w' := by
  have HI := Aside0.mk h
  have q0 : w.cell? ⟨bb, 1, none⟩ = some (.func (.func 107) #[] #[.pointer (some ⟨c1, 0, none⟩), .pointer (some ⟨c2, 0, none⟩)]) := blk_cell hF.c 1
  have HN := Aside0.mk hF.n
  have hp : p < w.heap.size := blk_lt h.blk
  have hbs : bs.length ≤ 140737488355328 := h.ok.2
  have hB := h.lo.size
  clear h hF
  go_enter Try.func86, Try.ntmps86
  go_wp2_with fail
  with_reducible refine (numget_run w0 w p c1 c2 4 65536 A c bs bad HN.out HI.out).mono ?_
  rintro r w1 ⟨rfl, hT⟩
  have HT := Aside0.mk hT
  obtain ⟨⟨A1, cc1, hI1⟩, hk1⟩ := hT
  have HI1 := Aside0.mk hI1
  clear hI1 hk1 q0
  have e4 : ((4 : Nat) : Int) = 4 := rfl
  simp only [e4] at HI1 HT ⊢
  go_wp2_with fail
  refine (take_run w0 w1 p A1 cc1 _ _ _ HI1.out).mono ?_
  rintro r w2 ⟨A3, c3, rfl, hC3, hcap, hT2⟩
  have HT2 := Aside0.mk (HT.out.bind hT2)
  have HC3 := Aside0.mk hC3
  clear hT2 hC3
  have hlen := Nat.le_trans (takeS_len (lowI (bs, bad) 4 65536).2 (lowI (bs, bad) 4 65536).1) (lowI_len (bs, bad) 4 65536)
  go_wp2_with fail
  refine (clone_take w0 w p A3 c3 _ _ w2 HC3.out HT2.out (Nat.le_trans hlen hbs) hp hB).mono ?_
  rintro r w3 ⟨v, rfl, hR, hT3⟩
  have HX := Aside0.mk (And.intro hR hT3)
  clear hR hT3
  go_wp2_with fail
  go_ret
  exact ⟨v, rfl, HX.out.1, HX.out.2⟩
/-- Just so many bytes. -/
structure FixF (w : World) (bm bn : Nat) (n : Int) : Prop where
  m : w.heap[bm]? = some (.cells #[.bool (decide (0 ≤ n) && decide (n ≤ 65536))] 4 (0, 0))
  n : w.heap[bn]? = some (.cells #[.int .i64 n] 3 (0, 0))
def mayN (n : Int) : Bool := decide (0 ≤ n) && decide (n ≤ 65536)
def fixS (n : Int) (s : List Int × Int) (ys : List Int) : List Int × Int := putS (if s.2 = 0 ∧ (mayN n = false ∨ (ys.length : Int) ≠ n) then (s.1, 1) else s) ys
theorem OutTo.of_set {w w2 : World} {B p : Nat} {v : Value} {bs : List Int} {e e' : Int} {s : List Int × Int} (h : OutOK w B p v bs e) (hB : B ≤ w.heap.size) (h2 : OutTo (w.setCell ⟨p, 1, none⟩ (.int .i64 e')) B p v s w2) : OutTo w B p v s w2 :=
  OutTo.trans ((KeepBut.refl _ _ _).set_ 1 _) (.inl rfl) ((Below.refl _ _).setCell (p := ⟨p, 1, none⟩) h.le _) (by rw [World.size_setCell]; exact hB) h2
theorem FarB.of_set {A : Option Addr} {n p : Nat} {row : Option Nat} {w : World} {xs : List Int} {u : Value} (h : Kd.C (Kd.int .u8) w A n xs) (hf : FarB A n p row) : Kd.C (Kd.int .u8) (w.setCell ⟨p, 1, none⟩ u) A n xs :=
  C_far (row := row) h ((KeepBut.refl _ _ _).set_ 1 _) hf
set_option maxRecDepth 100000 in
set_option maxHeartbeats 4000000 in
theorem fix_put (B p : Nat) (w : World) (v : Value) (bs : List Int) (e : Int) (A : Option Addr) (c : Nat) (ys : List Int) (bm bn : Nat) (n : Int) (hF : FixF w bm bn n) (hl : Kd.C (Kd.int .u8) w A ys.length ys) (hfar : FarB A ys.length p v.ownBlock) (h : OutOK w B p v bs e) (hB : B ≤ w.heap.size) (hbs : bs.length ≤ 1048576) :
    Calls Try.prog 91 #[.pointer (some ⟨p, 0, none⟩), .slice A ys.length c, .pointer (some ⟨bm, 0, none⟩), .pointer (some ⟨bn, 0, none⟩)] w fun r w' => r = .returned (.tuple #[]) ∧ OutTo w B p v (fixS n (bs, e) ys) w' := by
  have HO := Aside0.mk h
  have HL := Aside0.mk hl
  have HFA := Aside0.mk hfar
  have hmx := Kd.C_max hl
  have qm : w.cell? ⟨bm, 0, none⟩ = some (.bool (mayN n)) := blk_cell hF.m 0
  have qn : w.cell? ⟨bn, 0, none⟩ = some (.int .i64 n) := blk_cell hF.n 0
  have c1 : w.cell? ⟨p, 1, none⟩ = some (.int .i64 e) := blk_cell h.blk 1
  have f1 := blkO_free h.blk 1
  obtain ⟨m, hm⟩ : ∃ m, m = mayN n := ⟨_, rfl⟩
  rw [← hm] at qm
  have HM := Aside0.mk hm
  clear h hl hF hfar hm
  by_cases he : e = 0
  · subst he
    cases m
    · have hs : fixS n (bs, 0) ys = putS (bs, 1) ys := by unfold fixS; rw [if_pos ⟨rfl, .inl HM.out.symm⟩]
      rw [hs]
      clear hs
      go_enter Try.func91, Try.ntmps91
      go_wp2_with fail
      refine (put_run B p v bs 1 A c ys _ (HO.out.set' 1) (FarB.of_set HL.out HFA.out) (by rw [World.size_setCell]; exact hB) hbs).mono ?_
      rintro r w2 ⟨rfl, hT2⟩
      have HT2 := Aside0.mk hT2
      clear hT2
      go_wp2_with fail
      go_end0
      exact ⟨rfl, OutTo.of_set HO.out hB HT2.out⟩
    · by_cases hn : (ys.length : Int) = n
      · have hs : fixS n (bs, 0) ys = putS (bs, 0) ys := by unfold fixS; rw [if_neg (fun hh => hh.2.elim (fun h => by rw [← HM.out] at h; cases h) (fun h => h hn))]
        rw [hs]
        have hn1 : ((ys.length : Int) != n) = false := by simpa using hn
        have HNN := Aside0.mk hn
        clear hs hn
        go_enter Try.func91, Try.ntmps91
        go_wp2_with fail
        refine (put_run B p v bs 0 A c ys _ HO.out HL.out hB hbs).mono ?_
        rintro r w2 ⟨rfl, hT2⟩
        have HT2 := Aside0.mk hT2
        clear hT2
        go_wp2_with fail
        go_end0
        exact ⟨rfl, HT2.out⟩
      · have hs : fixS n (bs, 0) ys = putS (bs, 1) ys := by unfold fixS; rw [if_pos ⟨rfl, .inr hn⟩]
        rw [hs]
        have hn1 : ((ys.length : Int) != n) = true := by simpa using hn
        have hn2 : ((ys.length : Int) == n) = false := by simpa using hn
        clear hs hn
        go_enter Try.func91, Try.ntmps91
        go_wp2_with fail
        refine (put_run B p v bs 1 A c ys _ (HO.out.set' 1) (FarB.of_set HL.out HFA.out) (by rw [World.size_setCell]; exact hB) hbs).mono ?_
        rintro r w2 ⟨rfl, hT2⟩
        have HT2 := Aside0.mk hT2
        clear hT2
        go_wp2_with fail
        go_end0
        exact ⟨rfl, OutTo.of_set HO.out hB HT2.out⟩
  · have hs : fixS n (bs, e) ys = putS (bs, e) ys := by unfold fixS; rw [if_neg (by rintro ⟨h, _⟩; exact he h)]
    rw [hs]
    have he1 : (e == 0) = false := by simpa using he
    clear hs
    go_enter Try.func91, Try.ntmps91
    go_wp2_with fail
    refine (put_run B p v bs e A c ys _ HO.out HL.out hB hbs).mono ?_
    rintro r w2 ⟨rfl, hT2⟩
    have HT2 := Aside0.mk hT2
    clear hT2
    go_wp2_with fail
    go_end0
    exact ⟨rfl, HT2.out⟩
def fixG (n : Int) (s : List Int × Bool) : List Int × List Int × Bool := takeS (s.1, s.2 || !mayN n) n
set_option maxRecDepth 100000 in
set_option maxHeartbeats 4000000 in
theorem fix_get (w0 w : World) (p : Nat) (A : Option Addr) (c : Nat) (bs : List Int) (bad : Bool) (bm bn : Nat) (n : Int) (hF : FixF w bm bn n) (hbm : bm ≠ p) (hbn : bn ≠ p) (h : InOK w0 w p A c bs bad) :
    Calls Try.prog 92 #[.pointer (some ⟨p, 0, none⟩), .pointer (some ⟨bm, 0, none⟩), .pointer (some ⟨bn, 0, none⟩)] w fun r w' => ∃ v : Value, r = .returned v ∧ Kd.R (Kd.int .u8) 5 w' w.heap.size (fun _ => True) v (fixG n (bs, bad)).1 ∧ InTo w0 w p (fixG n (bs, bad)).2 w' := by
  have HI := Aside0.mk h
  have qm : w.cell? ⟨bm, 0, none⟩ = some (.bool (mayN n)) := blk_cell hF.m 0
  have qn : w.cell? ⟨bn, 0, none⟩ = some (.int .i64 n) := blk_cell hF.n 0
  have c1 : w.cell? ⟨p, 1, none⟩ = some (.bool bad) := blk_cell h.blk 1
  have f1 := blkO_free h.blk 1
  have hp : p < w.heap.size := blk_lt h.blk
  have hbs : bs.length ≤ 140737488355328 := h.ok.2
  have hB := h.lo.size
  have HSB := Aside0.mk (h.setBad (bad || !mayN n))
  obtain ⟨m, hm⟩ : ∃ m, m = mayN n := ⟨_, rfl⟩
  have HG := Aside0.mk (show fixG n (bs, bad) = takeS (bs, bad || !m) n by rw [hm]; rfl)
  rw [← hm] at qm HSB
  clear h hF hm
  have run : ∀ b' : Bool, (bad || !m) = b' → Calls Try.prog 92 #[.pointer (some ⟨p, 0, none⟩), .pointer (some ⟨bm, 0, none⟩), .pointer (some ⟨bn, 0, none⟩)] w fun r w' => ∃ v : Value, r = .returned v ∧ Kd.R (Kd.int .u8) 5 w' w.heap.size (fun _ => True) v (takeS (bs, b') n).1 ∧ InTo w0 w p (takeS (bs, b') n).2 w' := by
    intro b' hb'
    have HSB2 := Aside0.mk (show InTo w0 w p (bs, b') (w.setCell ⟨p, 1, none⟩ (.bool b')) by rw [← hb']; exact HSB.out)
    cases bad <;> cases m <;> (subst hb'; clear HSB HG; simp only [Bool.not_true, Bool.not_false, Bool.or_true, Bool.or_false, Bool.false_or, Bool.true_or] at HSB2 ⊢)
    all_goals
      have hI2 := HSB2.out.1
      obtain ⟨A2, c2, hI2⟩ := hI2
      have HI2 := Aside0.mk hI2
      clear hI2
      go_enter Try.func92, Try.ntmps92
      go_wp2_with fail
      refine (take_run w0 _ p A2 c2 _ _ _ HI2.out).mono ?_
      rintro r w2 ⟨A3, c3, rfl, hC3, hcap, hT2⟩
      have HT2 := Aside0.mk (HSB2.out.bind hT2)
      have HC3 := Aside0.mk hC3
      clear hT2 hC3
      have hlen := takeS_len (bs, false) n
      go_wp2_with fail
      refine (clone_take w0 w p A3 c3 _ _ w2 HC3.out HT2.out (Nat.le_trans (takeS_len _ _) hbs) hp hB).mono ?_
      rintro r w3 ⟨v, rfl, hR, hT3⟩
      have HX := Aside0.mk (And.intro hR hT3)
      clear hR hT3
      go_wp2_with fail
      go_ret
      exact ⟨v, rfl, HX.out.1, HX.out.2⟩
  rw [HG.out]
  exact run _ rfl
end Go.Proofs.Ytjkjpmfenillcaa.P
