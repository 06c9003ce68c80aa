import Derived.Test.YtjkjpmfenillcaaCodecM
import Derived.Deep.RegionHeld3
/- codec.Many of functions' forms, written and read; no statement of the seat. -/
set_option linter.unusedVariables false
set_option linter.unusedSimpArgs false
namespace Go.Proofs.Ytjkjpmfenillcaa.P
open Go.RowKit Go.Proofs.YtjkjpmfenillcaaW.PrintWords Go.Proofs.YtjkjpmfenillcaaW.PrintLast Go.Proofs.YtjkjpmfenillcaaW.PrintMore
set_option maxRecDepth 100000 in
set_option maxHeartbeats 4000000 in
theorem manyF_put (w0 w : World) (p : Nat) (v : Value) (bs : List Int) (e : Int) (A : Option Addr) (c : Nat) (l : List Fn3) (bc bf c1 c2 : Nat) {S : List Int × Int → Fn3 → List Int × Int} {G : List Int × Bool → Fn3 × List Int × Bool} {f1 f2 : FuncId} {ca cb : Array Value} (hM : ManyF w0 bc bf c1 c2 108 #[.func (.func f1) #[] ca, .func (.func f2) #[] cb]) (hf : FldC w0 bf 108 kFn argN S G f1 f2 ca cb) (hl : Kd.C kFn w0 A l.length l) (hlo : Below w0.heap.size w0 w) (h : OutOK w w0.heap.size p v bs e) (hbs : bs.length ≤ 1048576) :
    Calls Try.prog 97 #[.pointer (some ⟨p, 0, none⟩), .slice A l.length c, .pointer (some ⟨bc, 0, none⟩), .pointer (some ⟨bf, 0, none⟩)] w fun r w' => r = .returned (.tuple #[]) ∧ OutTo w w0.heap.size p v (manyS S (bs, e) l) w' := by
  have HO := Aside0.mk h
  have HL := Aside0.mk hl
  have HM := Aside0.mk hM
  have HF := Aside0.mk hf
  have HLO := Aside0.mk hlo
  have hmx := Kd.C_max hl
  have hM1 := hM.below hlo
  have q0 : w.cell? ⟨bc, 0, none⟩ = some (.func (.func 105) #[] #[.pointer (some ⟨c1, 0, none⟩), .pointer (some ⟨c2, 0, none⟩)]) := blk_cell hM1.c 0
  have HN := Aside0.mk hM1.n
  have hB := hlo.size
  clear h hl hM hf hlo hM1
  go_enter Try.func97, Try.ntmps97
  go_wp2_with fail
  with_reducible refine (numput_run w0.heap.size p c1 c2 2 4096 v bs e (l.length : Int) w HN.out HO.out (by omega) hbs).mono ?_
  rintro r w1 ⟨rfl, hT⟩
  have HT := Aside0.mk hT
  have hlen1 := numS_len (bs, e) 2 4096 (l.length : Int) hbs
  obtain ⟨s1, hs1⟩ : ∃ s1, s1 = numS (bs, e) 2 4096 (l.length : Int) := ⟨_, rfl⟩
  have HR := Aside0.mk (show manyGo S l s1 = manyS S (bs, e) l by rw [hs1]; rfl)
  have HT1 := Aside0.mk (show OutTo w w0.heap.size p v s1 w1 by rw [hs1]; exact hT)
  have HS1 := Aside0.mk (show s1.1.length ≤ 1048576 by rw [hs1]; exact hlen1)
  clear hT hs1 hlen1 q0 HT
  go_wp2_with fail
  go_loopw [6] (fun v6 wr => ∃ (k : Nat) (s' : List Int × Int), v6 = .int .i64 k ∧ k ≤ l.length ∧ OutTo w w0.heap.size p v s' wr ∧ s'.1.length ≤ 1048576 ∧ manyGo S (l.drop k) s' = manyS S (bs, e) l) (fun v6 _ => l.length - (intOf v6).toNat)
  case atStart => exact ⟨0, s1, rfl, Nat.zero_le _, HT1.out, HS1.out, HR.out⟩
  case round =>
    obtain ⟨k, ⟨b', e'⟩, rfl, hk, hTT, hl', hr⟩ := hrel
    obtain ⟨v', hO', hk', hat', hb'⟩ := hTT
    have h1 : wr.cell? ⟨p, 1, none⟩ = some (.int .i64 e') := blk_cell hO'.blk 1
    have hMr := HM.out.below (HLO.out.trans hb')
    have q0 : wr.cell? ⟨bf, 0, none⟩ = some (.func (.func f1) #[] ca) := blk_cell hMr.f 0
    have hgo := HF.out.go1
    have HO' := Aside0.mk hO'
    have HX := Aside0.mk (And.intro hk' (And.intro hat' hb'))
    have HR' := Aside0.mk hr
    have HL' := Aside0.mk hl'
    have hsz : w0.heap.size ≤ wr.heap.size := (HLO.out.trans hb').size
    have hszd : w0.heap.size ≤ wr.drew.heap.size := hsz
    clear hO' hMr hk' hat' hb' hr
    by_cases hlt : k < l.length
    · by_cases he : e' = 0
      · subst he
        have hC := Kd.C_below HL.out (HLO.out.trans HX.out.2.2)
        obtain ⟨ad, cc, hA, hcl, hK, hcc⟩ := Kd.C_get HL.out ((0, 0), []) (k : Int) (by omega) (by omega)
        rw [Int.toNat_natCast] at hK hcc
        obtain ⟨x, hx⟩ : ∃ x, x = l.getD k ((0, 0), []) := ⟨_, rfl⟩
        rw [← hx] at hK
        have HK := Aside0.mk hK
        obtain ⟨_, _, hce, ⟨_, _, hce2, hK0, hK1⟩, Ae, ce, hK2, hlc, hCe⟩ := hK
        have hK0 : _ = [Value.int .i64 x.1.1] := hK0
        have hK1 : _ = [Value.int .i64 x.1.2] := hK1
        subst hK0 hK1 hK2 hce2 hce hA
        have hc := pw_cell_below (HLO.out.trans HX.out.2.2) (hcc 0 _ rfl)
        have hc1 := pw_cell_below (HLO.out.trans HX.out.2.2) (hcc 1 _ rfl)
        have hc2 := pw_cell_below (HLO.out.trans HX.out.2.2) (hcc 2 _ rfl)
        rw [show kFn.sz = 3 from rfl] at hc hc1 hc2
        rw [Nat.add_zero] at hc
        rw [add_field ad (k * 3) 1 (by decide)] at hc1
        rw [add_field ad (k * 3) 2 (by decide)] at hc2
        have HXX := Aside0.mk hx
        clear hcc hcl hlc hx hCe
        go_upto_region 4 with (fail)
        go_still_tail 7, (by kernel_rfl)
        go_wp2_with fail
        refine (HF.out.put wr.drew p v' b' 0 x [.int .i64 x.1.1, .int .i64 x.1.2, .slice Ae x.2.length ce] (below_drew (HLO.out.trans HX.out.2.2)) HK.out HO'.out.drew HL'.out).mono ?_
        rintro r w2 ⟨rfl, hT2⟩
        have HT2 := Aside0.mk (OutTo.of_drew hT2)
        clear hT2 q0 hC
        go_wp2_with fail
        go_roundw
        case rel =>
          refine ⟨k + 1, S (b', 0) x, by go_num, by omega, OutTo.trans HX.out.1 HX.out.2.1 HX.out.2.2 hsz HT2.out, HF.out.len (b', 0) _ HL'.out, ?_⟩
          have h := HR'.out
          rw [drop_cons l k hlt, manyGo, if_pos rfl] at h
          rw [HXX.out, List.getD_eq_getElem?_getD, List.getElem?_eq_getElem hlt]; exact h
        case measure => simp [intOf]; omega
      · have he1 : (e' == 0) = false := by simpa using he
        have hlt' : (k : Int) < (l.length : Int) := by omega
        go_wp2_with fail
        go_end0
        rw [← HR'.out, manyGo_stop _ _ _ he]
        exact ⟨rfl, v', HO'.out, HX.out.1, HX.out.2.1, HX.out.2.2⟩
    · obtain rfl : k = l.length := by omega
      go_wp2_with fail
      go_end0
      rw [← HR'.out, List.drop_length]
      exact ⟨rfl, v', HO'.out, HX.out.1, HX.out.2.1, HX.out.2.2⟩
set_option maxRecDepth 100000 in
set_option maxHeartbeats 4000000 in
theorem manyF_get (w0 w : World) (p : Nat) (A : Option Addr) (c : Nat) (bs : List Int) (bad : Bool) (bc bf c1 c2 : Nat) {S : List Int × Int → Fn3 → List Int × Int} {G : List Int × Bool → Fn3 × List Int × Bool} {f1 f2 : FuncId} {ca cb : Array Value} (hM : ManyF w0 bc bf c1 c2 108 #[.func (.func f1) #[] ca, .func (.func f2) #[] cb]) (hf : FldC w0 bf 108 kFn argN S G f1 f2 ca cb) (h : InOK w0 w p A c bs bad) :
    Calls Try.prog 98 #[.pointer (some ⟨p, 0, none⟩), .pointer (some ⟨bc, 0, none⟩), .pointer (some ⟨bf, 0, none⟩)] w fun r w' => ∃ v : Value, r = .returned v ∧ Kd.R kFn 76 w' w.heap.size (fun _ => True) v (manyR G (bs, bad)).1 ∧ InTo w0 w p (manyR G (bs, bad)).2 w' := by
  have HI := Aside0.mk h
  have HM := Aside0.mk hM
  have HF := Aside0.mk hf
  have hM1 := hM.below h.lo
  have q0 : w.cell? ⟨bc, 1, none⟩ = some (.func (.func 107) #[] #[.pointer (some ⟨c1, 0, none⟩), .pointer (some ⟨c2, 0, none⟩)]) := blk_cell hM1.c 1
  have HN := Aside0.mk hM1.n
  have hp : p < w.heap.size := blk_lt h.blk
  have hB := h.lo.size
  clear h hM hf hM1
  go_enter Try.func98, Try.ntmps98
  go_wp2_with fail
  with_reducible refine (numget_run w0 w p c1 c2 2 4096 A c bs bad HN.out HI.out).mono ?_
  rintro r w1 ⟨rfl, hT⟩
  have HT := Aside0.mk hT
  have HC := Aside0.mk (lowI_range (bs, bad) 2 4096 (by decide) (by decide) HI.out.ok.1)
  obtain ⟨n0, hn0⟩ : ∃ n0 : Nat, (lowI (bs, bad) 2 4096).1 = (n0 : Int) := ⟨_, (Int.toNat_of_nonneg HC.out.1).symm⟩
  have HR := Aside0.mk (show manyIn G n0 [] (lowI (bs, bad) 2 4096).2 = manyR G (bs, bad) by unfold manyR; rw [hn0, Int.toNat_natCast])
  have hn1 : n0 ≤ 4096 := by have := HC.out.2; omega
  have hn0' : (lowI (bs, bad) ((2 : Nat) : Int) 4096).1 = (n0 : Int) := hn0
  rw [hn0']
  clear hT q0 hn0 hn0' HC
  go_wp2_with fail
  go_loopw [5, 6] (fun v5 v6 wr => ∃ (m : Nat) (acc : List Fn3) (s' : List Int × Bool), v6 = .int .i64 m ∧ acc.length + m ≤ 4096 ∧ Kd.R kFn 76 wr w.heap.size (fun _ => True) v5 acc ∧ InTo w0 w p s' wr ∧ manyIn G m acc s' = manyR G (bs, bad)) (fun _ v6 _ => (intOf v6).toNat)
  case atStart => exact ⟨n0, [], _, rfl, by simp; omega, Kd.R_nil _ _ _ _ _, HT.out, HR.out⟩
  case round =>
    obtain ⟨m, acc, ⟨b', bd'⟩, rfl, hm, hR, hTT, hr⟩ := hrel
    obtain ⟨⟨A', c', hI'⟩, hk'⟩ := hTT
    obtain ⟨A5, c5, hv5⟩ := Kd.R_slice hR
    subst hv5
    have h1 : wr.cell? ⟨p, 1, none⟩ = some (.bool bd') := blk_cell hI'.blk 1
    have hMr := HM.out.below hI'.lo
    have q0 : wr.cell? ⟨bf, 1, none⟩ = some (.func (.func f2) #[] cb) := blk_cell hMr.f 1
    have hgo := HF.out.go2
    have HI' := Aside0.mk hI'
    have HR5 := Aside0.mk hR
    have HK' := Aside0.mk hk'
    have HR' := Aside0.mk hr
    clear hI' hMr hk' hr hR
    by_cases hz : m = 0
    · subst hz
      go_wp2_with fail
      go_ret
      rw [← HR'.out]
      exact ⟨_, rfl, HR5.out, ⟨A', c', HI'.out⟩, HK'.out⟩
    · cases bd'
      · obtain ⟨m, rfl⟩ : ∃ q, m = q + 1 := ⟨m - 1, by omega⟩
        go_wp2_with fail
        refine (HF.out.get wr p A' c' b' false HI'.out).mono ?_
        rintro r w2 ⟨cs, rfl, hMe, hT2⟩
        have HT2 := Aside0.mk hT2
        obtain ⟨⟨A2, c2', hI2⟩, hk2⟩ := hT2
        have hR2 : Kd.R kFn 76 w2 w.heap.size (fun _ => True) (.slice A5 acc.length c5) acc := Kd.R_mono (Kd.R_keep (Kd.R_bound HR5.out) hk2 (fun k hk => by have := hk.2.1; omega)) (fun _ hk => hk.1)
        have HR2 := Aside0.mk hR2
        have hsz2 : w.heap.size ≤ w2.heap.size := Nat.le_trans HK'.out.1 hk2.1
        clear hI2 hk2 hR2
        have HMP0 : kFn.M w2 w.heap.size (fun k => True ∧ some k ≠ (Value.slice A5 acc.length c5).ownBlock) (G (b', false)).1 cs := Kd.M_lower _ HK'.out.1 (kFn.M_mono (fun k hk => ⟨trivial, fun e => by have := Kd.R_lt HR5.out k e.symm; have := hk.2.1; omega⟩) (kFn.M_bound hMe))
        clear hMe
        obtain ⟨x, hx⟩ : ∃ x, (G (b', false)).1 = x := ⟨_, rfl⟩
        rw [hx] at HMP0
        have HMP := Aside0.mk HMP0
        have HXX := Aside0.mk hx
        obtain ⟨_, _, rfl, ⟨_, _, rfl, hc0, hc1⟩, ve, rfl, hRe⟩ := HMP0
        obtain rfl : _ = [Value.int .i64 x.1.1] := hc0
        obtain rfl : _ = [Value.int .i64 x.1.2] := hc1
        obtain ⟨Ae, ce, hve⟩ := Kd.R_slice hRe
        subst hve
        simp only [argN, List.cons_append, List.nil_append]
        clear hRe hx
        go_wp2_with (refine Kd.R_append kFn (w0 := w2) w.heap.size rfl (.tmp 22) (.tmp 27) 61 76 (.agg #[.int .i64 0, .int .i64 0, .slice none 0 0]) 40 rfl Try.underlying61 (by kernel_rfl) rfl (by decide) (by decide) (.slice A5 acc.length c5) acc x [.int .i64 x.1.1, .int .i64 x.1.2, .slice Ae x.2.length ce] (fun _ => True) (fun k => True ∧ some k ≠ (Value.slice A5 acc.length c5).ownBlock) rfl rfl HMP.out (fun _ hk => hk) (fun _ _ => trivial) HR2.out (Below.refl _ _) hsz2 (by omega) ?_; intro v3 w3 ho hb3 hg hat; obtain ⟨A3, c3, hv3⟩ := Kd.R_slice ho; subst hv3; simp only [List.length_append, List.length_singleton] at ho hat; have HX := Aside0.mk (And.intro ho hb3); clear ho hb3 hg hat)
        go_roundw
        case rel =>
          refine ⟨m, acc ++ [x], (G (b', false)).2, by go_num, by simp; omega, ?_, ?_, ?_⟩
          · have h := HX.out.1
            simpa using h
          · exact (InTo.bind (s := (b', false)) ⟨⟨A', c', HI'.out⟩, HK'.out⟩ HT2.out).past hp HX.out.2 hB
          · have h := HR'.out
            rw [← HXX.out]
            rw [manyIn, if_neg (show ¬ ((b', false).2 = true) from Bool.false_ne_true)] at h
            exact h
        case measure => simp [intOf]
      · go_wp2_with fail
        go_ret
        rw [← HR'.out, manyIn_stop _ _ _ _ rfl]
        exact ⟨_, rfl, HR5.out, ⟨A', c', HI'.out⟩, HK'.out⟩
end Go.Proofs.Ytjkjpmfenillcaa.P
/- codec: fields that stay fields, and the functions that make them; no statement of the seat. -/
set_option linter.unusedVariables false
set_option linter.unusedSimpArgs false
namespace Go.Proofs.Ytjkjpmfenillcaa.P
open Go.RowKit Go.Proofs.YtjkjpmfenillcaaW.PrintWords Go.Proofs.YtjkjpmfenillcaaW.PrintLast Go.Proofs.YtjkjpmfenillcaaW.PrintMore
/-- Later: whatever block is none of the form's own. -/
def Late (w0 w1 : World) : Prop := ∀ (k : Nat) (cs : Array Value) (t : TypeId) (z : Nat × Nat), t ≠ 71 → w0.heap[k]? = some (.cells cs t z) → w1.heap[k]? = some (.cells cs t z)
theorem Late.of {w0 w1 : World} (h : Below w0.heap.size w0 w1) : Late w0 w1 := fun k cs t z _ hk => blk_below hk h
theorem Late.trans {w0 w1 w2 : World} (h : Late w0 w1) (h2 : Late w1 w2) : Late w0 w2 := fun k cs t z ht hk => h2 k cs t z ht (h k cs t z ht hk)
theorem Late.set {w0 w1 : World} (h : Late w0 w1) {g : Nat} {cs0 : Array Value} {z0 : Nat × Nat} (hb : w1.heap[g]? = some (.cells cs0 71 z0)) (j : Nat) (u : Value) : Late w0 (w1.setCell ⟨g, j, none⟩ u) := by
  intro k cs t z ht hk
  have h1 := h k cs t z ht hk
  refine (Below.heap_setCell w1 ⟨g, j, none⟩ u k ?_).trans h1
  rintro rfl
  have h2 := hb.symm.trans h1
  injection h2 with h2
  injection h2 with _ h3
  exact ht h3.symm
theorem NumF.late {w0 w1 : World} {b1 b2 n : Nat} {most : Int} (hf : NumF w0 b1 b2 n most) (h : Late w0 w1) : NumF w1 b1 b2 n most := ⟨h _ _ _ _ (by decide) hf.s, h _ _ _ _ (by decide) hf.m, hf.hn⟩
theorem BlobF.late {w0 w1 : World} {bb c1 c2 : Nat} (hf : BlobF w0 bb c1 c2) (h : Late w0 w1) : BlobF w1 bb c1 c2 := ⟨h _ _ _ _ (by decide) hf.c, hf.n.late h⟩
theorem FixF.late {w0 w1 : World} {bm bn : Nat} {n : Int} (hf : FixF w0 bm bn n) (h : Late w0 w1) : FixF w1 bm bn n := ⟨h _ _ _ _ (by decide) hf.m, h _ _ _ _ (by decide) hf.n⟩
theorem ManyF.late {w0 w1 : World} {bc bf c1 c2 : Nat} {tf : TypeId} {fv : Array Value} (hM : ManyF w0 bc bf c1 c2 tf fv) (ht : tf ≠ 71) (h : Late w0 w1) : ManyF w1 bc bf c1 c2 tf fv := ⟨h _ _ _ _ (by decide) hM.c, hM.n.late h, h _ _ _ _ ht hM.f⟩
/-- A field, now and later. -/
structure FldE {α : Type} (w0 : World) (d : Kd α) (arg : List Value → Value) (S : List Int × Int → α → List Int × Int) (G : List Int × Bool → α × List Int × Bool) (f1 f2 : FuncId) (ca cb : Array Value) : Prop where
  put : ∀ w1, Late w0 w1 → PutC w1 d arg f1 ca S
  get : ∀ w1, Late w0 w1 → GetC w1 d arg f2 cb G
  len : Short S
  go1 : ∀ (args : Array Value) (W : World), (callFunc f1 args).run Try.prog W = .ok (.enter f1 args) W
  go2 : ∀ (args : Array Value) (W : World), (callFunc f2 args).run Try.prog W = .ok (.enter f2 args) W
theorem FldE.late {α : Type} {w0 w1 : World} {d : Kd α} {arg : List Value → Value} {S : List Int × Int → α → List Int × Int} {G : List Int × Bool → α × List Int × Bool} {f1 f2 : FuncId} {ca cb : Array Value} (h : FldE w0 d arg S G f1 f2 ca cb) (hb : Late w0 w1) : FldE w1 d arg S G f1 f2 ca cb :=
  ⟨fun w2 h2 => h.put w2 (hb.trans h2), fun w2 h2 => h.get w2 (hb.trans h2), h.len, h.go1, h.go2⟩
theorem FldE.below {α : Type} {w0 w1 : World} {d : Kd α} {arg : List Value → Value} {S : List Int × Int → α → List Int × Int} {G : List Int × Bool → α × List Int × Bool} {f1 f2 : FuncId} {ca cb : Array Value} (h : FldE w0 d arg S G f1 f2 ca cb) (hb : Below w0.heap.size w0 w1) : FldE w1 d arg S G f1 f2 ca cb :=
  h.late (Late.of hb)
theorem FldE.at {α : Type} {w0 : World} {d : Kd α} {arg : List Value → Value} {S : List Int × Int → α → List Int × Int} {G : List Int × Bool → α × List Int × Bool} {f1 f2 : FuncId} {ca cb : Array Value} (h : FldE w0 d arg S G f1 f2 ca cb) {b : Nat} {tf : TypeId} (hb : w0.heap[b]? = some (.cells #[.func (.func f1) #[] ca, .func (.func f2) #[] cb] tf (0, 0))) : FldC w0 b tf d arg S G f1 f2 ca cb :=
  ⟨hb, h.put w0 (Late.of (Below.refl _ _)), h.get w0 (Late.of (Below.refl _ _)), h.len, h.go1, h.go2⟩
theorem fld_num (w0 : World) (b1 b2 n : Nat) (most : Int) (hf : NumF w0 b1 b2 n most) : FldE w0 (Kd.int .i64) arg1 (fun s x => numS s n most x) (fun s => lowI s n most) 105 107 #[.pointer (some ⟨b1, 0, none⟩), .pointer (some ⟨b2, 0, none⟩)] #[.pointer (some ⟨b1, 0, none⟩), .pointer (some ⟨b2, 0, none⟩)] :=
  ⟨fun w1 h => putC_num w1 b1 b2 n most (hf.late h), fun w1 h => getC_num w1 b1 b2 n most (hf.late h), short_num n most, fun _ _ => by kernel_rfl, fun _ _ => by kernel_rfl⟩
theorem fld_blob (w0 : World) (bb c1 c2 : Nat) (hf : BlobF w0 bb c1 c2) : FldE w0 (Kd.slice 5 (Kd.int .u8)) arg1 blobS blobG 84 86 #[.pointer (some ⟨bb, 0, none⟩)] #[.pointer (some ⟨bb, 0, none⟩)] :=
  ⟨fun w1 h => putC_blob w1 bb c1 c2 (hf.late h), fun w1 h => getC_blob w1 bb c1 c2 (hf.late h), short_blob, fun _ _ => by kernel_rfl, fun _ _ => by kernel_rfl⟩
theorem fld_fix (w0 : World) (bm bn : Nat) (n : Int) (hf : FixF w0 bm bn n) : FldE w0 (Kd.slice 5 (Kd.int .u8)) arg1 (fixS n) (fixG n) 91 92 #[.pointer (some ⟨bm, 0, none⟩), .pointer (some ⟨bn, 0, none⟩)] #[.pointer (some ⟨bm, 0, none⟩), .pointer (some ⟨bn, 0, none⟩)] :=
  ⟨fun w1 h => putC_fix w1 bm bn n (hf.late h), fun w1 h => getC_fix w1 bm bn n (hf.late h), short_fix n, fun _ _ => by kernel_rfl, fun _ _ => by kernel_rfl⟩
theorem fld_ints (w0 : World) (bc bf c1 c2 f1 f2 n : Nat) (most : Int) (hM : ManyF w0 bc bf c1 c2 118 (numV f1 f2)) (hf : NumF w0 f1 f2 n most) : FldE w0 (Kd.slice 3 (Kd.int .i64)) arg1 (manyS (fun s x => numS s n most x)) (manyR (fun s => lowI s n most)) 95 96 #[.pointer (some ⟨bc, 0, none⟩), .pointer (some ⟨bf, 0, none⟩)] #[.pointer (some ⟨bc, 0, none⟩), .pointer (some ⟨bf, 0, none⟩)] :=
  ⟨fun w1 h => putC_ints w1 bc bf c1 c2 f1 f2 n most (hM.late (by decide) h) (hf.late h), fun w1 h => getC_ints w1 bc bf c1 c2 f1 f2 n most (hM.late (by decide) h) (hf.late h), short_many (short_num n most), fun _ _ => by kernel_rfl, fun _ _ => by kernel_rfl⟩
theorem fld_funs (w0 : World) (bc bf c1 c2 : Nat) {S : List Int × Int → Fn3 → List Int × Int} {G : List Int × Bool → Fn3 × List Int × Bool} {f1 f2 : FuncId} {ca cb : Array Value} (hM : ManyF w0 bc bf c1 c2 108 #[.func (.func f1) #[] ca, .func (.func f2) #[] cb]) (hf : FldE w0 kFn argN S G f1 f2 ca cb) : FldE w0 (Kd.slice 76 kFn) arg1 (manyS S) (manyR G) 97 98 #[.pointer (some ⟨bc, 0, none⟩), .pointer (some ⟨bf, 0, none⟩)] #[.pointer (some ⟨bc, 0, none⟩), .pointer (some ⟨bf, 0, none⟩)] := by
  refine ⟨fun w1 h => ?_, fun w1 h => ?_, short_many hf.len, fun _ _ => by kernel_rfl, fun _ _ => by kernel_rfl⟩
  · have hM1 := hM.late (by decide) h
    intro w p v bs e x cs hlo hK ho hbs
    obtain ⟨A, c, rfl, hlc, hC⟩ := hK
    exact manyF_put w1 w p v bs e A c x bc bf c1 c2 hM1 ((hf.late h).at hM1.f) hC hlo ho hbs
  · have hM1 := hM.late (by decide) h
    intro w p A c bs bad hi
    refine (manyF_get w1 w p A c bs bad bc bf c1 c2 hM1 ((hf.late h).at hM1.f) hi).mono ?_
    rintro r w' ⟨v, rfl, hR, hT⟩
    exact ⟨[v], rfl, ⟨v, rfl, hR⟩, hT⟩
set_option maxRecDepth 100000 in
set_option maxHeartbeats 4000000 in
theorem bII_make (w : World) {SA : List Int × Int → Int → List Int × Int} {SB : List Int × Int → Int → List Int × Int} {GA : List Int × Bool → Int × List Int × Bool} {GB : List Int × Bool → Int × List Int × Bool} {f1 f2 g1 g2 : FuncId} {ca cb cc cd : Array Value}
    (hA : FldE w (Kd.int .i64) arg1 SA GA f1 f2 ca cb) (hB : FldE w (Kd.int .i64) arg1 SB GB g1 g2 cc cd) :
    Calls Try.prog 55 #[.agg #[.func (.func f1) #[] ca, .func (.func f2) #[] cb], .agg #[.func (.func g1) #[] cc, .func (.func g2) #[] cd]] w fun r w' => ∃ ba bb : Nat, r = .returned (.agg #[.func (.func 81) #[] #[.pointer (some ⟨ba, 0, none⟩), .pointer (some ⟨bb, 0, none⟩)], .func (.func 82) #[] #[.pointer (some ⟨ba, 0, none⟩), .pointer (some ⟨bb, 0, none⟩)]]) ∧ FldE w' (Kd.pair (Kd.int .i64) (Kd.int .i64)) argN (bothS2 SA SB) (bothG2 GA GB) 81 82 #[.pointer (some ⟨ba, 0, none⟩), .pointer (some ⟨bb, 0, none⟩)] #[.pointer (some ⟨ba, 0, none⟩), .pointer (some ⟨bb, 0, none⟩)] ∧ Below w.heap.size w w' := by
  have HA := Aside0.mk hA
  have HB := Aside0.mk hB
  clear hA hB
  have hn1 : ∀ W, (binOp .eql 115 (.func (.func f1) #[] ca) .nilFunc).run Try.prog W = .ok (.bool false) W := fun _ => by kernel_rfl
  have hn2 : ∀ W, (binOp .eql 115 (.func (.func g1) #[] cc) .nilFunc).run Try.prog W = .ok (.bool false) W := fun _ => by kernel_rfl
  go_enter Try.func55, Try.ntmps55
  go_wp2_with fail
  have r0 := blk_new w (.cells #[.func (.func f1) #[] ca, .func (.func f2) #[] cb] 118)
  have r1 := blk_new (w.alloc (.cells #[.func (.func f1) #[] ca, .func (.func f2) #[] cb] 118)) (.cells #[.func (.func g1) #[] cc, .func (.func g2) #[] cd] 118)
  have r2 := blk_new ((w.alloc (.cells #[.func (.func f1) #[] ca, .func (.func f2) #[] cb] 118)).alloc (.cells #[.func (.func g1) #[] cc, .func (.func g2) #[] cd] 118)) (.cells #[.func (.func 81) #[] #[.pointer (some ⟨w.heap.size, 0, none⟩), .pointer (some ⟨w.heap.size + 1, 0, none⟩)], .func (.func 82) #[] #[.pointer (some ⟨w.heap.size, 0, none⟩), .pointer (some ⟨w.heap.size + 1, 0, none⟩)]] 113)
  simp only [World.size_alloc] at r1 r2
  have hbw : Below w.heap.size w (((w.alloc (.cells #[.func (.func f1) #[] ca, .func (.func f2) #[] cb] 118)).alloc (.cells #[.func (.func g1) #[] cc, .func (.func g2) #[] cd] 118)).alloc (.cells #[.func (.func 81) #[] #[.pointer (some ⟨w.heap.size, 0, none⟩), .pointer (some ⟨w.heap.size + 1, 0, none⟩)], .func (.func 82) #[] #[.pointer (some ⟨w.heap.size, 0, none⟩), .pointer (some ⟨w.heap.size + 1, 0, none⟩)]] 113)) := below_alloc (below_alloc (below_alloc (Below.refl _ _) _) _) _
  have ra := blk_alloc (blk_alloc r0 (.cells #[.func (.func g1) #[] cc, .func (.func g2) #[] cd] 118)) (.cells #[.func (.func 81) #[] #[.pointer (some ⟨w.heap.size, 0, none⟩), .pointer (some ⟨w.heap.size + 1, 0, none⟩)], .func (.func 82) #[] #[.pointer (some ⟨w.heap.size, 0, none⟩), .pointer (some ⟨w.heap.size + 1, 0, none⟩)]] 113)
  have rb := blk_alloc r1 (.cells #[.func (.func 81) #[] #[.pointer (some ⟨w.heap.size, 0, none⟩), .pointer (some ⟨w.heap.size + 1, 0, none⟩)], .func (.func 82) #[] #[.pointer (some ⟨w.heap.size, 0, none⟩), .pointer (some ⟨w.heap.size + 1, 0, none⟩)]] 113)
  refine bodyPost_ret (v := .agg #[.func (.func 81) #[] #[.pointer (some ⟨w.heap.size, 0, none⟩), .pointer (some ⟨w.heap.size + 1, 0, none⟩)], .func (.func 82) #[] #[.pointer (some ⟨w.heap.size, 0, none⟩), .pointer (some ⟨w.heap.size + 1, 0, none⟩)]]) (cell_res (g := w.heap.size + 1 + 1) rfl rfl r2 Try.underlying113 rfl (by kernel_rfl)) rfl ⟨_, _, rfl, ⟨fun w1 h => ?_, fun w1 h => ?_, short_both HA.out.len HB.out.len, fun _ _ => by kernel_rfl, fun _ _ => by kernel_rfl⟩, hbw⟩
  · exact bII_put w1 _ _ (((HA.out.below hbw).late h).at (h _ _ _ _ (by decide) ra)) (((HB.out.below hbw).late h).at (h _ _ _ _ (by decide) rb))
  · exact bII_get w1 _ _ (((HA.out.below hbw).late h).at (h _ _ _ _ (by decide) ra)) (((HB.out.below hbw).late h).at (h _ _ _ _ (by decide) rb))
set_option maxRecDepth 100000 in
set_option maxHeartbeats 4000000 in
theorem bFn_make (w : World) {SA : List Int × Int → (Int × Int) → List Int × Int} {SB : List Int × Int → List Int → List Int × Int} {GA : List Int × Bool → (Int × Int) × List Int × Bool} {GB : List Int × Bool → List Int × List Int × Bool} {f1 f2 g1 g2 : FuncId} {ca cb cc cd : Array Value}
    (hA : FldE w (Kd.pair (Kd.int .i64) (Kd.int .i64)) argN SA GA f1 f2 ca cb) (hB : FldE w (Kd.slice 5 (Kd.int .u8)) arg1 SB GB g1 g2 cc cd) :
    Calls Try.prog 54 #[.agg #[.func (.func f1) #[] ca, .func (.func f2) #[] cb], .agg #[.func (.func g1) #[] cc, .func (.func g2) #[] cd]] w fun r w' => ∃ ba bb : Nat, r = .returned (.agg #[.func (.func 79) #[] #[.pointer (some ⟨ba, 0, none⟩), .pointer (some ⟨bb, 0, none⟩)], .func (.func 80) #[] #[.pointer (some ⟨ba, 0, none⟩), .pointer (some ⟨bb, 0, none⟩)]]) ∧ FldE w' (Kd.pair (Kd.pair (Kd.int .i64) (Kd.int .i64)) (Kd.slice 5 (Kd.int .u8))) argN (bothS2 SA SB) (bothG2 GA GB) 79 80 #[.pointer (some ⟨ba, 0, none⟩), .pointer (some ⟨bb, 0, none⟩)] #[.pointer (some ⟨ba, 0, none⟩), .pointer (some ⟨bb, 0, none⟩)] ∧ Below w.heap.size w w' := by
  have HA := Aside0.mk hA
  have HB := Aside0.mk hB
  clear hA hB
  have hn1 : ∀ W, (binOp .eql 110 (.func (.func f1) #[] ca) .nilFunc).run Try.prog W = .ok (.bool false) W := fun _ => by kernel_rfl
  have hn2 : ∀ W, (binOp .eql 120 (.func (.func g1) #[] cc) .nilFunc).run Try.prog W = .ok (.bool false) W := fun _ => by kernel_rfl
  go_enter Try.func54, Try.ntmps54
  go_wp2_with fail
  have r0 := blk_new w (.cells #[.func (.func f1) #[] ca, .func (.func f2) #[] cb] 113)
  have r1 := blk_new (w.alloc (.cells #[.func (.func f1) #[] ca, .func (.func f2) #[] cb] 113)) (.cells #[.func (.func g1) #[] cc, .func (.func g2) #[] cd] 123)
  have r2 := blk_new ((w.alloc (.cells #[.func (.func f1) #[] ca, .func (.func f2) #[] cb] 113)).alloc (.cells #[.func (.func g1) #[] cc, .func (.func g2) #[] cd] 123)) (.cells #[.func (.func 79) #[] #[.pointer (some ⟨w.heap.size, 0, none⟩), .pointer (some ⟨w.heap.size + 1, 0, none⟩)], .func (.func 80) #[] #[.pointer (some ⟨w.heap.size, 0, none⟩), .pointer (some ⟨w.heap.size + 1, 0, none⟩)]] 108)
  simp only [World.size_alloc] at r1 r2
  have hbw : Below w.heap.size w (((w.alloc (.cells #[.func (.func f1) #[] ca, .func (.func f2) #[] cb] 113)).alloc (.cells #[.func (.func g1) #[] cc, .func (.func g2) #[] cd] 123)).alloc (.cells #[.func (.func 79) #[] #[.pointer (some ⟨w.heap.size, 0, none⟩), .pointer (some ⟨w.heap.size + 1, 0, none⟩)], .func (.func 80) #[] #[.pointer (some ⟨w.heap.size, 0, none⟩), .pointer (some ⟨w.heap.size + 1, 0, none⟩)]] 108)) := below_alloc (below_alloc (below_alloc (Below.refl _ _) _) _) _
  have ra := blk_alloc (blk_alloc r0 (.cells #[.func (.func g1) #[] cc, .func (.func g2) #[] cd] 123)) (.cells #[.func (.func 79) #[] #[.pointer (some ⟨w.heap.size, 0, none⟩), .pointer (some ⟨w.heap.size + 1, 0, none⟩)], .func (.func 80) #[] #[.pointer (some ⟨w.heap.size, 0, none⟩), .pointer (some ⟨w.heap.size + 1, 0, none⟩)]] 108)
  have rb := blk_alloc r1 (.cells #[.func (.func 79) #[] #[.pointer (some ⟨w.heap.size, 0, none⟩), .pointer (some ⟨w.heap.size + 1, 0, none⟩)], .func (.func 80) #[] #[.pointer (some ⟨w.heap.size, 0, none⟩), .pointer (some ⟨w.heap.size + 1, 0, none⟩)]] 108)
  refine bodyPost_ret (v := .agg #[.func (.func 79) #[] #[.pointer (some ⟨w.heap.size, 0, none⟩), .pointer (some ⟨w.heap.size + 1, 0, none⟩)], .func (.func 80) #[] #[.pointer (some ⟨w.heap.size, 0, none⟩), .pointer (some ⟨w.heap.size + 1, 0, none⟩)]]) (cell_res (g := w.heap.size + 1 + 1) rfl rfl r2 Try.underlying108 rfl (by kernel_rfl)) rfl ⟨_, _, rfl, ⟨fun w1 h => ?_, fun w1 h => ?_, short_both HA.out.len HB.out.len, fun _ _ => by kernel_rfl, fun _ _ => by kernel_rfl⟩, hbw⟩
  · exact bFn_put w1 _ _ (((HA.out.below hbw).late h).at (h _ _ _ _ (by decide) ra)) (((HB.out.below hbw).late h).at (h _ _ _ _ (by decide) rb))
  · exact bFn_get w1 _ _ (((HA.out.below hbw).late h).at (h _ _ _ _ (by decide) ra)) (((HB.out.below hbw).late h).at (h _ _ _ _ (by decide) rb))
set_option maxRecDepth 100000 in
set_option maxHeartbeats 4000000 in
theorem bLF_make (w : World) {SA : List Int × Int → List Int → List Int × Int} {SB : List Int × Int → List Fn3 → List Int × Int} {GA : List Int × Bool → List Int × List Int × Bool} {GB : List Int × Bool → List Fn3 × List Int × Bool} {f1 f2 g1 g2 : FuncId} {ca cb cc cd : Array Value}
    (hA : FldE w (Kd.slice 3 (Kd.int .i64)) arg1 SA GA f1 f2 ca cb) (hB : FldE w (Kd.slice 76 kFn) arg1 SB GB g1 g2 cc cd) :
    Calls Try.prog 60 #[.agg #[.func (.func f1) #[] ca, .func (.func f2) #[] cb], .agg #[.func (.func g1) #[] cc, .func (.func g2) #[] cd]] w fun r w' => ∃ ba bb : Nat, r = .returned (.agg #[.func (.func 93) #[] #[.pointer (some ⟨ba, 0, none⟩), .pointer (some ⟨bb, 0, none⟩)], .func (.func 94) #[] #[.pointer (some ⟨ba, 0, none⟩), .pointer (some ⟨bb, 0, none⟩)]]) ∧ FldE w' (Kd.pair (Kd.slice 3 (Kd.int .i64)) (Kd.slice 76 kFn)) argN (bothS2 SA SB) (bothG2 GA GB) 93 94 #[.pointer (some ⟨ba, 0, none⟩), .pointer (some ⟨bb, 0, none⟩)] #[.pointer (some ⟨ba, 0, none⟩), .pointer (some ⟨bb, 0, none⟩)] ∧ Below w.heap.size w w' := by
  have HA := Aside0.mk hA
  have HB := Aside0.mk hB
  clear hA hB
  have hn1 : ∀ W, (binOp .eql 132 (.func (.func f1) #[] ca) .nilFunc).run Try.prog W = .ok (.bool false) W := fun _ => by kernel_rfl
  have hn2 : ∀ W, (binOp .eql 137 (.func (.func g1) #[] cc) .nilFunc).run Try.prog W = .ok (.bool false) W := fun _ => by kernel_rfl
  go_enter Try.func60, Try.ntmps60
  go_wp2_with fail
  have r0 := blk_new w (.cells #[.func (.func f1) #[] ca, .func (.func f2) #[] cb] 135)
  have r1 := blk_new (w.alloc (.cells #[.func (.func f1) #[] ca, .func (.func f2) #[] cb] 135)) (.cells #[.func (.func g1) #[] cc, .func (.func g2) #[] cd] 140)
  have r2 := blk_new ((w.alloc (.cells #[.func (.func f1) #[] ca, .func (.func f2) #[] cb] 135)).alloc (.cells #[.func (.func g1) #[] cc, .func (.func g2) #[] cd] 140)) (.cells #[.func (.func 93) #[] #[.pointer (some ⟨w.heap.size, 0, none⟩), .pointer (some ⟨w.heap.size + 1, 0, none⟩)], .func (.func 94) #[] #[.pointer (some ⟨w.heap.size, 0, none⟩), .pointer (some ⟨w.heap.size + 1, 0, none⟩)]] 130)
  simp only [World.size_alloc] at r1 r2
  have hbw : Below w.heap.size w (((w.alloc (.cells #[.func (.func f1) #[] ca, .func (.func f2) #[] cb] 135)).alloc (.cells #[.func (.func g1) #[] cc, .func (.func g2) #[] cd] 140)).alloc (.cells #[.func (.func 93) #[] #[.pointer (some ⟨w.heap.size, 0, none⟩), .pointer (some ⟨w.heap.size + 1, 0, none⟩)], .func (.func 94) #[] #[.pointer (some ⟨w.heap.size, 0, none⟩), .pointer (some ⟨w.heap.size + 1, 0, none⟩)]] 130)) := below_alloc (below_alloc (below_alloc (Below.refl _ _) _) _) _
  have ra := blk_alloc (blk_alloc r0 (.cells #[.func (.func g1) #[] cc, .func (.func g2) #[] cd] 140)) (.cells #[.func (.func 93) #[] #[.pointer (some ⟨w.heap.size, 0, none⟩), .pointer (some ⟨w.heap.size + 1, 0, none⟩)], .func (.func 94) #[] #[.pointer (some ⟨w.heap.size, 0, none⟩), .pointer (some ⟨w.heap.size + 1, 0, none⟩)]] 130)
  have rb := blk_alloc r1 (.cells #[.func (.func 93) #[] #[.pointer (some ⟨w.heap.size, 0, none⟩), .pointer (some ⟨w.heap.size + 1, 0, none⟩)], .func (.func 94) #[] #[.pointer (some ⟨w.heap.size, 0, none⟩), .pointer (some ⟨w.heap.size + 1, 0, none⟩)]] 130)
  refine bodyPost_ret (v := .agg #[.func (.func 93) #[] #[.pointer (some ⟨w.heap.size, 0, none⟩), .pointer (some ⟨w.heap.size + 1, 0, none⟩)], .func (.func 94) #[] #[.pointer (some ⟨w.heap.size, 0, none⟩), .pointer (some ⟨w.heap.size + 1, 0, none⟩)]]) (cell_res (g := w.heap.size + 1 + 1) rfl rfl r2 Try.underlying130 rfl (by kernel_rfl)) rfl ⟨_, _, rfl, ⟨fun w1 h => ?_, fun w1 h => ?_, short_both HA.out.len HB.out.len, fun _ _ => by kernel_rfl, fun _ _ => by kernel_rfl⟩, hbw⟩
  · exact bLF_put w1 _ _ (((HA.out.below hbw).late h).at (h _ _ _ _ (by decide) ra)) (((HB.out.below hbw).late h).at (h _ _ _ _ (by decide) rb))
  · exact bLF_get w1 _ _ (((HA.out.below hbw).late h).at (h _ _ _ _ (by decide) ra)) (((HB.out.below hbw).late h).at (h _ _ _ _ (by decide) rb))
set_option maxRecDepth 100000 in
set_option maxHeartbeats 4000000 in
theorem bW_make (w : World) {SA : List Int × Int → List Int → List Int × Int} {SB : List Int × Int → LFs → List Int × Int} {GA : List Int × Bool → List Int × List Int × Bool} {GB : List Int × Bool → LFs × List Int × Bool} {f1 f2 g1 g2 : FuncId} {ca cb cc cd : Array Value}
    (hA : FldE w (Kd.slice 5 (Kd.int .u8)) arg1 SA GA f1 f2 ca cb) (hB : FldE w kLF argN SB GB g1 g2 cc cd) :
    Calls Try.prog 58 #[.agg #[.func (.func f1) #[] ca, .func (.func f2) #[] cb], .agg #[.func (.func g1) #[] cc, .func (.func g2) #[] cd]] w fun r w' => ∃ ba bb : Nat, r = .returned (.agg #[.func (.func 89) #[] #[.pointer (some ⟨ba, 0, none⟩), .pointer (some ⟨bb, 0, none⟩)], .func (.func 90) #[] #[.pointer (some ⟨ba, 0, none⟩), .pointer (some ⟨bb, 0, none⟩)]]) ∧ FldE w' (Kd.pair (Kd.slice 5 (Kd.int .u8)) kLF) argN (bothS2 SA SB) (bothG2 GA GB) 89 90 #[.pointer (some ⟨ba, 0, none⟩), .pointer (some ⟨bb, 0, none⟩)] #[.pointer (some ⟨ba, 0, none⟩), .pointer (some ⟨bb, 0, none⟩)] ∧ Below w.heap.size w w' := by
  have HA := Aside0.mk hA
  have HB := Aside0.mk hB
  clear hA hB
  have hn1 : ∀ W, (binOp .eql 120 (.func (.func f1) #[] ca) .nilFunc).run Try.prog W = .ok (.bool false) W := fun _ => by kernel_rfl
  have hn2 : ∀ W, (binOp .eql 127 (.func (.func g1) #[] cc) .nilFunc).run Try.prog W = .ok (.bool false) W := fun _ => by kernel_rfl
  go_enter Try.func58, Try.ntmps58
  go_wp2_with fail
  have r0 := blk_new w (.cells #[.func (.func f1) #[] ca, .func (.func f2) #[] cb] 123)
  have r1 := blk_new (w.alloc (.cells #[.func (.func f1) #[] ca, .func (.func f2) #[] cb] 123)) (.cells #[.func (.func g1) #[] cc, .func (.func g2) #[] cd] 130)
  have r2 := blk_new ((w.alloc (.cells #[.func (.func f1) #[] ca, .func (.func f2) #[] cb] 123)).alloc (.cells #[.func (.func g1) #[] cc, .func (.func g2) #[] cd] 130)) (.cells #[.func (.func 89) #[] #[.pointer (some ⟨w.heap.size, 0, none⟩), .pointer (some ⟨w.heap.size + 1, 0, none⟩)], .func (.func 90) #[] #[.pointer (some ⟨w.heap.size, 0, none⟩), .pointer (some ⟨w.heap.size + 1, 0, none⟩)]] 71)
  simp only [World.size_alloc] at r1 r2
  have hbw : Below w.heap.size w (((w.alloc (.cells #[.func (.func f1) #[] ca, .func (.func f2) #[] cb] 123)).alloc (.cells #[.func (.func g1) #[] cc, .func (.func g2) #[] cd] 130)).alloc (.cells #[.func (.func 89) #[] #[.pointer (some ⟨w.heap.size, 0, none⟩), .pointer (some ⟨w.heap.size + 1, 0, none⟩)], .func (.func 90) #[] #[.pointer (some ⟨w.heap.size, 0, none⟩), .pointer (some ⟨w.heap.size + 1, 0, none⟩)]] 71)) := below_alloc (below_alloc (below_alloc (Below.refl _ _) _) _) _
  have ra := blk_alloc (blk_alloc r0 (.cells #[.func (.func g1) #[] cc, .func (.func g2) #[] cd] 130)) (.cells #[.func (.func 89) #[] #[.pointer (some ⟨w.heap.size, 0, none⟩), .pointer (some ⟨w.heap.size + 1, 0, none⟩)], .func (.func 90) #[] #[.pointer (some ⟨w.heap.size, 0, none⟩), .pointer (some ⟨w.heap.size + 1, 0, none⟩)]] 71)
  have rb := blk_alloc r1 (.cells #[.func (.func 89) #[] #[.pointer (some ⟨w.heap.size, 0, none⟩), .pointer (some ⟨w.heap.size + 1, 0, none⟩)], .func (.func 90) #[] #[.pointer (some ⟨w.heap.size, 0, none⟩), .pointer (some ⟨w.heap.size + 1, 0, none⟩)]] 71)
  refine bodyPost_ret (v := .agg #[.func (.func 89) #[] #[.pointer (some ⟨w.heap.size, 0, none⟩), .pointer (some ⟨w.heap.size + 1, 0, none⟩)], .func (.func 90) #[] #[.pointer (some ⟨w.heap.size, 0, none⟩), .pointer (some ⟨w.heap.size + 1, 0, none⟩)]]) (cell_res (g := w.heap.size + 1 + 1) rfl rfl r2 Try.underlying71 rfl (by kernel_rfl)) rfl ⟨_, _, rfl, ⟨fun w1 h => ?_, fun w1 h => ?_, short_both HA.out.len HB.out.len, fun _ _ => by kernel_rfl, fun _ _ => by kernel_rfl⟩, hbw⟩
  · exact bW_put w1 _ _ (((HA.out.below hbw).late h).at (h _ _ _ _ (by decide) ra)) (((HB.out.below hbw).late h).at (h _ _ _ _ (by decide) rb))
  · exact bW_get w1 _ _ (((HA.out.below hbw).late h).at (h _ _ _ _ (by decide) ra)) (((HB.out.below hbw).late h).at (h _ _ _ _ (by decide) rb))
def manyFV (dc df : Nat) : Array Value := #[.func (.func 97) #[] #[.pointer (some ⟨dc, 0, none⟩), .pointer (some ⟨df, 0, none⟩)], .func (.func 98) #[] #[.pointer (some ⟨dc, 0, none⟩), .pointer (some ⟨df, 0, none⟩)]]
set_option maxRecDepth 100000 in
set_option maxHeartbeats 4000000 in
theorem many_F (a b : Value) (f1 f2 : FuncId) (ca cb : Array Value) (ha : a = .func (.func f1) #[] ca) (hb : b = .func (.func f2) #[] cb) (w : World) :
    Calls Try.prog 63 #[.agg #[a, b]] w fun r w' => ∃ bc bf c1 c2, r = .returned (.agg (manyFV bc bf)) ∧ ManyF w' bc bf c1 c2 108 #[a, b] ∧ Below w.heap.size w w' := by
  subst ha hb
  have hnn : ∀ W, (binOp .eql 105 (.func (.func f1) #[] ca) .nilFunc).run Try.prog W = .ok (.bool false) W := fun _ => by kernel_rfl
  go_enter Try.func63, Try.ntmps63
  go_wp2_with fail
  refine (number_run 2 4096 (by decide) _).mono ?_
  rintro r w' ⟨b1, b2, rfl, hf, hb⟩
  have h0 : w'.heap[w.heap.size]? = some (.cells #[.func (.func f1) #[] ca, .func (.func f2) #[] cb] 108 (0, 0)) := blk_below (blk_alloc (blk_new w _) _) hb
  have h1 : w'.heap[w.heap.size + 1]? = some (.cells #[.nilFunc, .nilFunc] 140 (0, 0)) := by
    refine blk_below ?_ hb
    have h := blk_new (w.alloc (.cells #[.func (.func f1) #[] ca, .func (.func f2) #[] cb] 108)) (.cells #[.nilFunc, .nilFunc] 140)
    rw [World.size_alloc] at h
    exact h
  have hsz : w.heap.size + 1 < w'.heap.size := blk_lt h1
  have q0 : w'.cell? ⟨w.heap.size + 1, 0, none⟩ = some .nilFunc := blk_cell h1 0
  have q1 : w'.cell? ⟨w.heap.size + 1, 1, none⟩ = some .nilFunc := blk_cell h1 1
  have p0 := blkO_free h1 0
  have p1 := blkO_free h1 1
  have kb : Below w.heap.size w w' := ((Below.refl _ w).alloc (Nat.le_refl _) _).alloc (by rw [World.size_alloc]; omega) _ |>.trans (hb.mono (by simp; omega))
  have HH := Aside0.mk (And.intro h1 (And.intro hf (And.intro h0 kb)))
  clear hf hb h0 h1 kb
  simp only [numV]
  go_wp2_with fail
  obtain ⟨h1, hf, h0, kb⟩ := HH.out
  have n1 := blk_ne hf.s h1 (by decide)
  have n2 := blk_ne hf.m h1 (by decide)
  refine bodyPost_ret (v := .agg (manyFV w'.heap.size w.heap.size)) (cell_res (g := w.heap.size + 1) rfl rfl (blk_alloc (two_set h1 _ _) _) Try.underlying140 rfl (by kernel_rfl)) rfl ⟨_, _, b1, b2, rfl, ⟨?_, ((hf.set n1 n2 _ _).set n1 n2 _ _).alloc _, ?_⟩, (two_below (w' := w') kb (by omega) _ _).alloc (by simp only [World.size_setCell]; omega) _⟩
  · have h := blk_new ((w'.setCell ⟨w.heap.size + 1, 0, none⟩ ((manyFV w'.heap.size w.heap.size)[0]!)).setCell ⟨w.heap.size + 1, 1, none⟩ ((manyFV w'.heap.size w.heap.size)[1]!)) (.cells (numV b1 b2) 118)
    simp only [World.size_setCell] at h
    exact h
  · exact blk_alloc (blk_far (p := ⟨w.heap.size + 1, 1, none⟩) (blk_far (p := ⟨w.heap.size + 1, 0, none⟩) h0 (by show w.heap.size ≠ w.heap.size + 1; omega) _) (by show w.heap.size ≠ w.heap.size + 1; omega) _) _
end Go.Proofs.Ytjkjpmfenillcaa.P
/- module.form: how a module is written; no statement of the seat. -/
set_option linter.unusedVariables false
set_option linter.unusedSimpArgs false
namespace Go.Proofs.Ytjkjpmfenillcaa.P
open Go.RowKit Go.Proofs.YtjkjpmfenillcaaW.PrintWords Go.Proofs.YtjkjpmfenillcaaW.PrintLast Go.Proofs.YtjkjpmfenillcaaW.PrintMore
def byteS (s : List Int × Int) (x : Int) : List Int × Int := numS s 1 255 x
def byteG (s : List Int × Bool) : Int × List Int × Bool := lowI s 1 255
def intS (s : List Int × Int) (x : Int) : List Int × Int := numS s 8 0 x
def intG (s : List Int × Bool) : Int × List Int × Bool := lowI s 8 0
def fnS : List Int × Int → Fn3 → List Int × Int := bothS2 (bothS2 byteS byteS) blobS
def fnG : List Int × Bool → Fn3 × List Int × Bool := bothG2 (bothG2 byteG byteG) blobG
def wholeS : List Int × Int → Whole → List Int × Int := bothS2 (fixS 4) (bothS2 (manyS intS) (manyS fnS))
def wholeG : List Int × Bool → Whole × List Int × Bool := bothG2 (fixG 4) (bothG2 (manyR intG) (manyR fnG))
def wV (ba bb : Nat) : Array Value := #[.func (.func 89) #[] #[.pointer (some ⟨ba, 0, none⟩), .pointer (some ⟨bb, 0, none⟩)], .func (.func 90) #[] #[.pointer (some ⟨ba, 0, none⟩), .pointer (some ⟨bb, 0, none⟩)]]
set_option maxRecDepth 100000 in
set_option maxHeartbeats 4000000 in
theorem form_make (w : World) : Calls Try.prog 28 #[] w fun r w' => ∃ ba bb : Nat, r = .returned (.agg (wV ba bb)) ∧ FldE w' kW argN wholeS wholeG 89 90 #[.pointer (some ⟨ba, 0, none⟩), .pointer (some ⟨bb, 0, none⟩)] #[.pointer (some ⟨ba, 0, none⟩), .pointer (some ⟨bb, 0, none⟩)] ∧ Below w.heap.size w w' := by
  go_enter Try.func28, Try.ntmps28
  go_wp2_with fail
  refine (byte_run _).mono ?_
  rintro r w1 ⟨b1, b2, rfl, hN1, hb1⟩
  have HN1 := Aside0.mk hN1
  have HB1 := Aside0.mk hb1
  simp only [numV]
  clear hN1 hb1
  go_wp2_with fail
  refine (byte_run _).mono ?_
  rintro r w2 ⟨b3, b4, rfl, hN2, hb2⟩
  have HN2 := Aside0.mk hN2
  have HB2 := Aside0.mk hb2
  simp only [numV]
  clear hN2 hb2
  go_wp2_with fail
  refine (bII_make w2 (fld_num w2 b1 b2 1 255 (HN1.out.below HB2.out)) (fld_num w2 b3 b4 1 255 HN2.out)).mono ?_
  rintro r w3 ⟨ba, bb, rfl, hE3, hb3⟩
  have HE3 := Aside0.mk hE3
  have HB3 := Aside0.mk hb3
  clear hE3 hb3
  go_wp2_with fail
  refine (blob_make w3).mono ?_
  rintro r w4 ⟨bk, k1, k2, rfl, hF4, hb4⟩
  have HF4 := Aside0.mk hF4
  have HB4 := Aside0.mk hb4
  simp only [blobV]
  clear hF4 hb4
  go_wp2_with fail
  refine (bFn_make w4 (HE3.out.below HB4.out) (fld_blob w4 bk k1 k2 HF4.out)).mono ?_
  rintro r w5 ⟨fa, fb, rfl, hE5, hb5⟩
  have HE5 := Aside0.mk hE5
  have hx1 : w1.heap[w.heap.size]? = some (.cells #[.nilFunc, .nilFunc] 71 (0, 0)) := blk_below (blk_new w _) HB1.out
  have hx5 := blk_below (blk_below (blk_below (blk_below hx1 HB2.out) HB3.out) HB4.out) hb5
  have hw5 : Below w.heap.size w w5 := below_step (below_step (below_step (below_step (below_step (below_alloc (Below.refl _ _) _) HB1.out) HB2.out) HB3.out) HB4.out) hb5
  have HX5 := Aside0.mk hx5
  have HW5 := Aside0.mk hw5
  clear hE5 hb5 hx1 hx5 hw5
  go_upto_region 2 with (fail)
  obtain ⟨W6, hW6⟩ : ∃ W6, w5.alloc (.cells #[.func (.func 79) #[] #[.pointer (some ⟨fa, 0, none⟩), .pointer (some ⟨fb, 0, none⟩)], .func (.func 80) #[] #[.pointer (some ⟨fa, 0, none⟩), .pointer (some ⟨fb, 0, none⟩)]] 108) = W6 := ⟨_, rfl⟩
  have hf6 : W6.heap[w5.heap.size]? = some (.cells #[.func (.func 79) #[] #[.pointer (some ⟨fa, 0, none⟩), .pointer (some ⟨fb, 0, none⟩)], .func (.func 80) #[] #[.pointer (some ⟨fa, 0, none⟩), .pointer (some ⟨fb, 0, none⟩)]] 108 (0, 0)) := by rw [← hW6]; exact blk_new w5 _
  have hb6 : Below w5.heap.size w5 W6 := by rw [← hW6]; exact below_alloc (Below.refl _ _) _
  rw [hW6]
  clear hW6
  have hx6 := blk_below HX5.out hb6
  have HE6 := Aside0.mk (HE5.out.below hb6)
  have HX6 := Aside0.mk hx6
  have HW6 := Aside0.mk (below_step HW5.out hb6)
  have q0 : ∀ W, Below W6.heap.size W6 W → W.cell? ⟨w5.heap.size, 0, none⟩ = some (.func (.func 79) #[] #[.pointer (some ⟨fa, 0, none⟩), .pointer (some ⟨fb, 0, none⟩)]) := fun W h => blk_cell (blk_below hf6 h) 0
  have q1 : ∀ W, Below W6.heap.size W6 W → W.cell? ⟨w5.heap.size, 1, none⟩ = some (.func (.func 80) #[] #[.pointer (some ⟨fa, 0, none⟩), .pointer (some ⟨fb, 0, none⟩)]) := fun W h => blk_cell (blk_below hf6 h) 1
  have x0 : ∀ W, Below W6.heap.size W6 W → W.cell? ⟨w.heap.size, 0, none⟩ = some .nilFunc := fun W h => blk_cell (blk_below hx6 h) 0
  have x1 : ∀ W, Below W6.heap.size W6 W → W.cell? ⟨w.heap.size, 1, none⟩ = some .nilFunc := fun W h => blk_cell (blk_below hx6 h) 1
  have g0 : ∀ W, Below W6.heap.size W6 W → W.frozen? ⟨w.heap.size, 0, none⟩ = false := fun W h => blkO_free (blk_below hx6 h) 0
  have g1 : ∀ W, Below W6.heap.size W6 W → W.frozen? ⟨w.heap.size, 1, none⟩ = false := fun W h => blkO_free (blk_below hx6 h) 1
  have hbd : Below W6.heap.size W6 W6.drew := below_drew (Below.refl _ _)
  clear hf6 hb6 hx6
  have k6a := q0 W6.drew hbd
  have k6b := q1 W6.drew hbd
  have hn1 : w.heap.size ≠ w5.heap.size := by have := (HW5.out).size; have := blk_lt HX5.out; omega
  have hn2 : w5.heap.size ≠ w.heap.size := fun e => hn1 e.symm
  go_region_held3 (fun w' => w'.cell? ⟨w5.heap.size, 0, none⟩ = some (.func (.func 79) #[] #[.pointer (some ⟨fa, 0, none⟩), .pointer (some ⟨fb, 0, none⟩)]) ∧ w'.cell? ⟨w5.heap.size, 1, none⟩ = some (.func (.func 80) #[] #[.pointer (some ⟨fa, 0, none⟩), .pointer (some ⟨fb, 0, none⟩)])) (first | (exact ⟨by assumption, by assumption⟩) | go_keep) (first
    | (go_at_call 59; go_loud ((with_reducible refine (fixed_make 4 _).mono ?_); rintro r w7 ⟨bm, bn, rfl, hfx, hb7⟩; have hb7' : Below W6.heap.size W6 w7 := below_step hbd hb7; have k7a := q0 w7 hb7'; have k7b := q1 w7 hb7'; have HFX := Aside0.mk hfx; simp only [fixV]; clear hfx hb7))
    | (go_at_call 62; go_loud ((with_reducible refine (int_run _).mono ?_); rintro r w8 ⟨i1, i2, rfl, hI, hb8⟩; have hb8' : Below W6.heap.size W6 w8 := below_step hb7' hb8; have k8a := q0 w8 hb8'; have k8b := q1 w8 hb8'; have HI8 := Aside0.mk hI; have HFX8 := Aside0.mk (HFX.out.below hb8); simp only [numV]; clear hI hb8))
    | (go_at_call 61; go_loud ((with_reducible refine (many_I _ _ _ _ rfl rfl _).mono ?_); rintro r w9 ⟨bc, bf, c1, c2, rfl, hM, hb9⟩; have hb9' : Below W6.heap.size W6 w9 := below_step hb8' hb9; have k9a := q0 w9 hb9'; have k9b := q1 w9 hb9'; have HM9 := Aside0.mk (fld_ints w9 bc bf c1 c2 i1 i2 8 0 hM (HI8.out.below hb9)); have HFX9 := Aside0.mk (HFX8.out.below hb9); simp only [manyV]; clear hM hb9))
    | (go_at_call 63; go_loud ((with_reducible refine (many_F _ _ _ _ _ _ rfl rfl _).mono ?_); rintro r w10 ⟨dc, df, e1, e2, rfl, hM, hb10⟩; have hb10' : Below W6.heap.size W6 w10 := below_step hb9' hb10; have k10a := q0 w10 hb10'; have k10b := q1 w10 hb10'; have HM10 := Aside0.mk (fld_funs w10 dc df e1 e2 hM (HE6.out.below hb10')); have HM9' := Aside0.mk (HM9.out.below hb10); have HFX10 := Aside0.mk (HFX9.out.below hb10); simp only [manyFV]; clear hM hb10))
    | (go_at_call 60; go_loud ((with_reducible refine (bLF_make _ HM9'.out HM10.out).mono ?_); rintro r w11 ⟨la, lb, rfl, hE, hb11⟩; have hb11' : Below W6.heap.size W6 w11 := below_step hb10' hb11; have k11a := q0 w11 hb11'; have k11b := q1 w11 hb11'; have HE11 := Aside0.mk (show FldE w11 kLF argN _ _ _ _ _ _ from hE); have HFX11 := Aside0.mk (HFX10.out.below hb11); clear hE hb11))
    | (go_at_call 58; go_loud ((with_reducible refine (bW_make _ (fld_fix _ _ _ 4 HFX11.out) HE11.out).mono ?_); rintro r w12 ⟨ga, gb, rfl, hE, hb12⟩; have hb12' : Below W6.heap.size W6 w12 := below_step hb11' hb12; have k12a := q0 w12 hb12'; have k12b := q1 w12 hb12'; have HE12 := Aside0.mk hE; clear hE hb12)))
  go_wp2_with fail
  have hx12 := blk_below HX6.out hb12'
  refine bodyPost_ret (v := .agg (wV ga gb)) (cell_res (g := w.heap.size) rfl rfl (blk_set (blk_set hx12 0 _) 1 _) Try.underlying71 rfl (by kernel_rfl)) rfl ⟨ga, gb, rfl, ?_, ?_⟩
  · exact HE12.out.late (((Late.of (Below.refl _ _)).set hx12 0 _).set (blk_set hx12 0 _) 1 _)
  · exact ((HW6.out.trans (hb12'.mono HW6.out.size)).setCell (p := ⟨w.heap.size, 0, none⟩) (Nat.le_refl _) _).setCell (p := ⟨w.heap.size, 1, none⟩) (Nat.le_refl _) _
end Go.Proofs.Ytjkjpmfenillcaa.P
/- codec: a module's form encoded and decoded, whatever the field; no statement of the seat. -/
set_option linter.unusedVariables false
set_option linter.unusedSimpArgs false
namespace Go.Proofs.Ytjkjpmfenillcaa.P
open Go.RowKit Go.Proofs.YtjkjpmfenillcaaW.PrintWords Go.Proofs.YtjkjpmfenillcaaW.PrintLast Go.Proofs.YtjkjpmfenillcaaW.PrintMore
set_option maxRecDepth 100000 in
set_option maxHeartbeats 4000000 in
theorem enc_W (w : World) {S : List Int × Int → Whole → List Int × Int} {G : List Int × Bool → Whole × List Int × Bool} {f1 f2 : FuncId} {ca cb : Array Value} (hE : FldE w kW argN S G f1 f2 ca cb) (x : Whole) (A0 A1 A2 : Option Addr) (c0 c1 c2 : Nat) (hK : kW.K w x [.slice A0 x.1.length c0, .slice A1 x.2.1.length c1, .slice A2 x.2.2.length c2]) :
    Calls Try.prog 34 #[.agg #[.func (.func f1) #[] ca, .func (.func f2) #[] cb], .agg #[.slice A0 x.1.length c0, .slice A1 x.2.1.length c1, .slice A2 x.2.2.length c2]] w fun r w' => ∃ A' c', r = .returned (.tuple #[.slice A' (encR (S ([], 0) x)).1.length c', .int .i64 (encR (S ([], 0) x)).2]) ∧ Kd.C (Kd.int .u8) w' A' (encR (S ([], 0) x)).1.length (encR (S ([], 0) x)).1 ∧ (encR (S ([], 0) x)).1.length ≤ c' ∧ Below w.heap.size w w' := by
  have hnn : ∀ W, (binOp .eql 68 (.func (.func f1) #[] ca) .nilFunc).run Try.prog W = .ok (.bool false) W := fun _ => by kernel_rfl
  obtain ⟨W1, hW1⟩ : ∃ W1, (w.alloc (.cells #[.func (.func f1) #[] ca, .func (.func f2) #[] cb] 71)).alloc (.cells #[.slice A0 x.1.length c0, .slice A1 x.2.1.length c1, .slice A2 x.2.2.length c2] 65) = W1 := ⟨_, rfl⟩
  have hb1 : Below w.heap.size w W1 := by rw [← hW1]; exact below_alloc (below_alloc (Below.refl _ _) _) _
  have hz1 : W1.heap.size = w.heap.size + 1 + 1 := by rw [← hW1, World.size_alloc, World.size_alloc]
  have hO : OutOK (W1.alloc (.cells #[.slice none 0 0, .int .i64 0] 147)) W1.heap.size W1.heap.size (.slice none 0 0) [] 0 := ⟨Nat.le_refl _, blk_new _ _, Kd.R_nil _ _ _ _ _⟩
  have hput := (hE.below hb1).put W1 (Late.of (Below.refl _ _)) (W1.alloc (.cells #[.slice none 0 0, .int .i64 0] 147)) W1.heap.size _ [] 0 x [.slice A0 x.1.length c0, .slice A1 x.2.1.length c1, .slice A2 x.2.2.length c2] (below_alloc (Below.refl _ _) _) (kW.K_below hb1 hK) hO (by simp)
  have hgo := hE.go1
  obtain ⟨s, hs⟩ : ∃ s, s = S ([], 0) x := ⟨_, rfl⟩
  rw [← hs] at hput ⊢
  have HP := Aside0.mk hput
  have HW1 := Aside0.mk hW1
  have HB1 := Aside0.mk hb1
  have HZ1 := Aside0.mk hz1
  clear hput hs hO hb1 hE hK hz1 hW1
  go_enter Try.func34, Try.ntmps34
  go_wp2_with fail
  rw [HW1.out]
  rw [← HZ1.out]
  refine HP.out.mono ?_
  rintro r w2 ⟨rfl, hT⟩
  obtain ⟨v', hO', hk', ha', hb'⟩ := hT
  obtain ⟨b2, e2⟩ := s
  obtain ⟨A', c', hv'⟩ := Kd.R_slice hO'.own
  subst hv'
  have c0 : w2.cell? ⟨W1.heap.size, 0, none⟩ = some (.slice A' b2.length c') := blk_cell hO'.blk 0
  have c1 : w2.cell? ⟨W1.heap.size, 1, none⟩ = some (.int .i64 e2) := blk_cell hO'.blk 1
  have HO' := Aside0.mk hO'
  have HB := Aside0.mk (show Below w.heap.size w w2 from (HB1.out.trans ((below_alloc (Below.refl _ W1) _).mono HB1.out.size)).trans (hb'.mono HB1.out.size))
  clear hO' hk' ha' hb'
  by_cases he : e2 = 0
  · subst he
    have hR := HO'.out.own
    go_wp2_with fail
    refine (clip_run A' b2.length c' b2 w2 _ _ hR).mono ?_
    rintro r w3 ⟨⟨A3, rfl, hC3⟩, rfl⟩
    have HC3 := Aside0.mk hC3
    clear hC3 hR
    go_wp2_with fail
    go_ret2
    exact ⟨A3, b2.length, rfl, HC3.out, Nat.le_refl _, HB.out⟩
  · have he1 : (e2 != 0) = true := by simpa using he
    have he2 : (e2 == 0) = false := by simpa using he
    have HE := Aside0.mk (show encR (b2, e2) = ([], e2) from if_neg he)
    clear he
    go_wp2_with fail
    go_region_held3 (fun w' => w'.cell? ⟨W1.heap.size, 1, none⟩ = some (.int .i64 e2)) (go_keep) (fail)
    all_goals
      go_wp2_with fail
      go_ret2
      rw [HE.out]
      exact ⟨none, 0, rfl, Kd.C_nil _ _, Nat.le_refl _, below_drew HB.out⟩
theorem kW_open {w : World} {x : Whole} {cs : List Value} {base : Nat} {ok : Nat → Prop} (h : kW.M w base ok x cs) : ∃ A0 c0 A1 c1 A2 c2, cs = [.slice A0 x.1.length c0, .slice A1 x.2.1.length c1, .slice A2 x.2.2.length c2] := by
  obtain ⟨_, _, rfl, ⟨v0, rfl, h0⟩, _, _, rfl, ⟨v1, rfl, h1⟩, v2, rfl, h2⟩ := h
  obtain ⟨A0, c0, rfl⟩ := Kd.R_slice h0
  obtain ⟨A1, c1, rfl⟩ := Kd.R_slice h1
  obtain ⟨A2, c2, rfl⟩ := Kd.R_slice h2
  exact ⟨A0, c0, A1, c1, A2, c2, rfl⟩
def zW : Whole := ([], [], [])
theorem kW_zero (w : World) (base : Nat) (ok : Nat → Prop) : kW.M w base ok zW [.slice none 0 0, .slice none 0 0, .slice none 0 0] := ⟨[_], [_, _], rfl, ⟨_, rfl, Kd.R_nil _ _ _ _ _⟩, [_], [_], rfl, ⟨_, rfl, Kd.R_nil _ _ _ _ _⟩, _, rfl, Kd.R_nil _ _ _ _ _⟩
/-- A block of three cells, all written. -/
theorem three_set {w : World} {g : Nat} {t : TypeId} {x y z : Value} (h : w.heap[g]? = some (.cells #[x, y, z] t (0, 0))) (u v q : Value) : (((w.setCell ⟨g, 0, none⟩ u).setCell ⟨g, 1, none⟩ v).setCell ⟨g, 2, none⟩ q).heap[g]? = some (.cells #[u, v, q] t (0, 0)) := blk_set (blk_set (blk_set h 0 u) 1 v) 2 q
theorem three_below {w0 w : World} {g : Nat} (hb : Below w0.heap.size w0 w) (hg : w0.heap.size ≤ g) (u v q : Value) : Below w0.heap.size w0 (((w.setCell ⟨g, 0, none⟩ u).setCell ⟨g, 1, none⟩ v).setCell ⟨g, 2, none⟩ q) := ((hb.setCell (p := ⟨g, 0, none⟩) hg u).setCell (p := ⟨g, 1, none⟩) hg v).setCell (p := ⟨g, 2, none⟩) hg q
theorem M_three {α : Type} {d : Kd α} {w1 : World} {base : Nat} {x : α} {cs : List Value} (h : d.M w1 base (fun _ => True) x cs) (g : Nat) (u v q : Value) (hg : g < base) : d.M (((w1.setCell ⟨g, 0, none⟩ u).setCell ⟨g, 1, none⟩ v).setCell ⟨g, 2, none⟩ q) base (fun _ => True) x cs :=
  M_sets (M_sets (M_sets h g 0 u hg) g 1 v hg) g 2 q hg
set_option maxRecDepth 100000 in
set_option maxHeartbeats 4000000 in
theorem fst_W (w : World) {S : List Int × Int → Whole → List Int × Int} {G : List Int × Bool → Whole × List Int × Bool} {f1 f2 : FuncId} {ca cb : Array Value} (hE : FldE w kW argN S G f1 f2 ca cb) (A : Option Addr) (c : Nat) (b : List Int) (hx : Kd.C (Kd.int .u8) w A b.length b) (hc : b.length ≤ c) (hok : okL b) :
    Calls Try.prog 53 #[.agg #[.func (.func f1) #[] ca, .func (.func f2) #[] cb], .slice A b.length c] w fun r w' => ∃ cs : List Value, r = .returned (.tuple #[.agg cs.toArray, .int .i64 (fstR G zW b).2.1, .int .i64 (fstR G zW b).2.2]) ∧ kW.M w' w.heap.size (fun _ => True) (fstR G zW b).1 cs ∧ Below w.heap.size w w' := by
  have hnn : ∀ W, (binOp .eql 69 (.func (.func f2) #[] cb) .nilFunc).run Try.prog W = .ok (.bool false) W := fun _ => by kernel_rfl
  obtain ⟨W1, hW1⟩ : ∃ W1, ((w.alloc (.cells #[.func (.func f1) #[] ca, .func (.func f2) #[] cb] 71)).alloc (.cells #[.slice none 0 0, .slice none 0 0, .slice none 0 0] 65)).alloc (.cells #[.slice none 0 0, .slice none 0 0, .slice none 0 0] 65) = W1 := ⟨_, rfl⟩
  have hb1 : Below w.heap.size w W1 := by rw [← hW1]; exact below_alloc (below_alloc (below_alloc (Below.refl _ _) _) _) _
  have hz1 : W1.heap.size = w.heap.size + 1 + 1 + 1 := by rw [← hW1, World.size_alloc, World.size_alloc, World.size_alloc]
  have hr1 : W1.heap[w.heap.size + 1]? = some (.cells #[.slice none 0 0, .slice none 0 0, .slice none 0 0] 65 (0, 0)) := by rw [← hW1]; have h := blk_alloc (blk_new (w.alloc (.cells #[.func (.func f1) #[] ca, .func (.func f2) #[] cb] 71)) (.cells #[.slice none 0 0, .slice none 0 0, .slice none 0 0] 65)) (.cells #[.slice none 0 0, .slice none 0 0, .slice none 0 0] 65); rw [World.size_alloc] at h; exact h
  have hn1 : W1.heap[w.heap.size + 1 + 1]? = some (.cells #[.slice none 0 0, .slice none 0 0, .slice none 0 0] 65 (0, 0)) := by rw [← hW1]; have h := blk_new ((w.alloc (.cells #[.func (.func f1) #[] ca, .func (.func f2) #[] cb] 71)).alloc (.cells #[.slice none 0 0, .slice none 0 0, .slice none 0 0] 65)) (.cells #[.slice none 0 0, .slice none 0 0, .slice none 0 0] 65); rw [World.size_alloc, World.size_alloc] at h; exact h
  have hI : InOK W1 (W1.alloc (.cells #[.slice A b.length c, .bool false] 165)) W1.heap.size A c b false := ⟨Nat.le_refl _, blk_new _ _, Kd.C_below hx hb1, hc, hok, below_alloc (Below.refl _ _) _⟩
  have hget := (hE.below hb1).get W1 (Late.of (Below.refl _ _)) (W1.alloc (.cells #[.slice A b.length c, .bool false] 165)) W1.heap.size A c b false hI
  have hmx := Kd.C_max hx
  have hgo := hE.go2
  obtain ⟨g, hg⟩ : ∃ g, g = G (b, false) := ⟨_, rfl⟩
  have HF := Aside0.mk (show fstR G zW b = if (g.2.2 || decide ((b.length : Int) - (g.2.1.length : Int) > 1048576)) = true then (zW, 0, 10) else (g.1, (b.length : Int) - (g.2.1.length : Int), 0) by rw [hg]; rfl)
  rw [← hg] at hget
  have HG := Aside0.mk hget
  have HW1 := Aside0.mk hW1
  have HB1 := Aside0.mk hb1
  have HZ1 := Aside0.mk hz1
  have HR1 := Aside0.mk (And.intro hr1 hn1)
  clear hget hg hI hb1 hx hE hW1 hz1 hr1 hn1
  go_enter Try.func53, Try.ntmps53
  go_wp2_with fail
  rw [HW1.out]
  rw [← HZ1.out]
  refine HG.out.mono ?_
  rintro r w2 ⟨cs, rfl, hM, hT⟩
  obtain ⟨⟨A', c', hI'⟩, hk'⟩ := hT
  obtain ⟨x, b2, bd⟩ := g
  dsimp only at *
  have hmx2 := Kd.C_max hI'.rd
  have HM := Aside0.mk hM
  obtain ⟨A0, c0, A1, c1, A2, c2, rfl⟩ := kW_open hM
  have hb2 : Below W1.heap.size W1 w2 := hI'.lo
  have d0 : w2.cell? ⟨W1.heap.size, 0, none⟩ = some (.slice A' b2.length c') := blk_cell hI'.blk 0
  have d1 : w2.cell? ⟨W1.heap.size, 1, none⟩ = some (.bool bd) := blk_cell hI'.blk 1
  have hr2 := blk_below HR1.out.1 hb2
  have hn2 := blk_below HR1.out.2 hb2
  have HB := Aside0.mk (show Below w.heap.size w w2 from HB1.out.trans (hb2.mono HB1.out.size))
  have HR2 := Aside0.mk hr2
  have hz2 := blk_lt hI'.blk
  have x0 := blk_cell hr2 0
  have x1 := blk_cell hr2 1
  have x2 := blk_cell hr2 2
  have y0 := blkO_free hr2 0
  have y1 := blkO_free hr2 1
  have y2 := blkO_free hr2 2
  have n0 := blk_cell hn2 0
  have n1 := blk_cell hn2 1
  have n2 := blk_cell hn2 2
  have hl1 : w.heap.size + 1 < w2.heap.size := by have := HZ1.out; omega
  have hl2 : w.heap.size + 1 + 1 < w2.heap.size := by have := HZ1.out; omega
  have HIP := Aside0.mk (And.intro hI' hk')
  clear hI' hk' hM hr2 hn2 hb2
  simp only [argN]
  by_cases hb : bd = true
  · subst hb
    go_wp2_with fail
    refine bodyPost_ret (v := .tuple #[.agg #[.slice none 0 0, .slice none 0 0, .slice none 0 0], .int .i64 0, .int .i64 10]) (results_ctt (p := 4) (u := 5) (v := 6) (ty := 65) rfl _ _ (w.heap.size + 1) 65 #[.slice none 0 0, .slice none 0 0, .slice none 0 0] (0, 0) _ rfl (blk_alloc (three_set HR2.out _ _ _) _) Try.underlying65 rfl (by kernel_rfl)) rfl ⟨[.slice none 0 0, .slice none 0 0, .slice none 0 0], ?_, ?_, ?_⟩
    · rw [HF.out, if_pos (by simp)]
    · rw [HF.out, if_pos (by simp)]; exact kW_zero _ _ _
    · exact (three_below HB.out (by omega) _ _ _).alloc (by simp only [World.size_setCell]; exact HB.out.size) _
  · obtain rfl : bd = false := by cases bd <;> simp_all
    by_cases hn : (b.length : Int) - (b2.length : Int) > 1048576
    · have hn' : (1048576 : Int) < (b.length : Int) - (b2.length : Int) := hn
      have HN := Aside0.mk hn
      clear hn
      go_wp2_with fail
      refine bodyPost_ret (v := .tuple #[.agg #[.slice none 0 0, .slice none 0 0, .slice none 0 0], .int .i64 0, .int .i64 10]) (results_ctt (p := 4) (u := 5) (v := 6) (ty := 65) rfl _ _ (w.heap.size + 1) 65 #[.slice none 0 0, .slice none 0 0, .slice none 0 0] (0, 0) _ rfl (blk_alloc (three_set HR2.out _ _ _) _) Try.underlying65 rfl (by kernel_rfl)) rfl ⟨[.slice none 0 0, .slice none 0 0, .slice none 0 0], ?_, ?_, ?_⟩
      · rw [HF.out, if_pos (by rw [decide_eq_true HN.out]; rfl)]
      · rw [HF.out, if_pos (by rw [decide_eq_true HN.out]; rfl)]; exact kW_zero _ _ _
      · exact (three_below HB.out (by omega) _ _ _).alloc (by simp only [World.size_setCell]; exact HB.out.size) _
    · have hn' : (b.length : Int) - (b2.length : Int) ≤ 1048576 := by omega
      have HN := Aside0.mk hn
      clear hn
      go_wp2_with fail
      refine bodyPost_ret (v := .tuple #[.agg #[.slice A0 x.1.length c0, .slice A1 x.2.1.length c1, .slice A2 x.2.2.length c2], .int .i64 ((b.length : Int) - (b2.length : Int)), .int .i64 0]) (results_ctt (p := 4) (u := 5) (v := 6) (ty := 65) rfl _ _ (w.heap.size + 1) 65 #[.slice A0 x.1.length c0, .slice A1 x.2.1.length c1, .slice A2 x.2.2.length c2] (0, 0) _ rfl (blk_alloc (three_set HR2.out _ _ _) _) Try.underlying65 rfl (by kernel_rfl)) rfl ⟨[.slice A0 x.1.length c0, .slice A1 x.2.1.length c1, .slice A2 x.2.2.length c2], ?_, ?_, ?_⟩
      · rw [HF.out, if_neg (by rw [decide_eq_false (Int.not_lt.mpr hn')]; decide)]
      · rw [HF.out, if_neg (by rw [decide_eq_false (Int.not_lt.mpr hn')]; decide)]; exact Kd.M_lower _ (by rw [World.size_alloc]; have := HB1.out.size; omega) (Kd.M_below (M_three HM.out _ _ _ _ (by rw [World.size_alloc]; have := HZ1.out; omega)) (below_alloc (Below.refl _ _) _))
      · exact (three_below HB.out (by omega) _ _ _).alloc (by simp only [World.size_setCell]; exact HB.out.size) _
set_option maxRecDepth 100000 in
set_option maxHeartbeats 4000000 in
theorem dec_W (w : World) {S : List Int × Int → Whole → List Int × Int} {G : List Int × Bool → Whole × List Int × Bool} {f1 f2 : FuncId} {ca cb : Array Value} (hE : FldE w kW argN S G f1 f2 ca cb) (A : Option Addr) (c : Nat) (b : List Int) (hx : Kd.C (Kd.int .u8) w A b.length b) (hc : b.length ≤ c) (hok : okL b) :
    Calls Try.prog 27 #[.agg #[.func (.func f1) #[] ca, .func (.func f2) #[] cb], .slice A b.length c] w fun r w' => ∃ cs : List Value, r = .returned (.tuple #[.agg cs.toArray, .int .i64 (decR G zW b).2]) ∧ kW.M w' w.heap.size (fun _ => True) (decR G zW b).1 cs ∧ Below w.heap.size w w' := by
  obtain ⟨W1, hW1⟩ : ∃ W1, ((w.alloc (.cells #[.func (.func f1) #[] ca, .func (.func f2) #[] cb] 71)).alloc (.cells #[.slice none 0 0, .slice none 0 0, .slice none 0 0] 65)).alloc (.cells #[.slice none 0 0, .slice none 0 0, .slice none 0 0] 65) = W1 := ⟨_, rfl⟩
  have hb1 : Below w.heap.size w W1 := by rw [← hW1]; exact below_alloc (below_alloc (below_alloc (Below.refl _ _) _) _) _
  have hz1 : W1.heap.size = w.heap.size + 1 + 1 + 1 := by rw [← hW1, World.size_alloc, World.size_alloc, World.size_alloc]
  have hr1 : W1.heap[w.heap.size + 1]? = some (.cells #[.slice none 0 0, .slice none 0 0, .slice none 0 0] 65 (0, 0)) := by rw [← hW1]; have h := blk_alloc (blk_new (w.alloc (.cells #[.func (.func f1) #[] ca, .func (.func f2) #[] cb] 71)) (.cells #[.slice none 0 0, .slice none 0 0, .slice none 0 0] 65)) (.cells #[.slice none 0 0, .slice none 0 0, .slice none 0 0] 65); rw [World.size_alloc] at h; exact h
  have hn1 : W1.heap[w.heap.size + 1 + 1]? = some (.cells #[.slice none 0 0, .slice none 0 0, .slice none 0 0] 65 (0, 0)) := by rw [← hW1]; have h := blk_new ((w.alloc (.cells #[.func (.func f1) #[] ca, .func (.func f2) #[] cb] 71)).alloc (.cells #[.slice none 0 0, .slice none 0 0, .slice none 0 0] 65)) (.cells #[.slice none 0 0, .slice none 0 0, .slice none 0 0] 65); rw [World.size_alloc, World.size_alloc] at h; exact h
  have hfst := fst_W W1 (hE.below hb1) A c b (Kd.C_below hx hb1) hc hok
  have hmx := Kd.C_max hx
  obtain ⟨g, hg⟩ : ∃ g, g = fstR G zW b := ⟨_, rfl⟩
  have HD := Aside0.mk (show decR G zW b = if g.2.2 ≠ 0 then (zW, g.2.2) else if g.2.1 < b.length then (zW, 10) else (g.1, 0) by rw [hg]; rfl)
  rw [← hg] at hfst
  have HG := Aside0.mk hfst
  have HW1 := Aside0.mk hW1
  have HB1 := Aside0.mk hb1
  have HZ1 := Aside0.mk hz1
  have HR1 := Aside0.mk (And.intro hr1 hn1)
  clear hfst hg hb1 hx hE hW1 hz1 hr1 hn1
  go_enter Try.func27, Try.ntmps27
  go_wp2_with fail
  rw [HW1.out]
  refine HG.out.mono ?_
  rintro r w2 ⟨cs, rfl, hM, hb2⟩
  obtain ⟨x, n, e⟩ := g
  dsimp only at *
  have HM := Aside0.mk hM
  obtain ⟨A0, c0, A1, c1, A2, c2, rfl⟩ := kW_open hM
  have hr2 := blk_below HR1.out.1 hb2
  have hn2 := blk_below HR1.out.2 hb2
  have HB := Aside0.mk (show Below w.heap.size w w2 from HB1.out.trans (hb2.mono HB1.out.size))
  have HR2 := Aside0.mk hr2
  have hl1 : w.heap.size + 1 < w2.heap.size := by have := HZ1.out; have := hb2.size; omega
  have hl2 : w.heap.size + 1 + 1 < w2.heap.size := by have := HZ1.out; have := hb2.size; omega
  have x0 := blk_cell hr2 0
  have x1 := blk_cell hr2 1
  have x2 := blk_cell hr2 2
  have y0 := blkO_free hr2 0
  have y1 := blkO_free hr2 1
  have y2 := blkO_free hr2 2
  have n0 := blk_cell hn2 0
  have n1 := blk_cell hn2 1
  have n2 := blk_cell hn2 2
  clear hM hr2 hn2 hb2
  by_cases he : e = 0
  · subst he
    by_cases hn : n < b.length
    · have HN := Aside0.mk hn
      go_wp2_with fail
      refine bodyPost_ret (v := .tuple #[.agg #[.slice none 0 0, .slice none 0 0, .slice none 0 0], .int .i64 10]) (results_ct (p := 4) (u := 5) (ty := 65) rfl _ _ (w.heap.size + 1) 65 #[.slice none 0 0, .slice none 0 0, .slice none 0 0] (0, 0) _ rfl (blk_alloc (three_set HR2.out _ _ _) _) Try.underlying65 rfl (by kernel_rfl)) rfl ⟨[.slice none 0 0, .slice none 0 0, .slice none 0 0], ?_, ?_, ?_⟩
      · rw [HD.out, if_neg (by simp), if_pos HN.out]
      · rw [HD.out, if_neg (by simp), if_pos HN.out]; exact kW_zero _ _ _
      · exact (three_below HB.out (by omega) _ _ _).alloc (by simp only [World.size_setCell]; exact HB.out.size) _
    · have hn' : (b.length : Int) ≤ n := by omega
      have HN := Aside0.mk hn'
      clear hn
      go_wp2_with fail
      refine bodyPost_ret (v := .tuple #[.agg #[.slice A0 x.1.length c0, .slice A1 x.2.1.length c1, .slice A2 x.2.2.length c2], .int .i64 0]) (results_ct (p := 4) (u := 5) (ty := 65) rfl _ _ (w.heap.size + 1) 65 #[.slice A0 x.1.length c0, .slice A1 x.2.1.length c1, .slice A2 x.2.2.length c2] (0, 0) _ rfl (blk_alloc (three_set HR2.out _ _ _) _) Try.underlying65 rfl (by kernel_rfl)) rfl ⟨[.slice A0 x.1.length c0, .slice A1 x.2.1.length c1, .slice A2 x.2.2.length c2], ?_, ?_, ?_⟩
      · rw [HD.out, if_neg (by simp), if_neg (Int.not_lt.mpr HN.out)]
      · rw [HD.out, if_neg (by simp), if_neg (Int.not_lt.mpr HN.out)]; exact Kd.M_lower _ (by have := HB1.out.size; omega) (Kd.M_below (M_three HM.out _ _ _ _ (by have := HZ1.out; omega)) (below_alloc (Below.refl _ _) _))
      · exact (three_below HB.out (by omega) _ _ _).alloc (by simp only [World.size_setCell]; exact HB.out.size) _
  · have he1 : (e != 0) = true := by simpa using he
    have he2 : (e == 0) = false := by simpa using he
    have HE := Aside0.mk he
    clear he
    go_wp2_with fail
    refine bodyPost_ret (v := .tuple #[.agg #[.slice none 0 0, .slice none 0 0, .slice none 0 0], .int .i64 e]) (results_ct (p := 4) (u := 5) (ty := 65) rfl _ _ (w.heap.size + 1) 65 #[.slice none 0 0, .slice none 0 0, .slice none 0 0] (0, 0) _ rfl (blk_alloc (three_set HR2.out _ _ _) _) Try.underlying65 rfl (by kernel_rfl)) rfl ⟨[.slice none 0 0, .slice none 0 0, .slice none 0 0], ?_, ?_, ?_⟩
    · rw [HD.out, if_pos HE.out]
    · rw [HD.out, if_pos HE.out]; exact kW_zero _ _ _
    · exact (three_below HB.out (by omega) _ _ _).alloc (by simp only [World.size_setCell]; exact HB.out.size) _
end Go.Proofs.Ytjkjpmfenillcaa.P
