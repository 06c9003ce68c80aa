/- codec.Both, turned: what is read; by another field; no statement of the seat. -/
import Derived.Test.YtdlkkjfbbeffbaaCodecD
import Derived.Test.YtdlkkjfbbeffbaaCodecC
import Derived.Test.YtdlkkjfbbeffbaaPF65
import Derived.Test.YtdlkkjfbbeffbaaPF66
import Derived.Test.YtdlkkjfbbeffbaaPF76
set_option linter.unusedVariables false
set_option linter.unusedSimpArgs false
namespace Go.Proofs.Ytdlkkjfbbeffbaa.P
open Go.RowKit Go.Proofs.YtdlkkjfbbeffbaaW.PrintWords Go.Proofs.YtdlkkjfbbeffbaaW.PrintLast Go.Proofs.YtdlkkjfbbeffbaaW.PrintMore
set_option maxRecDepth 100000 in
set_option maxHeartbeats 4000000 in
theorem both_get (w0 w : World) (p : Nat) (A : Option Addr) (c : Nat) (bs : List Int) (bad : Bool) (ba bb a1 a2 n : Nat) (most : Int) (bk c1 c2 : Nat) (hF : BothF w0 ba bb a1 a2 n most bk c1 c2) (h : InOK w0 w p A c bs bad) :
    Calls Try.prog 84 #[.pointer (some ⟨p, 0, none⟩), .pointer (some ⟨ba, 0, none⟩), .pointer (some ⟨bb, 0, none⟩)] w fun r w' => ∃ v : Value, r = .returned (.agg #[.int .i64 (bothG n most (bs, bad)).1.1, v]) ∧ Kd.R (Kd.int .u8) 5 w' w.heap.size (fun _ => True) v (bothG n most (bs, bad)).1.2 ∧ InTo w0 w p (bothG n most (bs, bad)).2 w' := by
  have HI := Aside0.mk h
  have HI1 := Aside0.mk (h.alloc (.cells #[.int .i64 0, .slice none 0 0] 100))
  have HF := Aside0.mk hF
  have hF1 := hF.below h.lo
  have q0 : w.cell? ⟨ba, 1, none⟩ = some (.func (.func 88) #[] #[.pointer (some ⟨a1, 0, none⟩), .pointer (some ⟨a2, 0, none⟩)]) := blk_cell hF1.a 1
  have hlt0 : ba < w.heap.size := blk_lt hF1.a
  have hp : p < w.heap.size := blk_lt h.blk
  have hB := h.lo.size
  clear h hF hF1
  go_enter Try.func84, Try.ntmps84
  go_wp2_with fail
  refine (numget_run w0 _ p a1 a2 n most A c bs bad (HF.out.an.below HI1.out.lo) HI1.out).mono ?_
  rintro r w1 ⟨rfl, hT⟩
  have HT := Aside0.mk hT
  obtain ⟨⟨A1, cc1, hI1⟩, hk1⟩ := hT
  have hF2 := HF.out.below hI1.lo
  have q1 : w1.cell? ⟨bb, 1, none⟩ = some (.func (.func 71) #[] #[.pointer (some ⟨bk, 0, none⟩)]) := blk_cell hF2.b 1
  have hx : w1.heap[w.heap.size]? = some (.cells #[.int .i64 0, .slice none 0 0] 100 (0, 0)) := hk1.blk (blk_new w _) (by omega) (by simp)
  have HBF := Aside0.mk hF2.bf
  have HX := Aside0.mk (And.intro hx hI1)
  have hs1 := hk1.1
  rw [World.size_alloc] at hs1
  clear hI1 hk1 q0 hF2 hx
  go_wp2_with fail
  refine (blob_get w0 w1 p A1 cc1 _ _ bk c1 c2 HBF.out HX.out.2).mono ?_
  rintro r w2 ⟨v, rfl, hR, hT2⟩
  obtain ⟨⟨A2, cc2, hI2⟩, hk2⟩ := hT2
  have hx2 := hk2.blk HX.out.1 (by omega) (by simp)
  obtain ⟨Av, cv, hv⟩ := Kd.R_slice hR
  subst hv
  have x0 : w2.cell? ⟨w.heap.size, 0, none⟩ = some (.int .i64 0) := blk_cell hx2 0
  have x1 : w2.cell? ⟨w.heap.size, 1, none⟩ = some (.slice none 0 0) := blk_cell hx2 1
  have g0 := blkO_free hx2 0
  have g1 := blkO_free hx2 1
  have HY := Aside0.mk (And.intro hR (And.intro hI2 (And.intro hk2 hx2)))
  clear hR hI2 hk2 hx2 q1
  go_wp2_with fail
  obtain ⟨hR, hI2, hk2, hx2⟩ := HY.out
  refine bodyPost_ret (v := .agg #[.int .i64 (lowI (bs, bad) n most).1, .slice Av (blobG (lowI (bs, bad) n most).2).1.length cv]) (cell_res (g := w.heap.size) rfl rfl (two_set hx2 _ _) Try.underlying100 rfl (by kernel_rfl)) rfl ⟨_, rfl, ?_, ?_⟩
  · refine Kd.R_lower (Kd.R_mono (Kd.R_far (Kd.R_bound (Kd.R_mono (Kd.R_far (Kd.R_bound hR) (p := ⟨w.heap.size, 0, none⟩) (fun k hk => by have := hk.2.1; show k ≠ w.heap.size; omega) _) (fun _ hk => hk.1))) (p := ⟨w.heap.size, 1, none⟩) (fun k hk => by have := hk.2.1; show k ≠ w.heap.size; omega) _) (fun _ hk => hk.1)) (by omega)
  · have hb := InTo.bind HT.out ⟨⟨A2, cc2, hI2⟩, hk2⟩
    have hb3 : Below w.heap.size w2 ((w2.setCell ⟨w.heap.size, 0, none⟩ (.int .i64 (lowI (bs, bad) n most).1)).setCell ⟨w.heap.size, 1, none⟩ (.slice Av (blobG (lowI (bs, bad) n most).2).1.length cv)) := ((Below.refl _ _).setCell (p := ⟨w.heap.size, 0, none⟩) (Nat.le_refl _) _).setCell (p := ⟨w.heap.size, 1, none⟩) (Nat.le_refl _) _
    have h4 : InTo w0 w p (blobG (lowI (bs, bad) n most).2).2 w2 := ⟨hb.1, (keep_alloc_row (KeepBut.refl w p none) _).trans hb.2 (.inl rfl)⟩
    exact h4.past2 hp hb3 hB
/-- A flag's field, by a number's. -/
structure FlagF (w : World) (bf bt bk a1 a2 : Nat) : Prop where
  f : w.heap[bf]? = some (.cells (numV a1 a2) 37 (0, 0))
  n : NumF w a1 a2 1 1
  t : w.heap[bt]? = some (.cells #[.func (.func 65) #[] #[]] 134 (0, 0))
  k : w.heap[bk]? = some (.cells #[.func (.func 66) #[] #[]] 58 (0, 0))
theorem FlagF.below {w w1 : World} {bf bt bk a1 a2 : Nat} (h : FlagF w bf bt bk a1 a2) (hb : Below w.heap.size w w1) : FlagF w1 bf bt bk a1 a2 := ⟨blk_below h.f hb, h.n.below hb, blk_below h.t hb, blk_below h.k hb⟩
def flagS (s : List Int × Int) (x : Bool) : List Int × Int := numS s 1 1 (if x = true then 1 else 0)
def flagG (s : List Int × Bool) : Bool × List Int × Bool := ((lowI s 1 1).1 == 1, (lowI s 1 1).2)
theorem flag1_run (x : Bool) (w : World) : Calls Try.prog 65 #[.bool x] w fun e w' => e = .returned (.int .i64 (if x = true then 1 else 0)) ∧ w' = w := by
  go_enter Try.func65, Try.ntmps65
  cases x
  · go_wp2_with fail
    go_ret
    exact ⟨rfl, rfl⟩
  · go_wp2_with fail
    go_ret
    exact ⟨rfl, rfl⟩
theorem flag2_run (x : Int) (w : World) : Calls Try.prog 66 #[.int .i64 x] w fun e w' => e = .returned (.bool (x == 1)) ∧ w' = w := by
  go_enter Try.func66, Try.ntmps66
  go_wp2_with fail
  go_ret
  exact ⟨rfl, rfl⟩
set_option maxRecDepth 100000 in
set_option maxHeartbeats 400000 in
theorem flag_put (w0 w : World) (p : Nat) (v : Value) (bs : List Int) (e : Int) (x : Bool) (bf bt bk a1 a2 : Nat) (hF : FlagF w0 bf bt bk a1 a2) (hlo : Below w0.heap.size w0 w) (h : OutOK w w0.heap.size p v bs e) (hbs : bs.length ≤ 1048576) :
    Calls Try.prog 90 #[.pointer (some ⟨p, 0, none⟩), .bool x, .pointer (some ⟨bf, 0, none⟩), .pointer (some ⟨bt, 0, none⟩)] w fun r w' => r = .returned (.tuple #[]) ∧ OutTo w w0.heap.size p v (flagS (bs, e) x) w' := by
  have HO := Aside0.mk h
  have HF := Aside0.mk hF
  have HLO := Aside0.mk hlo
  have hF1 := hF.below hlo
  have q0 : w.cell? ⟨bf, 0, none⟩ = some (.func (.func 86) #[] #[.pointer (some ⟨a1, 0, none⟩), .pointer (some ⟨a2, 0, none⟩)]) := blk_cell hF1.f 0
  have q1 : w.cell? ⟨bt, 0, none⟩ = some (.func (.func 65) #[] #[]) := blk_cell hF1.t 0
  have hB := hlo.size
  obtain ⟨y, hy⟩ : ∃ y : Int, y = if x = true then 1 else 0 := ⟨_, rfl⟩
  have HS := Aside0.mk (show flagS (bs, e) x = numS (bs, e) 1 1 y by rw [hy]; rfl)
  have HF1 := Aside0.mk (show ∀ W, Calls Try.prog 65 #[.bool x] W fun e w' => e = .returned (.int .i64 y) ∧ w' = W by rw [hy]; exact flag1_run x)
  clear h hF hlo hF1 hy
  rw [HS.out]
  go_enter Try.func90, Try.ntmps90
  go_still_tail 6, (by kernel_rfl)
  still_call (HF1.out _)
  repeat still_step
  refine wpStill_nil ?_
  have hz : w0.heap.size ≤ w.drew.heap.size := hB
  go_wp2_with fail
  with_reducible refine (numput_run w0.heap.size p a1 a2 1 1 v bs e y w.drew (HF.out.n.below (below_drew HLO.out)) HO.out.drew hz hbs).mono ?_
  rintro r w2 ⟨rfl, hT2⟩
  have HT2 := Aside0.mk (OutTo.of_drew hT2)
  clear hT2
  go_wp2_with fail
  go_end0
  exact ⟨rfl, HT2.out⟩
set_option maxRecDepth 100000 in
set_option maxHeartbeats 400000 in
theorem flag_get (w0 w : World) (p : Nat) (A : Option Addr) (c : Nat) (bs : List Int) (bad : Bool) (bf bt bk a1 a2 : Nat) (hF : FlagF w0 bf bt bk a1 a2) (h : InOK w0 w p A c bs bad) :
    Calls Try.prog 91 #[.pointer (some ⟨p, 0, none⟩), .pointer (some ⟨bk, 0, none⟩), .pointer (some ⟨bf, 0, none⟩)] w fun r w' => r = .returned (.bool (flagG (bs, bad)).1) ∧ InTo w0 w p (flagG (bs, bad)).2 w' := by
  have HI := Aside0.mk h
  have HF := Aside0.mk hF
  have hF1 := hF.below h.lo
  have q0 : w.cell? ⟨bf, 1, none⟩ = some (.func (.func 88) #[] #[.pointer (some ⟨a1, 0, none⟩), .pointer (some ⟨a2, 0, none⟩)]) := blk_cell hF1.f 1
  have q1 : w.cell? ⟨bk, 0, none⟩ = some (.func (.func 66) #[] #[]) := blk_cell hF1.k 0
  have hk0 := And.intro hF1.k (blk_ne hF1.k h.blk (by decide))
  have hf0 := And.intro hF1.f (blk_ne hF1.f h.blk (by decide))
  clear h hF hF1
  go_enter Try.func91, Try.ntmps91
  go_upto_region 1 with (fail)
  have HD := Aside0.mk HI.out.drew
  obtain ⟨y, hy⟩ : ∃ y, y = (lowI (bs, bad) 1 1).1 := ⟨_, rfl⟩
  have HG := Aside0.mk (show (flagG (bs, bad)).1 = (y == 1) by rw [hy]; rfl)
  have HNR := Aside0.mk (show Calls Try.prog 88 #[.pointer (some ⟨p, 0, none⟩), .pointer (some ⟨a1, 0, none⟩), .pointer (some ⟨a2, 0, none⟩)] w.drew fun r w' => r = .returned (.int .i64 y) ∧ InTo w0 w p (flagG (bs, bad)).2 w' by
    rw [hy]
    exact numget_run w0 w.drew p a1 a2 1 1 A c bs bad (HF.out.n.below HD.out.lo) HD.out)
  have HBK := Aside0.mk (And.intro hk0 hf0)
  clear hy hk0 hf0
  go_region_held3 (fun w' => w'.cell? ⟨bk, 0, none⟩ = some (.func (.func 66) #[] #[]) ∧ w'.cell? ⟨bf, 1, none⟩ = some (.func (.func 88) #[] #[.pointer (some ⟨a1, 0, none⟩), .pointer (some ⟨a2, 0, none⟩)])) (go_keep) (first
    | (go_at_call 88; go_loud ((with_reducible refine HNR.out.mono ?_); rintro r w1 ⟨rfl, hT⟩; have g0 : w1.cell? ⟨bk, 0, none⟩ = some (.func (.func 66) #[] #[]) := blk_cell (hT.2.blk HBK.out.1.1 HBK.out.1.2 (by simp)) 0; have g1 : w1.cell? ⟨bf, 1, none⟩ = some (.func (.func 88) #[] #[.pointer (some ⟨a1, 0, none⟩), .pointer (some ⟨a2, 0, none⟩)]) := blk_cell (hT.2.blk HBK.out.2.1 HBK.out.2.2 (by simp)) 1; have HT := Aside0.mk hT; clear hT))
    | ((with_reducible refine (flag2_run y _).mono ?_); rintro r w2 ⟨rfl, rfl⟩))
  go_wp2_with fail
  go_ret
  rw [HG.out]
  exact ⟨rfl, HT.out.1, HT.out.2⟩
/-- A text's field, by bytes'. -/
structure TextF (w : World) (bf bt bk bb c1 c2 : Nat) : Prop where
  f : w.heap[bf]? = some (.cells #[.func (.func 69) #[] #[.pointer (some ⟨bb, 0, none⟩)], .func (.func 71) #[] #[.pointer (some ⟨bb, 0, none⟩)]] 86 (0, 0))
  n : BlobF w bb c1 c2
  t : w.heap[bt]? = some (.cells #[.func (.func 75) #[] #[]] 141 (0, 0))
  k : w.heap[bk]? = some (.cells #[.func (.func 76) #[] #[]] 142 (0, 0))
theorem TextF.below {w w1 : World} {bf bt bk bb c1 c2 : Nat} (h : TextF w bf bt bk bb c1 c2) (hb : Below w.heap.size w w1) : TextF w1 bf bt bk bb c1 c2 := ⟨blk_below h.f hb, h.n.below hb, blk_below h.t hb, blk_below h.k hb⟩
def textS (s : List Int × Int) (x : ByteArray) : List Int × Int := blobS s (bytesOf x)
def textG (s : List Int × Bool) : ByteArray × List Int × Bool := (strOfNums (blobG s).1, (blobG s).2)
set_option maxRecDepth 100000 in
set_option maxHeartbeats 400000 in
theorem text1_run (s : ByteArray) (hs : s.size ≤ 140737488355328) (w : World) : Calls Try.prog 75 #[.string s] w fun e w' => ∃ c, e = .returned (.slice (some ⟨w.heap.size, 0, none⟩) (bytesOf s).length c) ∧ Kd.C (Kd.int .u8) w' (some ⟨w.heap.size, 0, none⟩) (bytesOf s).length (bytesOf s) ∧ Below w.heap.size w w' := by
  have hcv := print_bytes (P := Try.prog) 9 40 5 Try.underlying9 Try.underlying40 Try.underlying5 s w
  have hl := bytesOf_length s
  go_enter Try.func75, Try.ntmps75
  go_wp2_with fail
  go_ret
  have hr := readsInt_of.1 (bytes_reads w 5 s (by omega))
  rw [hl]
  exact ⟨_, rfl, Kd.C_of_reads (h1 := fun _ => rfl) hr, bytes_below (Below.refl _ _) (Nat.le_refl _) _ _⟩
set_option maxRecDepth 100000 in
set_option maxHeartbeats 400000 in
theorem text_put (w0 w : World) (p : Nat) (v : Value) (bs : List Int) (e : Int) (x : ByteArray) (hx : x.size ≤ 140737488355328) (bf bt bk bb c1 c2 : Nat) (hF : TextF w0 bf bt bk bb c1 c2) (hlo : Below w0.heap.size w0 w) (h : OutOK w w0.heap.size p v bs e) (hbs : bs.length ≤ 1048576) :
    Calls Try.prog 93 #[.pointer (some ⟨p, 0, none⟩), .string x, .pointer (some ⟨bf, 0, none⟩), .pointer (some ⟨bt, 0, none⟩)] w fun r w' => r = .returned (.tuple #[]) ∧ OutTo w w0.heap.size p v (textS (bs, e) x) w' := by
  have HO := Aside0.mk h
  have HF := Aside0.mk hF
  have HLO := Aside0.mk hlo
  have hF1 := hF.below hlo
  have q0 : w.cell? ⟨bf, 0, none⟩ = some (.func (.func 69) #[] #[.pointer (some ⟨bb, 0, none⟩)]) := blk_cell hF1.f 0
  have q1 : w.cell? ⟨bt, 0, none⟩ = some (.func (.func 75) #[] #[]) := blk_cell hF1.t 0
  have hB := hlo.size
  have lf : bf < w.heap.size := blk_lt hF1.f
  have lt : bt < w.heap.size := blk_lt hF1.t
  have HFF := Aside0.mk (And.intro hF1.f hF1.t)
  have HNE := Aside0.mk (show (bf ≠ p ∧ some bf ≠ v.ownBlock) ∧ (bt ≠ p ∧ some bt ≠ v.ownBlock) from
    ⟨⟨blk_ne hF1.f h.blk (by decide), Kd.R_ne h.own hF1.f (by decide)⟩, ⟨blk_ne hF1.t h.blk (by decide), Kd.R_ne h.own hF1.t (by decide)⟩⟩)
  clear h hF hlo hF1
  have HBL := Aside0.mk (show ∀ (w1 : World) (cx : Nat), Kd.C (Kd.int .u8) w1 (some ⟨w.heap.size, 0, none⟩) (bytesOf x).length (bytesOf x) → Below w.heap.size w w1 → Calls Try.prog 69 #[.pointer (some ⟨p, 0, none⟩), .slice (some ⟨w.heap.size, 0, none⟩) (bytesOf x).length cx, .pointer (some ⟨bb, 0, none⟩)] w1 fun r w2 => r = .returned (.tuple #[]) ∧ OutTo w w0.heap.size p v (textS (bs, e) x) w2 ∧ w2.cell? ⟨bf, 0, none⟩ = some (.func (.func 69) #[] #[.pointer (some ⟨bb, 0, none⟩)]) ∧ w2.cell? ⟨bt, 0, none⟩ = some (.func (.func 75) #[] #[]) by
    intro w1 cx hC hb
    have hO1 : OutOK w1 w0.heap.size p v bs e := ⟨HO.out.le, (hb.block p (blk_lt HO.out.blk)).trans HO.out.blk, Kd.R_below HO.out.own hb⟩
    have hN1 := HF.out.n.below (HLO.out.trans (hb.mono hB))
    have hfar : FarB (some ⟨w.heap.size, 0, none⟩) (bytesOf x).length p v.ownBlock := by
      intro ad ha _
      obtain rfl := Option.some.inj ha
      exact ⟨fun e1 => by have h1 := blk_lt HO.out.blk; have h2 : w.heap.size = p := e1; omega, fun e1 => by have h1 := Kd.R_lt HO.out.own _ e1.symm; have h2 : w.heap.size < w.heap.size := h1; omega⟩
    have hs1 : w0.heap.size ≤ w1.heap.size := Nat.le_trans hB hb.size
    refine (blob_put w0.heap.size p w1 v bs e _ cx (bytesOf x) bb c1 c2 hN1 hC hfar hO1 hs1 hbs).mono ?_
    rintro r w2 ⟨rfl, hT2⟩
    have hT2' := hT2
    obtain ⟨v2, _, hk2, _, _⟩ := hT2'
    have hK2 : KeepBut w w2 p v.ownBlock := KeepBut.trans (KeepBut.of_below hb p v.ownBlock) hk2 (.inl rfl)
    exact ⟨rfl, OutTo.trans (KeepBut.of_below hb p v.ownBlock) (.inl rfl) (hb.mono hB) hs1 hT2, blk_cell (hK2.blk HFF.out.1 HNE.out.1.1 HNE.out.1.2) 0, blk_cell (hK2.blk HFF.out.2 HNE.out.2.1 HNE.out.2.2) 0⟩)
  go_enter Try.func93, Try.ntmps93
  go_region_held3 (fun w' => w'.cell? ⟨bf, 0, none⟩ = some (.func (.func 69) #[] #[.pointer (some ⟨bb, 0, none⟩)]) ∧ w'.cell? ⟨bt, 0, none⟩ = some (.func (.func 75) #[] #[])) (go_keep) (first
    | (go_at_call 75; go_loud ((with_reducible refine (text1_run x hx _).mono ?_); rintro r w1 ⟨cx, rfl, hC, hb⟩; have g0 : w1.cell? ⟨bf, 0, none⟩ = some (.func (.func 69) #[] #[.pointer (some ⟨bb, 0, none⟩)]) := blk_cell ((hb.block bf lf).trans HFF.out.1) 0; have g1 : w1.cell? ⟨bt, 0, none⟩ = some (.func (.func 75) #[] #[]) := blk_cell ((hb.block bt lt).trans HFF.out.2) 0; have HC := Aside0.mk hC; have HBB := Aside0.mk (show Below w.heap.size w w1 from (below_drew (Below.refl _ w)).trans hb); clear hC hb))
    | (go_at_call 69; go_loud (refine (HBL.out _ _ HC.out HBB.out).mono ?_; rintro r w2 ⟨rfl, hT2, g0, g1⟩; have HT2 := Aside0.mk hT2; clear hT2)))
  go_end0
  exact ⟨rfl, HT2.out⟩
end Go.Proofs.Ytdlkkjfbbeffbaa.P
