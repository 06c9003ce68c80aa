/- codec.Blob, Fixed, Both, turned: what is written, what is read; no statement of the seat. -/
import Derived.Test.YtdlkkjfbbeffbaaCodecB
import Derived.StillTailTactics
import Derived.WalkSpells
import Derived.Lib.SliceRun
set_option linter.unusedVariables false
set_option linter.unusedSimpArgs false
namespace Go.Proofs.Ytdlkkjfbbeffbaa.P
open Go.RowKit Go.Proofs.YtdlkkjfbbeffbaaW.PrintWords Go.Proofs.YtdlkkjfbbeffbaaW.PrintLast Go.Proofs.YtdlkkjfbbeffbaaW.PrintMore
/-- Bytes that lie in neither of two blocks. -/
def FarB (A : Option Addr) (n p : Nat) (row : Option Nat) : Prop := ∀ ad, A = some ad → 0 < n → ad.block ≠ p ∧ some ad.block ≠ row
theorem C_far {w W : World} {A : Option Addr} {n p : Nat} {row : Option Nat} {xs : List Int} (h : Kd.C (Kd.int .u8) w A n xs) (hk : KeepBut w W p row) (hf : FarB A n p row) : Kd.C (Kd.int .u8) W A n xs := by
  have hr := Kd.reads_of_C (d := (0 : Int)) (h1 := fun _ => rfl) h
  refine Kd.C_of_reads (h1 := fun _ => rfl) (d := (0 : Int)) ⟨hr.1, hr.2.1, fun hn => ?_⟩
  obtain ⟨ad, ha, hc⟩ := hr.2.2 hn
  refine ⟨ad, ha, fun j hj => ?_⟩
  have h1 := hc j hj
  have hb := World.block_lt_of_cell? w _ h1
  rw [← h1]
  obtain ⟨f1, f2⟩ := hf ad ha hn
  exact World.cell?_of_block (w := w) (hk.2 _ hb (by rw [add_block]; exact f1) (by rw [add_block]; exact f2))
theorem far_w0 {w0 w : World} {p : Nat} {v : Value} {bs : List Int} {e : Int} {A : Option Addr} {n : Nat} {xs : List Int} (h : Kd.C (Kd.int .u8) w0 A n xs) (ho : OutOK w w0.heap.size p v bs e) : FarB A n p v.ownBlock := by
  intro ad ha hn
  have hr := Kd.reads_of_C (d := (0 : Int)) (h1 := fun _ => rfl) h
  obtain ⟨ad', ha', hc⟩ := hr.2.2 hn
  rw [ha] at ha'
  obtain rfl := Option.some.inj ha'
  have hb := World.block_lt_of_cell? w0 _ (hc 0 hn)
  rw [add_block] at hb
  have h1 := ho.le
  exact ⟨by omega, fun e => by have := Kd.R_base ho.own _ e.symm; omega⟩
theorem keep_alloc_row {w W : World} {g : Nat} {row : Option Nat} (h : KeepBut w W g row) (o : Obj) : KeepBut w (W.alloc o) g row :=
  ⟨Nat.le_trans h.1 (by rw [World.size_alloc]; omega), fun i hi h1 h2 => (Below.heap_alloc W o i (Nat.lt_of_lt_of_le hi h.1)).trans (h.2 i hi h1 h2)⟩
structure BlobF (w : World) (bb c1 c2 : Nat) : Prop where
  c : w.heap[bb]? = some (.cells (numV c1 c2) 37 (0, 0))
  n : NumF w c1 c2 4 65536
theorem BlobF.below {w w1 : World} {bb c1 c2 : Nat} (h : BlobF w bb c1 c2) (hb : Below w.heap.size w w1) : BlobF w1 bb c1 c2 := ⟨blk_below h.c hb, h.n.below hb⟩
def blobS (s : List Int × Int) (ys : List Int) : List Int × Int := putS (numS s 4 65536 (ys.length : Int)) ys
set_option maxRecDepth 100000 in
set_option maxHeartbeats 4000000 in
theorem blob_put (B p : Nat) (w : World) (v : Value) (bs : List Int) (e : Int) (A : Option Addr) (c : Nat) (ys : List Int) (bb c1 c2 : Nat) (hF : BlobF w bb c1 c2) (hl : Kd.C (Kd.int .u8) w A ys.length ys) (hfar : FarB A ys.length p v.ownBlock) (h : OutOK w B p v bs e) (hB : B ≤ w.heap.size) (hbs : bs.length ≤ 1048576) :
    Calls Try.prog 69 #[.pointer (some ⟨p, 0, none⟩), .slice A ys.length c, .pointer (some ⟨bb, 0, none⟩)] w fun r w' => r = .returned (.tuple #[]) ∧ OutTo w B p v (blobS (bs, e) ys) w' := by
  have HO := Aside0.mk h
  have HL := Aside0.mk hl
  have HFA := Aside0.mk hfar
  have hmx := Kd.C_max hl
  have q0 : w.cell? ⟨bb, 0, none⟩ = some (.func (.func 86) #[] #[.pointer (some ⟨c1, 0, none⟩), .pointer (some ⟨c2, 0, none⟩)]) := blk_cell hF.c 0
  have HN := Aside0.mk hF.n
  clear h hl hF hfar
  go_enter Try.func69, Try.ntmps69
  go_wp2_with fail
  with_reducible refine (numput_run B p c1 c2 4 65536 v bs e (ys.length : Int) w HN.out HO.out hB hbs).mono ?_
  rintro r w1 ⟨rfl, hT⟩
  have HT := Aside0.mk hT
  obtain ⟨v1, hO1, hk1, ha1, hb1⟩ := hT
  have HO1 := Aside0.mk hO1
  have HX := Aside0.mk (And.intro hk1 (And.intro ha1 hb1))
  have HC1 := Aside0.mk (C_far HL.out hk1 HFA.out)
  have hs1 := hk1.1
  clear hO1 hk1 ha1 hb1 q0
  go_wp2_with fail
  refine (put_run B p v1 _ _ A c ys w1 HO1.out HC1.out (by omega) (numS_len (bs, e) 4 65536 _ hbs)).mono ?_
  rintro r w2 ⟨rfl, hT2⟩
  have HT2 := Aside0.mk hT2
  clear hT2
  go_wp2_with fail
  go_end0
  exact ⟨rfl, OutTo.trans HX.out.1 HX.out.2.1 HX.out.2.2 (by omega) HT2.out⟩
theorem InTo.past2 {w0 w w1 : World} {p : Nat} {s : List Int × Bool} (h : InTo w0 w p s w1) (hp : p < w.heap.size) {w2 : World} (hb : Below w.heap.size w1 w2) (h0 : w0.heap.size ≤ w.heap.size) : InTo w0 w p s w2 := by
  obtain ⟨⟨A, c, h1⟩, hk⟩ := h
  exact ⟨⟨A, c, h1.le, (hb.block p hp).trans h1.blk, h1.rd, h1.cap, h1.ok, h1.lo.trans (hb.mono h0)⟩, Nat.le_trans hk.1 hb.size, fun i hi h1 h2 => (hb.block i hi).trans (hk.2 i hi h1 h2)⟩
/-- A copy of bytes. -/
theorem empty_own (W : World) (B : Nat) (hB : B ≤ W.heap.size) : Kd.R (Kd.int .u8) 5 (W.alloc (.cells #[] 5)) B (fun _ => True) (.slice (some ⟨W.heap.size, 0, none⟩) 0 0) [] := by
  have h := own_lit_of (enc := Value.int .u8) W B 5 ([] : List Int) hB (by simp)
  exact Kd.R_of_own (h1 := fun _ => rfl) h (fun _ _ => trivial)
set_option maxRecDepth 100000 in
set_option maxHeartbeats 4000000 in
theorem clone_run (A : Option Addr) (c : Nat) (xs : List Int) (w : World) (hc : Kd.C (Kd.int .u8) w A xs.length xs) (hx : xs.length ≤ 140737488355328) :
    Calls Try.prog 72 #[.slice A xs.length c] w fun r w' => ∃ v : Value, r = .returned v ∧ Kd.R (Kd.int .u8) 5 w' w.heap.size (fun _ => True) v xs ∧ Below w.heap.size w w' := by
  have HC := Aside0.mk hc
  have hmx := Kd.C_max hc
  cases A with
  | none =>
    have hx0 : xs = [] := by
      cases xs with
      | nil => rfl
      | cons x l =>
        have hr := Kd.reads_of_C (d := (0 : Int)) (h1 := fun _ => rfl) hc
        obtain ⟨ad, ha, _⟩ := hr.2.2 (by simp)
        cases ha
    subst hx0
    clear hc
    have heq : ∀ W, (binOp .eql 40 (.slice none 0 c) (.slice none 0 0)).run Try.prog W = .ok (.bool true) W := fun W => Lib.run_eql_slice_nil W 40 5 none 0 c 0 0 Try.underlying40
    go_enter Try.func72, Try.ntmps72
    go_wp2_with fail
    go_ret
    exact ⟨_, rfl, Kd.R_nil _ _ _ _ _, Below.refl _ _⟩
  | some ad =>
    clear hc
    have heq : ∀ W, (binOp .eql 40 (.slice (some ad) xs.length c) (.slice none 0 0)).run Try.prog W = .ok (.bool false) W := fun W => Lib.run_eql_slice_nil W 40 5 (some ad) xs.length c 0 0 Try.underlying40
    go_enter Try.func72, Try.ntmps72
    go_wp2_with (refine Kd.R_append_rows (Kd.int .u8) (Rr := fun x cs => cs = [.int .u8 x]) (w0 := w) w.heap.size rfl (.tmp 5) (.tmp 6) 40 5 (.int .u8 0) 1 rfl Try.underlying40 (by kernel_rfl) rfl (by decide) (by decide) (.slice (some ⟨w.heap.size, 0, none⟩) 0 0) [] xs (some ad) xs.length c (fun _ => True) (fun _ => False) rfl rfl (empty_own w w.heap.size (Nat.le_refl _)) (Kd.C_alloc HC.out _) (fun _ _ h => h) (fun _ hk => hk.elim) (fun _ _ => trivial) ((Below.refl _ w).alloc (Nat.le_refl _) _) (by rw [World.size_alloc]; omega) (by simp; omega) ?_; intro v1 w1 ho hb1 hg hat; have HX := Aside0.mk (And.intro ho hb1); clear ho hb1 hg hat)
    go_ret
    exact ⟨_, rfl, HX.out.1, HX.out.2⟩
def blobG (s : List Int × Bool) : List Int × List Int × Bool := takeS (lowI s 4 65536).2 (lowI s 4 65536).1
theorem takeS_len (s : List Int × Bool) (n : Int) : (takeS s n).1.length ≤ s.1.length := by
  unfold takeS
  split
  · simp
  · simp only [List.length_take]; omega
theorem lowI_len (s : List Int × Bool) (a b : Int) : (lowI s a b).2.1.length ≤ s.1.length := by
  unfold lowI takeS
  dsimp only
  split
  · exact Nat.le_refl _
  · simp only [List.length_drop]; omega
theorem takeS_rest (s : List Int × Bool) (n : Int) : (takeS s n).2.1.length ≤ s.1.length := by
  unfold takeS
  split
  · exact Nat.le_refl _
  · simp only [List.length_drop]; omega
theorem InTo.len {w0 w w' : World} {p : Nat} {s : List Int × Bool} (h : InTo w0 w p s w') : ∃ A c, InOK w0 w' p A c s.1 s.2 := h.1
set_option maxRecDepth 100000 in
set_option maxHeartbeats 4000000 in
/-- take, and a copy of it. -/
theorem clone_take (w0 w : World) (p : Nat) (A1 : Option Addr) (c1 : Nat) (o : List Int) (s : List Int × Bool) (w1 : World) (hC : Kd.C (Kd.int .u8) w0 A1 o.length o) (hT : InTo w0 w p s w1) (ho : o.length ≤ 140737488355328) (hp : p < w.heap.size) (h0 : w0.heap.size ≤ w.heap.size) :
    Calls Try.prog 72 #[.slice A1 o.length c1] w1 fun r w' => ∃ v : Value, r = .returned v ∧ Kd.R (Kd.int .u8) 5 w' w.heap.size (fun _ => True) v o ∧ InTo w0 w p s w' := by
  obtain ⟨⟨A2, c2, hI⟩, hk⟩ := hT
  refine (clone_run A1 c1 o w1 (Kd.C_below hC hI.lo) ho).mono ?_
  rintro r w' ⟨v, hr, hR, hB⟩
  exact ⟨v, hr, Kd.R_lower hR hk.1, InTo.past2 ⟨⟨A2, c2, hI⟩, hk⟩ hp (hB.mono hk.1) h0⟩
set_option maxRecDepth 100000 in
set_option maxHeartbeats 4000000 in
theorem blob_get (w0 w : World) (p : Nat) (A : Option Addr) (c : Nat) (bs : List Int) (bad : Bool) (bb c1 c2 : Nat) (hF : BlobF w bb c1 c2) (h : InOK w0 w p A c bs bad) :
    Calls Try.prog 71 #[.pointer (some ⟨p, 0, none⟩), .pointer (some ⟨bb, 0, none⟩)] w fun r w' => ∃ v : Value, r = .returned v ∧ Kd.R (Kd.int .u8) 5 w' w.heap.size (fun _ => True) v (blobG (bs, bad)).1 ∧ InTo w0 w p (blobG (bs, bad)).2 w' := by
  have HI := Aside0.mk h
  have q0 : w.cell? ⟨bb, 1, none⟩ = some (.func (.func 88) #[] #[.pointer (some ⟨c1, 0, none⟩), .pointer (some ⟨c2, 0, none⟩)]) := blk_cell hF.c 1
  have HN := Aside0.mk hF.n
  have hp : p < w.heap.size := blk_lt h.blk
  have hbs : bs.length ≤ 140737488355328 := h.ok.2
  have hB := h.lo.size
  clear h hF
  go_enter Try.func71, Try.ntmps71
  go_wp2_with fail
  with_reducible refine (numget_run w0 w p c1 c2 4 65536 A c bs bad HN.out HI.out).mono ?_
  rintro r w1 ⟨rfl, hT⟩
  have HT := Aside0.mk hT
  obtain ⟨⟨A1, cc1, hI1⟩, hk1⟩ := hT
  have HI1 := Aside0.mk hI1
  clear hI1 hk1 q0
  have e4 : ((4 : Nat) : Int) = 4 := rfl
  simp only [e4] at HI1 HT ⊢
  go_wp2_with fail
  refine (take_run w0 w1 p A1 cc1 _ _ _ HI1.out).mono ?_
  rintro r w2 ⟨A3, c3, rfl, hC3, hcap, hT2⟩
  have HT2 := Aside0.mk (HT.out.bind hT2)
  have HC3 := Aside0.mk hC3
  clear hT2 hC3
  have hlen := Nat.le_trans (takeS_len (lowI (bs, bad) 4 65536).2 (lowI (bs, bad) 4 65536).1) (lowI_len (bs, bad) 4 65536)
  go_wp2_with fail
  refine (clone_take w0 w p A3 c3 _ _ w2 HC3.out HT2.out (Nat.le_trans hlen hbs) hp hB).mono ?_
  rintro r w3 ⟨v, rfl, hR, hT3⟩
  have HX := Aside0.mk (And.intro hR hT3)
  clear hR hT3
  go_wp2_with fail
  go_ret
  exact ⟨v, rfl, HX.out.1, HX.out.2⟩
/-- Just so many bytes. -/
structure FixF (w : World) (bm bn : Nat) (n : Int) : Prop where
  m : w.heap[bm]? = some (.cells #[.bool (decide (0 ≤ n) && decide (n ≤ 65536))] 4 (0, 0))
  n : w.heap[bn]? = some (.cells #[.int .i64 n] 3 (0, 0))
def mayN (n : Int) : Bool := decide (0 ≤ n) && decide (n ≤ 65536)
def fixS (n : Int) (s : List Int × Int) (ys : List Int) : List Int × Int := putS (if s.2 = 0 ∧ (mayN n = false ∨ (ys.length : Int) ≠ n) then (s.1, 1) else s) ys
theorem OutTo.of_set {w w2 : World} {B p : Nat} {v : Value} {bs : List Int} {e e' : Int} {s : List Int × Int} (h : OutOK w B p v bs e) (hB : B ≤ w.heap.size) (h2 : OutTo (w.setCell ⟨p, 1, none⟩ (.int .i64 e')) B p v s w2) : OutTo w B p v s w2 :=
  OutTo.trans ((KeepBut.refl _ _ _).set_ 1 _) (.inl rfl) ((Below.refl _ _).setCell (p := ⟨p, 1, none⟩) h.le _) (by rw [World.size_setCell]; exact hB) h2
theorem FarB.of_set {A : Option Addr} {n p : Nat} {row : Option Nat} {w : World} {xs : List Int} {u : Value} (h : Kd.C (Kd.int .u8) w A n xs) (hf : FarB A n p row) : Kd.C (Kd.int .u8) (w.setCell ⟨p, 1, none⟩ u) A n xs :=
  C_far (row := row) h ((KeepBut.refl _ _ _).set_ 1 _) hf
set_option maxRecDepth 100000 in
set_option maxHeartbeats 4000000 in
theorem fix_put (B p : Nat) (w : World) (v : Value) (bs : List Int) (e : Int) (A : Option Addr) (c : Nat) (ys : List Int) (bm bn : Nat) (n : Int) (hF : FixF w bm bn n) (hl : Kd.C (Kd.int .u8) w A ys.length ys) (hfar : FarB A ys.length p v.ownBlock) (h : OutOK w B p v bs e) (hB : B ≤ w.heap.size) (hbs : bs.length ≤ 1048576) :
    Calls Try.prog 79 #[.pointer (some ⟨p, 0, none⟩), .slice A ys.length c, .pointer (some ⟨bm, 0, none⟩), .pointer (some ⟨bn, 0, none⟩)] w fun r w' => r = .returned (.tuple #[]) ∧ OutTo w B p v (fixS n (bs, e) ys) w' := by
  have HO := Aside0.mk h
  have HL := Aside0.mk hl
  have HFA := Aside0.mk hfar
  have hmx := Kd.C_max hl
  have qm : w.cell? ⟨bm, 0, none⟩ = some (.bool (mayN n)) := blk_cell hF.m 0
  have qn : w.cell? ⟨bn, 0, none⟩ = some (.int .i64 n) := blk_cell hF.n 0
  have c1 : w.cell? ⟨p, 1, none⟩ = some (.int .i64 e) := blk_cell h.blk 1
  have f1 := blkO_free h.blk 1
  obtain ⟨m, hm⟩ : ∃ m, m = mayN n := ⟨_, rfl⟩
  rw [← hm] at qm
  have HM := Aside0.mk hm
  clear h hl hF hfar hm
  by_cases he : e = 0
  · subst he
    cases m
    · have hs : fixS n (bs, 0) ys = putS (bs, 1) ys := by unfold fixS; rw [if_pos ⟨rfl, .inl HM.out.symm⟩]
      rw [hs]
      clear hs
      go_enter Try.func79, Try.ntmps79
      go_wp2_with fail
      refine (put_run B p v bs 1 A c ys _ (HO.out.set' 1) (FarB.of_set HL.out HFA.out) (by rw [World.size_setCell]; exact hB) hbs).mono ?_
      rintro r w2 ⟨rfl, hT2⟩
      have HT2 := Aside0.mk hT2
      clear hT2
      go_wp2_with fail
      go_end0
      exact ⟨rfl, OutTo.of_set HO.out hB HT2.out⟩
    · by_cases hn : (ys.length : Int) = n
      · have hs : fixS n (bs, 0) ys = putS (bs, 0) ys := by unfold fixS; rw [if_neg (fun hh => hh.2.elim (fun h => by rw [← HM.out] at h; cases h) (fun h => h hn))]
        rw [hs]
        have hn1 : ((ys.length : Int) != n) = false := by simpa using hn
        have HNN := Aside0.mk hn
        clear hs hn
        go_enter Try.func79, Try.ntmps79
        go_wp2_with fail
        refine (put_run B p v bs 0 A c ys _ HO.out HL.out hB hbs).mono ?_
        rintro r w2 ⟨rfl, hT2⟩
        have HT2 := Aside0.mk hT2
        clear hT2
        go_wp2_with fail
        go_end0
        exact ⟨rfl, HT2.out⟩
      · have hs : fixS n (bs, 0) ys = putS (bs, 1) ys := by unfold fixS; rw [if_pos ⟨rfl, .inr hn⟩]
        rw [hs]
        have hn1 : ((ys.length : Int) != n) = true := by simpa using hn
        have hn2 : ((ys.length : Int) == n) = false := by simpa using hn
        clear hs hn
        go_enter Try.func79, Try.ntmps79
        go_wp2_with fail
        refine (put_run B p v bs 1 A c ys _ (HO.out.set' 1) (FarB.of_set HL.out HFA.out) (by rw [World.size_setCell]; exact hB) hbs).mono ?_
        rintro r w2 ⟨rfl, hT2⟩
        have HT2 := Aside0.mk hT2
        clear hT2
        go_wp2_with fail
        go_end0
        exact ⟨rfl, OutTo.of_set HO.out hB HT2.out⟩
  · have hs : fixS n (bs, e) ys = putS (bs, e) ys := by unfold fixS; rw [if_neg (by rintro ⟨h, _⟩; exact he h)]
    rw [hs]
    have he1 : (e == 0) = false := by simpa using he
    clear hs
    go_enter Try.func79, Try.ntmps79
    go_wp2_with fail
    refine (put_run B p v bs e A c ys _ HO.out HL.out hB hbs).mono ?_
    rintro r w2 ⟨rfl, hT2⟩
    have HT2 := Aside0.mk hT2
    clear hT2
    go_wp2_with fail
    go_end0
    exact ⟨rfl, HT2.out⟩
def fixG (n : Int) (s : List Int × Bool) : List Int × List Int × Bool := takeS (s.1, s.2 || !mayN n) n
set_option maxRecDepth 100000 in
set_option maxHeartbeats 4000000 in
theorem fix_get (w0 w : World) (p : Nat) (A : Option Addr) (c : Nat) (bs : List Int) (bad : Bool) (bm bn : Nat) (n : Int) (hF : FixF w bm bn n) (hbm : bm ≠ p) (hbn : bn ≠ p) (h : InOK w0 w p A c bs bad) :
    Calls Try.prog 80 #[.pointer (some ⟨p, 0, none⟩), .pointer (some ⟨bm, 0, none⟩), .pointer (some ⟨bn, 0, none⟩)] w fun r w' => ∃ v : Value, r = .returned v ∧ Kd.R (Kd.int .u8) 5 w' w.heap.size (fun _ => True) v (fixG n (bs, bad)).1 ∧ InTo w0 w p (fixG n (bs, bad)).2 w' := by
  have HI := Aside0.mk h
  have qm : w.cell? ⟨bm, 0, none⟩ = some (.bool (mayN n)) := blk_cell hF.m 0
  have qn : w.cell? ⟨bn, 0, none⟩ = some (.int .i64 n) := blk_cell hF.n 0
  have c1 : w.cell? ⟨p, 1, none⟩ = some (.bool bad) := blk_cell h.blk 1
  have f1 := blkO_free h.blk 1
  have hp : p < w.heap.size := blk_lt h.blk
  have hbs : bs.length ≤ 140737488355328 := h.ok.2
  have hB := h.lo.size
  have HSB := Aside0.mk (h.setBad (bad || !mayN n))
  obtain ⟨m, hm⟩ : ∃ m, m = mayN n := ⟨_, rfl⟩
  have HG := Aside0.mk (show fixG n (bs, bad) = takeS (bs, bad || !m) n by rw [hm]; rfl)
  rw [← hm] at qm HSB
  clear h hF hm
  have run : ∀ b' : Bool, (bad || !m) = b' → Calls Try.prog 80 #[.pointer (some ⟨p, 0, none⟩), .pointer (some ⟨bm, 0, none⟩), .pointer (some ⟨bn, 0, none⟩)] w fun r w' => ∃ v : Value, r = .returned v ∧ Kd.R (Kd.int .u8) 5 w' w.heap.size (fun _ => True) v (takeS (bs, b') n).1 ∧ InTo w0 w p (takeS (bs, b') n).2 w' := by
    intro b' hb'
    have HSB2 := Aside0.mk (show InTo w0 w p (bs, b') (w.setCell ⟨p, 1, none⟩ (.bool b')) by rw [← hb']; exact HSB.out)
    cases bad <;> cases m <;> (subst hb'; clear HSB HG; simp only [Bool.not_true, Bool.not_false, Bool.or_true, Bool.or_false, Bool.false_or, Bool.true_or] at HSB2 ⊢)
    all_goals
      have hI2 := HSB2.out.1
      obtain ⟨A2, c2, hI2⟩ := hI2
      have HI2 := Aside0.mk hI2
      clear hI2
      go_enter Try.func80, Try.ntmps80
      go_wp2_with fail
      refine (take_run w0 _ p A2 c2 _ _ _ HI2.out).mono ?_
      rintro r w2 ⟨A3, c3, rfl, hC3, hcap, hT2⟩
      have HT2 := Aside0.mk (HSB2.out.bind hT2)
      have HC3 := Aside0.mk hC3
      clear hT2 hC3
      have hlen := takeS_len (bs, false) n
      go_wp2_with fail
      refine (clone_take w0 w p A3 c3 _ _ w2 HC3.out HT2.out (Nat.le_trans (takeS_len _ _) hbs) hp hB).mono ?_
      rintro r w3 ⟨v, rfl, hR, hT3⟩
      have HX := Aside0.mk (And.intro hR hT3)
      clear hR hT3
      go_wp2_with fail
      go_ret
      exact ⟨v, rfl, HX.out.1, HX.out.2⟩
  rw [HG.out]
  exact run _ rfl
/-- A number and bytes. -/
structure BothF (w : World) (ba bb : Nat) (a1 a2 n : Nat) (most : Int) (bk c1 c2 : Nat) : Prop where
  a : w.heap[ba]? = some (.cells (numV a1 a2) 37 (0, 0))
  an : NumF w a1 a2 n most
  b : w.heap[bb]? = some (.cells #[.func (.func 69) #[] #[.pointer (some ⟨bk, 0, none⟩)], .func (.func 71) #[] #[.pointer (some ⟨bk, 0, none⟩)]] 86 (0, 0))
  bf : BlobF w bk c1 c2
theorem BothF.below {w w1 : World} {ba bb a1 a2 n : Nat} {most : Int} {bk c1 c2 : Nat} (h : BothF w ba bb a1 a2 n most bk c1 c2) (hb : Below w.heap.size w w1) : BothF w1 ba bb a1 a2 n most bk c1 c2 := ⟨blk_below h.a hb, h.an.below hb, blk_below h.b hb, h.bf.below hb⟩
abbrev PairS := Int × List Int
def bothS (n : Nat) (most : Int) (s : List Int × Int) (x : PairS) : List Int × Int := blobS (numS s n most x.1) x.2
def bothG (n : Nat) (most : Int) (s : List Int × Bool) : PairS × List Int × Bool := (((lowI s n most).1, (blobG (lowI s n most).2).1), (blobG (lowI s n most).2).2)
set_option maxRecDepth 100000 in
set_option maxHeartbeats 4000000 in
theorem both_put (w0 w : World) (p : Nat) (v : Value) (bs : List Int) (e : Int) (x : Int) (A : Option Addr) (c : Nat) (ys : List Int) (ba bb a1 a2 n : Nat) (most : Int) (bk c1 c2 : Nat) (hF : BothF w0 ba bb a1 a2 n most bk c1 c2) (hl : Kd.C (Kd.int .u8) w0 A ys.length ys) (hlo : Below w0.heap.size w0 w) (h : OutOK w w0.heap.size p v bs e) (hbs : bs.length ≤ 1048576) :
    Calls Try.prog 83 #[.pointer (some ⟨p, 0, none⟩), .agg #[.int .i64 x, .slice A ys.length c], .pointer (some ⟨ba, 0, none⟩), .pointer (some ⟨bb, 0, none⟩)] w fun r w' => r = .returned (.tuple #[]) ∧ OutTo w w0.heap.size p v (bothS n most (bs, e) (x, ys)) w' := by
  have HO := Aside0.mk (h.alloc (.cells #[.int .i64 x, .slice A ys.length c] 100))
  have HO0 := Aside0.mk h
  have HL := Aside0.mk hl
  have HF := Aside0.mk hF
  have hmx := Kd.C_max hl
  have HLO := Aside0.mk (hlo.alloc hlo.size (.cells #[.int .i64 x, .slice A ys.length c] 100))
  have HLO0 := Aside0.mk hlo
  have hF1 := hF.below hlo
  have q0 : w.cell? ⟨ba, 0, none⟩ = some (.func (.func 86) #[] #[.pointer (some ⟨a1, 0, none⟩), .pointer (some ⟨a2, 0, none⟩)]) := blk_cell hF1.a 0
  have hlt0 : ba < w.heap.size := blk_lt hF1.a
  have hB := hlo.size
  clear h hl hF hlo hF1
  go_enter Try.func83, Try.ntmps83
  go_wp2_with fail
  refine (numput_run w0.heap.size p a1 a2 n most v bs e x _ (HF.out.an.below HLO.out) HO.out (by rw [World.size_alloc]; omega) hbs).mono ?_
  rintro r w1 ⟨rfl, hT⟩
  have HT := Aside0.mk hT
  obtain ⟨v1, hO1, hk1, ha1, hb1⟩ := hT
  have hF2 := HF.out.below (HLO.out.trans hb1)
  have q1 : w1.cell? ⟨bb, 0, none⟩ = some (.func (.func 69) #[] #[.pointer (some ⟨bk, 0, none⟩)]) := blk_cell hF2.b 0
  have hx : w1.heap[w.heap.size]? = some (.cells #[.int .i64 x, .slice A ys.length c] 100 (0, 0)) := by
    have hp := blk_lt HO0.out.blk
    refine hk1.blk (blk_new w _) (by omega) (fun e => ?_)
    have := Kd.R_lt HO0.out.own _ e.symm
    omega
  have x0 : w1.cell? ⟨w.heap.size, 0, none⟩ = some (.int .i64 x) := blk_cell hx 0
  have x1 : w1.cell? ⟨w.heap.size, 1, none⟩ = some (.slice A ys.length c) := blk_cell hx 1
  have HX := Aside0.mk (And.intro hO1 (And.intro hk1 (And.intro ha1 hb1)))
  have HBF := Aside0.mk hF2.bf
  have hs1 := hk1.1
  rw [World.size_alloc] at hs1
  clear hO1 hk1 ha1 hb1 q0 hF2 hx
  go_wp2_with fail
  refine (blob_put w0.heap.size p w1 v1 _ _ A c ys bk c1 c2 HBF.out (Kd.C_below HL.out (HLO.out.trans HX.out.2.2.2)) (far_w0 HL.out HX.out.1) HX.out.1 (by omega) (numS_len (bs, e) n most x hbs)).mono ?_
  rintro r w2 ⟨rfl, hT2⟩
  have HT2 := Aside0.mk hT2
  clear hT2
  go_wp2_with fail
  go_end0
  refine ⟨rfl, ?_⟩
  have h2 := OutTo.trans HX.out.2.1 HX.out.2.2.1 HX.out.2.2.2 (by omega) HT2.out
  exact OutTo.trans (keep_alloc_row (KeepBut.refl _ _ _) _) (.inl rfl) ((Below.refl _ _).alloc hB _) (by rw [World.size_alloc]; omega) h2
end Go.Proofs.Ytdlkkjfbbeffbaa.P
