/- codec.First, Decode; no statement of the seat. -/
import Derived.Test.YtdlkkjfbbeffbaaCodecH
set_option linter.unusedVariables false
set_option linter.unusedSimpArgs false
namespace Go.Proofs.Ytdlkkjfbbeffbaa.P
open Go.RowKit Go.Proofs.YtdlkkjfbbeffbaaW.PrintWords Go.Proofs.YtdlkkjfbbeffbaaW.PrintLast Go.Proofs.YtdlkkjfbbeffbaaW.PrintMore
/-- What a beginning is, and how long its code. -/
def fstR {α : Type} (G : List Int × Bool → α × List Int × Bool) (z : α) (b : List Int) : α × Int × Int :=
  if ((G (b, false)).2.2 || decide ((b.length : Int) - ((G (b, false)).2.1.length : Int) > 1048576)) = true then (z, 0, 10) else ((G (b, false)).1, (b.length : Int) - ((G (b, false)).2.1.length : Int), 0)
def decR {α : Type} (G : List Int × Bool → α × List Int × Bool) (z : α) (b : List Int) : α × Int :=
  if (fstR G z b).2.2 ≠ 0 then (z, (fstR G z b).2.2) else if (fstR G z b).2.1 < b.length then (z, 10) else ((fstR G z b).1, 0)
theorem InTo.drewN {w0 w w' : World} {p : Nat} {s : List Int × Bool} (h : InTo w0 w p s w') (m : Nat) : InTo w0 w p s (w'.drewN m) := by
  obtain ⟨⟨A, c, h1⟩, hk⟩ := h
  exact ⟨⟨A, c, h1.le, h1.blk, h1.rd, h1.cap, h1.ok, pw_below_drewN h1.lo m⟩, keep_drewN hk m⟩
set_option maxRecDepth 100000 in
set_option maxHeartbeats 400000 in
theorem text_get (w0 w : World) (p : Nat) (A : Option Addr) (c : Nat) (bs : List Int) (bad : Bool) (bf bt bk bb c1 c2 : Nat) (hF : TextF w0 bf bt bk bb c1 c2) (h : InOK w0 w p A c bs bad) :
    Calls Try.prog 94 #[.pointer (some ⟨p, 0, none⟩), .pointer (some ⟨bk, 0, none⟩), .pointer (some ⟨bf, 0, none⟩)] w fun r w' => r = .returned (.string (textG (bs, bad)).1) ∧ InTo w0 w p (textG (bs, bad)).2 w' := by
  have HI := Aside0.mk h
  have HF := Aside0.mk hF
  have hF1 := hF.below h.lo
  have q0 : w.cell? ⟨bf, 1, none⟩ = some (.func (.func 71) #[] #[.pointer (some ⟨bb, 0, none⟩)]) := blk_cell hF1.f 1
  have q1 : w.cell? ⟨bk, 0, none⟩ = some (.func (.func 76) #[] #[]) := blk_cell hF1.k 0
  have HD := Aside0.mk HI.out.drew
  have hk0 := And.intro hF1.k (blk_ne hF1.k h.blk (by decide))
  have hf0 := And.intro hF1.f (blk_ne hF1.f h.blk (by decide))
  have HBK := Aside0.mk (And.intro hk0 hf0)
  have HNR := Aside0.mk (show Calls Try.prog 71 #[.pointer (some ⟨p, 0, none⟩), .pointer (some ⟨bb, 0, none⟩)] w.drew fun r w' => ∃ A1 c1', r = .returned (.slice A1 (blobG (bs, bad)).1.length c1') ∧ Kd.C (Kd.int .u8) w' A1 (blobG (bs, bad)).1.length (blobG (bs, bad)).1 ∧ (blobG (bs, bad)).1.length ≤ c1' ∧ InTo w0 w p (blobG (bs, bad)).2 w' ∧ w'.cell? ⟨bk, 0, none⟩ = some (.func (.func 76) #[] #[]) ∧ w'.cell? ⟨bf, 1, none⟩ = some (.func (.func 71) #[] #[.pointer (some ⟨bb, 0, none⟩)]) by
    refine (blob_get w0 w.drew p A c bs bad bb c1 c2 (HF.out.n.below HD.out.lo) HD.out).mono ?_
    rintro r w' ⟨v, rfl, hR, hT⟩
    obtain ⟨A1, c1', hv, hcap, hC⟩ := Kd.R_reads hR
    subst hv
    exact ⟨A1, c1', rfl, hC, hcap, hT, blk_cell (hT.2.blk HBK.out.1.1 HBK.out.1.2 (by simp)) 0, blk_cell (hT.2.blk HBK.out.2.1 HBK.out.2.2 (by simp)) 1⟩)
  obtain ⟨g, hg⟩ : ∃ g, g = blobG (bs, bad) := ⟨_, rfl⟩
  have HG := Aside0.mk (show textG (bs, bad) = (strOfNums g.1, g.2) by rw [hg]; rfl)
  rw [← hg] at HNR
  have HTX := Aside0.mk (fun (A1 : Option Addr) (c1' : Nat) (W : World) (hC : Kd.C (Kd.int .u8) W A1 g.1.length g.1) (hcap : g.1.length ≤ c1') => codec_Text_2.calls A1 c1' g.1 (strOfNums g.1) W hC hcap rfl)
  clear h hF hF1 hk0 hf0 hg
  go_enter Try.func94, Try.ntmps94
  go_upto_region 1 with (fail)
  go_region_held3 (fun w' => w'.cell? ⟨bk, 0, none⟩ = some (.func (.func 76) #[] #[]) ∧ w'.cell? ⟨bf, 1, none⟩ = some (.func (.func 71) #[] #[.pointer (some ⟨bb, 0, none⟩)])) (go_keep) (first
    | (go_at_call 71; go_loud ((with_reducible refine HNR.out.mono ?_); rintro r w1 ⟨A1, c1', rfl, hC, hcap, hT, g0, g1⟩; have HT := Aside0.mk hT; have HC := Aside0.mk (And.intro hC hcap); clear hT hC hcap))
    | (go_at_call 76; go_loud ((with_reducible refine (HTX.out _ _ _ HC.out.1 HC.out.2).mono ?_); rintro r w2 ⟨rfl, hd⟩; obtain ⟨m, rfl⟩ := hd.out)))
  go_wp2_with fail
  go_ret
  rw [HG.out]
  exact ⟨rfl, HT.out.drewN m⟩
set_option maxRecDepth 100000 in
set_option maxHeartbeats 400000 in
theorem fst_I (w : World) (f1 f2 n : Nat) (most : Int) (hf : NumF w f1 f2 n most) (A : Option Addr) (c : Nat) (b : List Int) (hx : Kd.C (Kd.int .u8) w A b.length b) (hc : b.length ≤ c) (hok : okL b) :
    Calls Try.prog 28 #[.agg #[(.func (.func 86) #[] #[.pointer (some ⟨f1, 0, none⟩), .pointer (some ⟨f2, 0, none⟩)]), (.func (.func 88) #[] #[.pointer (some ⟨f1, 0, none⟩), .pointer (some ⟨f2, 0, none⟩)])], .slice A b.length c] w fun r w' => ∃ v : Value, r = .returned (.tuple #[v, .int .i64 (fstR (fun s => lowI s n most) 0 b).2.1, .int .i64 (fstR (fun s => lowI s n most) 0 b).2.2]) ∧ (v = .int .i64 (fstR (fun s => lowI s n most) 0 b).1) ∧ Below w.heap.size w w' := by
  have hnn : ∀ W, (binOp .eql 35 (.func (.func 88) #[] #[.pointer (some ⟨f1, 0, none⟩), .pointer (some ⟨f2, 0, none⟩)]) .nilFunc).run Try.prog W = .ok (.bool false) W := fun _ => by kernel_rfl
  have hb1 : Below w.heap.size w (w.alloc (.cells #[(.func (.func 86) #[] #[.pointer (some ⟨f1, 0, none⟩), .pointer (some ⟨f2, 0, none⟩)]), (.func (.func 88) #[] #[.pointer (some ⟨f1, 0, none⟩), .pointer (some ⟨f2, 0, none⟩)])] 37)) := below_alloc (Below.refl _ _) _
  have hlo : Below (w.alloc (.cells #[(.func (.func 86) #[] #[.pointer (some ⟨f1, 0, none⟩), .pointer (some ⟨f2, 0, none⟩)]), (.func (.func 88) #[] #[.pointer (some ⟨f1, 0, none⟩), .pointer (some ⟨f2, 0, none⟩)])] 37)).heap.size (w.alloc (.cells #[(.func (.func 86) #[] #[.pointer (some ⟨f1, 0, none⟩), .pointer (some ⟨f2, 0, none⟩)]), (.func (.func 88) #[] #[.pointer (some ⟨f1, 0, none⟩), .pointer (some ⟨f2, 0, none⟩)])] 37)) ((w.alloc (.cells #[(.func (.func 86) #[] #[.pointer (some ⟨f1, 0, none⟩), .pointer (some ⟨f2, 0, none⟩)]), (.func (.func 88) #[] #[.pointer (some ⟨f1, 0, none⟩), .pointer (some ⟨f2, 0, none⟩)])] 37)).alloc (.cells #[.slice A b.length c, .bool false] 124)) := below_alloc (Below.refl _ _) _
  have hI : InOK (w.alloc (.cells #[(.func (.func 86) #[] #[.pointer (some ⟨f1, 0, none⟩), .pointer (some ⟨f2, 0, none⟩)]), (.func (.func 88) #[] #[.pointer (some ⟨f1, 0, none⟩), .pointer (some ⟨f2, 0, none⟩)])] 37)) ((w.alloc (.cells #[(.func (.func 86) #[] #[.pointer (some ⟨f1, 0, none⟩), .pointer (some ⟨f2, 0, none⟩)]), (.func (.func 88) #[] #[.pointer (some ⟨f1, 0, none⟩), .pointer (some ⟨f2, 0, none⟩)])] 37)).alloc (.cells #[.slice A b.length c, .bool false] 124)) (w.alloc (.cells #[(.func (.func 86) #[] #[.pointer (some ⟨f1, 0, none⟩), .pointer (some ⟨f2, 0, none⟩)]), (.func (.func 88) #[] #[.pointer (some ⟨f1, 0, none⟩), .pointer (some ⟨f2, 0, none⟩)])] 37)).heap.size A c b false := ⟨Nat.le_refl _, blk_new _ _, Kd.C_below hx hb1, hc, hok, hlo⟩
  have hget := numget_run (w.alloc (.cells #[(.func (.func 86) #[] #[.pointer (some ⟨f1, 0, none⟩), .pointer (some ⟨f2, 0, none⟩)]), (.func (.func 88) #[] #[.pointer (some ⟨f1, 0, none⟩), .pointer (some ⟨f2, 0, none⟩)])] 37)) ((w.alloc (.cells #[(.func (.func 86) #[] #[.pointer (some ⟨f1, 0, none⟩), .pointer (some ⟨f2, 0, none⟩)]), (.func (.func 88) #[] #[.pointer (some ⟨f1, 0, none⟩), .pointer (some ⟨f2, 0, none⟩)])] 37)).alloc (.cells #[.slice A b.length c, .bool false] 124)) (w.alloc (.cells #[(.func (.func 86) #[] #[.pointer (some ⟨f1, 0, none⟩), .pointer (some ⟨f2, 0, none⟩)]), (.func (.func 88) #[] #[.pointer (some ⟨f1, 0, none⟩), .pointer (some ⟨f2, 0, none⟩)])] 37)).heap.size f1 f2 n most A c b false ((hf.below hb1).below hlo) hI
  have hmx := Kd.C_max hx
  obtain ⟨g, hg⟩ : ∃ g, g = (fun s => lowI s n most) (b, false) := ⟨_, rfl⟩
  have HF := Aside0.mk (show fstR (fun s => lowI s n most) 0 b = if (g.2.2 || decide ((b.length : Int) - (g.2.1.length : Int) > 1048576)) = true then (0, 0, 10) else (g.1, (b.length : Int) - (g.2.1.length : Int), 0) by rw [hg]; rfl)
  have hg2 : lowI (b, false) ↑n most = g := hg.symm
  rw [hg2] at hget
  simp only [World.size_alloc] at hget
  have HG := Aside0.mk hget
  clear hget hg hlo hI hb1 hx hf
  go_enter Try.func28, Try.ntmps28
  go_wp2_with fail
  with_reducible refine HG.out.mono ?_
  rintro r w2 ⟨rfl, hT⟩
  obtain ⟨⟨A', c', hI'⟩, hk'⟩ := hT
  obtain ⟨x, b2, bd⟩ := g
  dsimp only at *
  have hmx2 := Kd.C_max hI'.rd
  have c0 : w2.cell? ⟨w.heap.size + 1, 0, none⟩ = some (.slice A' b2.length c') := by have h := blk_cell hI'.blk 0; (try simp only [World.size_alloc] at h); exact h
  have c1 : w2.cell? ⟨w.heap.size + 1, 1, none⟩ = some (.bool bd) := by have h := blk_cell hI'.blk 1; (try simp only [World.size_alloc] at h); exact h
  have HB := Aside0.mk (show Below w.heap.size w w2 from (below_alloc (Below.refl _ _) _).trans (hI'.lo.mono (by first | omega | (simp only [World.size_alloc]; omega))))
  clear hI' hk'
  
  by_cases hb : bd = true
  · subst hb
    go_wp2_with fail
    go_ret3
    rw [HF.out]
    exact ⟨_, rfl, rfl, HB.out⟩
  · obtain rfl : bd = false := by cases bd <;> simp_all
    by_cases hn : (b.length : Int) - (b2.length : Int) > 1048576
    · have hn' : (1048576 : Int) < (b.length : Int) - (b2.length : Int) := hn
      go_wp2_with fail
      go_ret3
      rw [HF.out, decide_eq_true hn, Bool.false_or, if_pos rfl]
      exact ⟨_, rfl, rfl, HB.out⟩
    · have hn' : (b.length : Int) - (b2.length : Int) ≤ 1048576 := by omega
      go_wp2_with fail
      go_ret3
      rw [HF.out, decide_eq_false (Int.not_lt.mpr hn'), Bool.false_or, if_neg (by decide)]
      exact ⟨_, rfl, rfl, HB.out⟩
set_option maxRecDepth 100000 in
set_option maxHeartbeats 400000 in
theorem dec_I (w : World) (f1 f2 n : Nat) (most : Int) (hf : NumF w f1 f2 n most) (A : Option Addr) (c : Nat) (b : List Int) (hx : Kd.C (Kd.int .u8) w A b.length b) (hc : b.length ≤ c) (hok : okL b) :
    Calls Try.prog 26 #[.agg #[(.func (.func 86) #[] #[.pointer (some ⟨f1, 0, none⟩), .pointer (some ⟨f2, 0, none⟩)]), (.func (.func 88) #[] #[.pointer (some ⟨f1, 0, none⟩), .pointer (some ⟨f2, 0, none⟩)])], .slice A b.length c] w fun r w' => ∃ v : Value, r = .returned (.tuple #[v, .int .i64 (decR (fun s => lowI s n most) 0 b).2]) ∧ (v = .int .i64 (decR (fun s => lowI s n most) 0 b).1) ∧ Below w.heap.size w w' := by
  have hb1 : Below w.heap.size w (w.alloc (.cells #[(.func (.func 86) #[] #[.pointer (some ⟨f1, 0, none⟩), .pointer (some ⟨f2, 0, none⟩)]), (.func (.func 88) #[] #[.pointer (some ⟨f1, 0, none⟩), .pointer (some ⟨f2, 0, none⟩)])] 37)) := below_alloc (Below.refl _ _) _
  have hfst := fst_I (w.alloc (.cells #[(.func (.func 86) #[] #[.pointer (some ⟨f1, 0, none⟩), .pointer (some ⟨f2, 0, none⟩)]), (.func (.func 88) #[] #[.pointer (some ⟨f1, 0, none⟩), .pointer (some ⟨f2, 0, none⟩)])] 37)) f1 f2 n most (hf.below hb1) A c b (Kd.C_below hx hb1) hc hok
  have hmx := Kd.C_max hx
  obtain ⟨g, hg⟩ : ∃ g, g = fstR (fun s => lowI s n most) 0 b := ⟨_, rfl⟩
  have HD := Aside0.mk (show decR (fun s => lowI s n most) 0 b = if g.2.2 ≠ 0 then (0, g.2.2) else if g.2.1 < b.length then (0, 10) else (g.1, 0) by rw [hg]; rfl)
  rw [← hg] at hfst
  have HG := Aside0.mk hfst
  clear hfst hg hb1 hx hf
  go_enter Try.func26, Try.ntmps26
  go_wp2_with fail
  with_reducible refine HG.out.mono ?_
  rintro r w2 ⟨v, rfl, hv, hb2⟩
  obtain ⟨x, n, e⟩ := g
  dsimp only at *
  have HB := Aside0.mk (show Below w.heap.size w w2 from (below_alloc (Below.refl _ _) _).trans (hb2.mono (by first | omega | (simp only [World.size_alloc]; omega))))
  have HV := Aside0.mk hv
  clear hv hb2
  by_cases he : e = 0
  · subst he
    by_cases hn : n < b.length
    · go_wp2_with fail
      go_ret2
      rw [HD.out, if_neg (by simp), if_pos hn]
      exact ⟨_, rfl, rfl, HB.out⟩
    · have hn' : (b.length : Int) ≤ n := by omega
      go_wp2_with fail
      go_ret2
      rw [HD.out, if_neg (by simp), if_neg (Int.not_lt.mpr hn')]
      exact ⟨_, rfl, HV.out, HB.out⟩
  · have he1 : (e != 0) = true := by simpa using he
    have he2 : (e == 0) = false := by simpa using he
    have HE := Aside0.mk he
    clear he
    go_wp2_with fail
    go_ret2
    rw [HD.out, if_pos HE.out]
    exact ⟨_, rfl, rfl, HB.out⟩
set_option maxRecDepth 100000 in
set_option maxHeartbeats 400000 in
theorem fst_Bo (w : World) (bf bt bk a1 a2 : Nat) (hf : FlagF w bf bt bk a1 a2) (A : Option Addr) (c : Nat) (b : List Int) (hx : Kd.C (Kd.int .u8) w A b.length b) (hc : b.length ≤ c) (hok : okL b) :
    Calls Try.prog 34 #[.agg #[(.func (.func 90) #[] #[.pointer (some ⟨bf, 0, none⟩), .pointer (some ⟨bt, 0, none⟩)]), (.func (.func 91) #[] #[.pointer (some ⟨bk, 0, none⟩), .pointer (some ⟨bf, 0, none⟩)])], .slice A b.length c] w fun r w' => ∃ v : Value, r = .returned (.tuple #[v, .int .i64 (fstR flagG false b).2.1, .int .i64 (fstR flagG false b).2.2]) ∧ (v = .bool (fstR flagG false b).1) ∧ Below w.heap.size w w' := by
  have hnn : ∀ W, (binOp .eql 68 (.func (.func 91) #[] #[.pointer (some ⟨bk, 0, none⟩), .pointer (some ⟨bf, 0, none⟩)]) .nilFunc).run Try.prog W = .ok (.bool false) W := fun _ => by kernel_rfl
  have hb1 : Below w.heap.size w (w.alloc (.cells #[(.func (.func 90) #[] #[.pointer (some ⟨bf, 0, none⟩), .pointer (some ⟨bt, 0, none⟩)]), (.func (.func 91) #[] #[.pointer (some ⟨bk, 0, none⟩), .pointer (some ⟨bf, 0, none⟩)])] 70)) := below_alloc (Below.refl _ _) _
  have hlo : Below (w.alloc (.cells #[(.func (.func 90) #[] #[.pointer (some ⟨bf, 0, none⟩), .pointer (some ⟨bt, 0, none⟩)]), (.func (.func 91) #[] #[.pointer (some ⟨bk, 0, none⟩), .pointer (some ⟨bf, 0, none⟩)])] 70)).heap.size (w.alloc (.cells #[(.func (.func 90) #[] #[.pointer (some ⟨bf, 0, none⟩), .pointer (some ⟨bt, 0, none⟩)]), (.func (.func 91) #[] #[.pointer (some ⟨bk, 0, none⟩), .pointer (some ⟨bf, 0, none⟩)])] 70)) ((w.alloc (.cells #[(.func (.func 90) #[] #[.pointer (some ⟨bf, 0, none⟩), .pointer (some ⟨bt, 0, none⟩)]), (.func (.func 91) #[] #[.pointer (some ⟨bk, 0, none⟩), .pointer (some ⟨bf, 0, none⟩)])] 70)).alloc (.cells #[.slice A b.length c, .bool false] 124)) := below_alloc (Below.refl _ _) _
  have hI : InOK (w.alloc (.cells #[(.func (.func 90) #[] #[.pointer (some ⟨bf, 0, none⟩), .pointer (some ⟨bt, 0, none⟩)]), (.func (.func 91) #[] #[.pointer (some ⟨bk, 0, none⟩), .pointer (some ⟨bf, 0, none⟩)])] 70)) ((w.alloc (.cells #[(.func (.func 90) #[] #[.pointer (some ⟨bf, 0, none⟩), .pointer (some ⟨bt, 0, none⟩)]), (.func (.func 91) #[] #[.pointer (some ⟨bk, 0, none⟩), .pointer (some ⟨bf, 0, none⟩)])] 70)).alloc (.cells #[.slice A b.length c, .bool false] 124)) (w.alloc (.cells #[(.func (.func 90) #[] #[.pointer (some ⟨bf, 0, none⟩), .pointer (some ⟨bt, 0, none⟩)]), (.func (.func 91) #[] #[.pointer (some ⟨bk, 0, none⟩), .pointer (some ⟨bf, 0, none⟩)])] 70)).heap.size A c b false := ⟨Nat.le_refl _, blk_new _ _, Kd.C_below hx hb1, hc, hok, hlo⟩
  have hget := flag_get (w.alloc (.cells #[(.func (.func 90) #[] #[.pointer (some ⟨bf, 0, none⟩), .pointer (some ⟨bt, 0, none⟩)]), (.func (.func 91) #[] #[.pointer (some ⟨bk, 0, none⟩), .pointer (some ⟨bf, 0, none⟩)])] 70)) ((w.alloc (.cells #[(.func (.func 90) #[] #[.pointer (some ⟨bf, 0, none⟩), .pointer (some ⟨bt, 0, none⟩)]), (.func (.func 91) #[] #[.pointer (some ⟨bk, 0, none⟩), .pointer (some ⟨bf, 0, none⟩)])] 70)).alloc (.cells #[.slice A b.length c, .bool false] 124)) (w.alloc (.cells #[(.func (.func 90) #[] #[.pointer (some ⟨bf, 0, none⟩), .pointer (some ⟨bt, 0, none⟩)]), (.func (.func 91) #[] #[.pointer (some ⟨bk, 0, none⟩), .pointer (some ⟨bf, 0, none⟩)])] 70)).heap.size A c b false bf bt bk a1 a2 (hf.below hb1) hI
  have hmx := Kd.C_max hx
  obtain ⟨g, hg⟩ : ∃ g, g = flagG (b, false) := ⟨_, rfl⟩
  have HF := Aside0.mk (show fstR flagG false b = if (g.2.2 || decide ((b.length : Int) - (g.2.1.length : Int) > 1048576)) = true then (false, 0, 10) else (g.1, (b.length : Int) - (g.2.1.length : Int), 0) by rw [hg]; rfl)
  have hg2 : flagG (b, false) = g := hg.symm
  rw [hg2] at hget
  simp only [World.size_alloc] at hget
  have HG := Aside0.mk hget
  clear hget hg hlo hI hb1 hx hf
  go_enter Try.func34, Try.ntmps34
  go_wp2_with fail
  with_reducible refine HG.out.mono ?_
  rintro r w2 ⟨rfl, hT⟩
  obtain ⟨⟨A', c', hI'⟩, hk'⟩ := hT
  obtain ⟨x, b2, bd⟩ := g
  dsimp only at *
  have hmx2 := Kd.C_max hI'.rd
  have c0 : w2.cell? ⟨w.heap.size + 1, 0, none⟩ = some (.slice A' b2.length c') := by have h := blk_cell hI'.blk 0; (try simp only [World.size_alloc] at h); exact h
  have c1 : w2.cell? ⟨w.heap.size + 1, 1, none⟩ = some (.bool bd) := by have h := blk_cell hI'.blk 1; (try simp only [World.size_alloc] at h); exact h
  have HB := Aside0.mk (show Below w.heap.size w w2 from (below_alloc (Below.refl _ _) _).trans (hI'.lo.mono (by first | omega | (simp only [World.size_alloc]; omega))))
  clear hI' hk'
  
  by_cases hb : bd = true
  · subst hb
    go_wp2_with fail
    go_ret3
    rw [HF.out]
    exact ⟨_, rfl, rfl, HB.out⟩
  · obtain rfl : bd = false := by cases bd <;> simp_all
    by_cases hn : (b.length : Int) - (b2.length : Int) > 1048576
    · have hn' : (1048576 : Int) < (b.length : Int) - (b2.length : Int) := hn
      go_wp2_with fail
      go_ret3
      rw [HF.out, decide_eq_true hn, Bool.false_or, if_pos rfl]
      exact ⟨_, rfl, rfl, HB.out⟩
    · have hn' : (b.length : Int) - (b2.length : Int) ≤ 1048576 := by omega
      go_wp2_with fail
      go_ret3
      rw [HF.out, decide_eq_false (Int.not_lt.mpr hn'), Bool.false_or, if_neg (by decide)]
      exact ⟨_, rfl, rfl, HB.out⟩
set_option maxRecDepth 100000 in
set_option maxHeartbeats 400000 in
theorem dec_Bo (w : World) (bf bt bk a1 a2 : Nat) (hf : FlagF w bf bt bk a1 a2) (A : Option Addr) (c : Nat) (b : List Int) (hx : Kd.C (Kd.int .u8) w A b.length b) (hc : b.length ≤ c) (hok : okL b) :
    Calls Try.prog 32 #[.agg #[(.func (.func 90) #[] #[.pointer (some ⟨bf, 0, none⟩), .pointer (some ⟨bt, 0, none⟩)]), (.func (.func 91) #[] #[.pointer (some ⟨bk, 0, none⟩), .pointer (some ⟨bf, 0, none⟩)])], .slice A b.length c] w fun r w' => ∃ v : Value, r = .returned (.tuple #[v, .int .i64 (decR flagG false b).2]) ∧ (v = .bool (decR flagG false b).1) ∧ Below w.heap.size w w' := by
  have hb1 : Below w.heap.size w (w.alloc (.cells #[(.func (.func 90) #[] #[.pointer (some ⟨bf, 0, none⟩), .pointer (some ⟨bt, 0, none⟩)]), (.func (.func 91) #[] #[.pointer (some ⟨bk, 0, none⟩), .pointer (some ⟨bf, 0, none⟩)])] 70)) := below_alloc (Below.refl _ _) _
  have hfst := fst_Bo (w.alloc (.cells #[(.func (.func 90) #[] #[.pointer (some ⟨bf, 0, none⟩), .pointer (some ⟨bt, 0, none⟩)]), (.func (.func 91) #[] #[.pointer (some ⟨bk, 0, none⟩), .pointer (some ⟨bf, 0, none⟩)])] 70)) bf bt bk a1 a2 (hf.below hb1) A c b (Kd.C_below hx hb1) hc hok
  have hmx := Kd.C_max hx
  obtain ⟨g, hg⟩ : ∃ g, g = fstR flagG false b := ⟨_, rfl⟩
  have HD := Aside0.mk (show decR flagG false b = if g.2.2 ≠ 0 then (false, g.2.2) else if g.2.1 < b.length then (false, 10) else (g.1, 0) by rw [hg]; rfl)
  rw [← hg] at hfst
  have HG := Aside0.mk hfst
  clear hfst hg hb1 hx hf
  go_enter Try.func32, Try.ntmps32
  go_wp2_with fail
  with_reducible refine HG.out.mono ?_
  rintro r w2 ⟨v, rfl, hv, hb2⟩
  obtain ⟨x, n, e⟩ := g
  dsimp only at *
  have HB := Aside0.mk (show Below w.heap.size w w2 from (below_alloc (Below.refl _ _) _).trans (hb2.mono (by first | omega | (simp only [World.size_alloc]; omega))))
  have HV := Aside0.mk hv
  clear hv hb2
  by_cases he : e = 0
  · subst he
    by_cases hn : n < b.length
    · go_wp2_with fail
      go_ret2
      rw [HD.out, if_neg (by simp), if_pos hn]
      exact ⟨_, rfl, rfl, HB.out⟩
    · have hn' : (b.length : Int) ≤ n := by omega
      go_wp2_with fail
      go_ret2
      rw [HD.out, if_neg (by simp), if_neg (Int.not_lt.mpr hn')]
      exact ⟨_, rfl, HV.out, HB.out⟩
  · have he1 : (e != 0) = true := by simpa using he
    have he2 : (e == 0) = false := by simpa using he
    have HE := Aside0.mk he
    clear he
    go_wp2_with fail
    go_ret2
    rw [HD.out, if_pos HE.out]
    exact ⟨_, rfl, rfl, HB.out⟩
set_option maxRecDepth 100000 in
set_option maxHeartbeats 400000 in
theorem fst_L (w : World) (bc bf c1 c2 f1 f2 n : Nat) (most : Int) (hM : ManyF w bc bf c1 c2 37 (numV f1 f2)) (hf : NumF w f1 f2 n most) (A : Option Addr) (c : Nat) (b : List Int) (hx : Kd.C (Kd.int .u8) w A b.length b) (hc : b.length ≤ c) (hok : okL b) :
    Calls Try.prog 18 #[.agg #[(.func (.func 56) #[] #[.pointer (some ⟨bc, 0, none⟩), .pointer (some ⟨bf, 0, none⟩)]), (.func (.func 57) #[] #[.pointer (some ⟨bc, 0, none⟩), .pointer (some ⟨bf, 0, none⟩)])], .slice A b.length c] w fun r w' => ∃ v : Value, r = .returned (.tuple #[v, .int .i64 (fstR (manyR (fun s => lowI s n most)) [] b).2.1, .int .i64 (fstR (manyR (fun s => lowI s n most)) [] b).2.2]) ∧ (Kd.R (Kd.int .i64) 3 w' w.heap.size (fun _ => True) v (fstR (manyR (fun s => lowI s n most)) [] b).1) ∧ Below w.heap.size w w' := by
  have hnn : ∀ W, (binOp .eql 30 (.func (.func 57) #[] #[.pointer (some ⟨bc, 0, none⟩), .pointer (some ⟨bf, 0, none⟩)]) .nilFunc).run Try.prog W = .ok (.bool false) W := fun _ => by kernel_rfl
  have hb1 : Below w.heap.size w (w.alloc (.cells #[(.func (.func 56) #[] #[.pointer (some ⟨bc, 0, none⟩), .pointer (some ⟨bf, 0, none⟩)]), (.func (.func 57) #[] #[.pointer (some ⟨bc, 0, none⟩), .pointer (some ⟨bf, 0, none⟩)])] 32)) := below_alloc (Below.refl _ _) _
  have hlo : Below (w.alloc (.cells #[(.func (.func 56) #[] #[.pointer (some ⟨bc, 0, none⟩), .pointer (some ⟨bf, 0, none⟩)]), (.func (.func 57) #[] #[.pointer (some ⟨bc, 0, none⟩), .pointer (some ⟨bf, 0, none⟩)])] 32)).heap.size (w.alloc (.cells #[(.func (.func 56) #[] #[.pointer (some ⟨bc, 0, none⟩), .pointer (some ⟨bf, 0, none⟩)]), (.func (.func 57) #[] #[.pointer (some ⟨bc, 0, none⟩), .pointer (some ⟨bf, 0, none⟩)])] 32)) ((w.alloc (.cells #[(.func (.func 56) #[] #[.pointer (some ⟨bc, 0, none⟩), .pointer (some ⟨bf, 0, none⟩)]), (.func (.func 57) #[] #[.pointer (some ⟨bc, 0, none⟩), .pointer (some ⟨bf, 0, none⟩)])] 32)).alloc (.cells #[.slice A b.length c, .bool false] 124)) := below_alloc (Below.refl _ _) _
  have hI : InOK (w.alloc (.cells #[(.func (.func 56) #[] #[.pointer (some ⟨bc, 0, none⟩), .pointer (some ⟨bf, 0, none⟩)]), (.func (.func 57) #[] #[.pointer (some ⟨bc, 0, none⟩), .pointer (some ⟨bf, 0, none⟩)])] 32)) ((w.alloc (.cells #[(.func (.func 56) #[] #[.pointer (some ⟨bc, 0, none⟩), .pointer (some ⟨bf, 0, none⟩)]), (.func (.func 57) #[] #[.pointer (some ⟨bc, 0, none⟩), .pointer (some ⟨bf, 0, none⟩)])] 32)).alloc (.cells #[.slice A b.length c, .bool false] 124)) (w.alloc (.cells #[(.func (.func 56) #[] #[.pointer (some ⟨bc, 0, none⟩), .pointer (some ⟨bf, 0, none⟩)]), (.func (.func 57) #[] #[.pointer (some ⟨bc, 0, none⟩), .pointer (some ⟨bf, 0, none⟩)])] 32)).heap.size A c b false := ⟨Nat.le_refl _, blk_new _ _, Kd.C_below hx hb1, hc, hok, hlo⟩
  have hget := manyI_get (w.alloc (.cells #[(.func (.func 56) #[] #[.pointer (some ⟨bc, 0, none⟩), .pointer (some ⟨bf, 0, none⟩)]), (.func (.func 57) #[] #[.pointer (some ⟨bc, 0, none⟩), .pointer (some ⟨bf, 0, none⟩)])] 32)) ((w.alloc (.cells #[(.func (.func 56) #[] #[.pointer (some ⟨bc, 0, none⟩), .pointer (some ⟨bf, 0, none⟩)]), (.func (.func 57) #[] #[.pointer (some ⟨bc, 0, none⟩), .pointer (some ⟨bf, 0, none⟩)])] 32)).alloc (.cells #[.slice A b.length c, .bool false] 124)) (w.alloc (.cells #[(.func (.func 56) #[] #[.pointer (some ⟨bc, 0, none⟩), .pointer (some ⟨bf, 0, none⟩)]), (.func (.func 57) #[] #[.pointer (some ⟨bc, 0, none⟩), .pointer (some ⟨bf, 0, none⟩)])] 32)).heap.size A c b false bc bf c1 c2 f1 f2 n most (hM.below hb1) (hf.below hb1) hI
  have hmx := Kd.C_max hx
  obtain ⟨g, hg⟩ : ∃ g, g = (manyR (fun s => lowI s n most)) (b, false) := ⟨_, rfl⟩
  have HF := Aside0.mk (show fstR (manyR (fun s => lowI s n most)) [] b = if (g.2.2 || decide ((b.length : Int) - (g.2.1.length : Int) > 1048576)) = true then ([], 0, 10) else (g.1, (b.length : Int) - (g.2.1.length : Int), 0) by rw [hg]; rfl)
  have hg2 : manyR (fun s => lowI s ↑n most) (b, false) = g := hg.symm
  rw [hg2] at hget
  simp only [World.size_alloc] at hget
  have HG := Aside0.mk hget
  clear hget hg hlo hI hb1 hx hM hf
  go_enter Try.func18, Try.ntmps18
  go_wp2_with fail
  with_reducible refine HG.out.mono ?_
  rintro r w2 ⟨v, rfl, hR, hT⟩
  obtain ⟨⟨A', c', hI'⟩, hk'⟩ := hT
  obtain ⟨x, b2, bd⟩ := g
  dsimp only at *
  have hmx2 := Kd.C_max hI'.rd
  have c0 : w2.cell? ⟨w.heap.size + 1, 0, none⟩ = some (.slice A' b2.length c') := by have h := blk_cell hI'.blk 0; (try simp only [World.size_alloc] at h); exact h
  have c1 : w2.cell? ⟨w.heap.size + 1, 1, none⟩ = some (.bool bd) := by have h := blk_cell hI'.blk 1; (try simp only [World.size_alloc] at h); exact h
  have HB := Aside0.mk (show Below w.heap.size w w2 from (below_alloc (Below.refl _ _) _).trans (hI'.lo.mono (by first | omega | (simp only [World.size_alloc]; omega))))
  clear hI' hk'
  have HR := Aside0.mk hR
  clear hR
  by_cases hb : bd = true
  · subst hb
    go_wp2_with fail
    go_ret3
    rw [HF.out]
    exact ⟨_, rfl, Kd.R_nil _ _ _ _ _, HB.out⟩
  · obtain rfl : bd = false := by cases bd <;> simp_all
    by_cases hn : (b.length : Int) - (b2.length : Int) > 1048576
    · have hn' : (1048576 : Int) < (b.length : Int) - (b2.length : Int) := hn
      go_wp2_with fail
      go_ret3
      rw [HF.out, decide_eq_true hn, Bool.false_or, if_pos rfl]
      exact ⟨_, rfl, Kd.R_nil _ _ _ _ _, HB.out⟩
    · have hn' : (b.length : Int) - (b2.length : Int) ≤ 1048576 := by omega
      go_wp2_with fail
      go_ret3
      rw [HF.out, decide_eq_false (Int.not_lt.mpr hn'), Bool.false_or, if_neg (by decide)]
      exact ⟨_, rfl, Kd.R_lower HR.out (by first | omega | (simp only [World.size_alloc]; omega)), HB.out⟩
set_option maxRecDepth 100000 in
set_option maxHeartbeats 400000 in
theorem fst_LL (w : World) (bc bf c1 c2 dc df d1 d2 f1 f2 n : Nat) (most : Int) (hM : ManyF w bc bf c1 c2 32 (manyV dc df)) (hN : ManyF w dc df d1 d2 37 (numV f1 f2)) (hf : NumF w f1 f2 n most) (A : Option Addr) (c : Nat) (b : List Int) (hx : Kd.C (Kd.int .u8) w A b.length b) (hc : b.length ≤ c) (hok : okL b) :
    Calls Try.prog 59 #[.agg #[(.func (.func 54) #[] #[.pointer (some ⟨bc, 0, none⟩), .pointer (some ⟨bf, 0, none⟩)]), (.func (.func 55) #[] #[.pointer (some ⟨bc, 0, none⟩), .pointer (some ⟨bf, 0, none⟩)])], .slice A b.length c] w fun r w' => ∃ v : Value, r = .returned (.tuple #[v, .int .i64 (fstR (manyR (manyR (fun s => lowI s n most))) [] b).2.1, .int .i64 (fstR (manyR (manyR (fun s => lowI s n most))) [] b).2.2]) ∧ (Kd.R (Kd.slice 3 (Kd.int .i64)) 28 w' w.heap.size (fun _ => True) v (fstR (manyR (manyR (fun s => lowI s n most))) [] b).1) ∧ Below w.heap.size w w' := by
  have hnn : ∀ W, (binOp .eql 24 (.func (.func 55) #[] #[.pointer (some ⟨bc, 0, none⟩), .pointer (some ⟨bf, 0, none⟩)]) .nilFunc).run Try.prog W = .ok (.bool false) W := fun _ => by kernel_rfl
  have hb1 : Below w.heap.size w (w.alloc (.cells #[(.func (.func 54) #[] #[.pointer (some ⟨bc, 0, none⟩), .pointer (some ⟨bf, 0, none⟩)]), (.func (.func 55) #[] #[.pointer (some ⟨bc, 0, none⟩), .pointer (some ⟨bf, 0, none⟩)])] 26)) := below_alloc (Below.refl _ _) _
  have hlo : Below (w.alloc (.cells #[(.func (.func 54) #[] #[.pointer (some ⟨bc, 0, none⟩), .pointer (some ⟨bf, 0, none⟩)]), (.func (.func 55) #[] #[.pointer (some ⟨bc, 0, none⟩), .pointer (some ⟨bf, 0, none⟩)])] 26)).heap.size (w.alloc (.cells #[(.func (.func 54) #[] #[.pointer (some ⟨bc, 0, none⟩), .pointer (some ⟨bf, 0, none⟩)]), (.func (.func 55) #[] #[.pointer (some ⟨bc, 0, none⟩), .pointer (some ⟨bf, 0, none⟩)])] 26)) ((w.alloc (.cells #[(.func (.func 54) #[] #[.pointer (some ⟨bc, 0, none⟩), .pointer (some ⟨bf, 0, none⟩)]), (.func (.func 55) #[] #[.pointer (some ⟨bc, 0, none⟩), .pointer (some ⟨bf, 0, none⟩)])] 26)).alloc (.cells #[.slice A b.length c, .bool false] 124)) := below_alloc (Below.refl _ _) _
  have hI : InOK (w.alloc (.cells #[(.func (.func 54) #[] #[.pointer (some ⟨bc, 0, none⟩), .pointer (some ⟨bf, 0, none⟩)]), (.func (.func 55) #[] #[.pointer (some ⟨bc, 0, none⟩), .pointer (some ⟨bf, 0, none⟩)])] 26)) ((w.alloc (.cells #[(.func (.func 54) #[] #[.pointer (some ⟨bc, 0, none⟩), .pointer (some ⟨bf, 0, none⟩)]), (.func (.func 55) #[] #[.pointer (some ⟨bc, 0, none⟩), .pointer (some ⟨bf, 0, none⟩)])] 26)).alloc (.cells #[.slice A b.length c, .bool false] 124)) (w.alloc (.cells #[(.func (.func 54) #[] #[.pointer (some ⟨bc, 0, none⟩), .pointer (some ⟨bf, 0, none⟩)]), (.func (.func 55) #[] #[.pointer (some ⟨bc, 0, none⟩), .pointer (some ⟨bf, 0, none⟩)])] 26)).heap.size A c b false := ⟨Nat.le_refl _, blk_new _ _, Kd.C_below hx hb1, hc, hok, hlo⟩
  have hget := manyJ_get (w.alloc (.cells #[(.func (.func 54) #[] #[.pointer (some ⟨bc, 0, none⟩), .pointer (some ⟨bf, 0, none⟩)]), (.func (.func 55) #[] #[.pointer (some ⟨bc, 0, none⟩), .pointer (some ⟨bf, 0, none⟩)])] 26)) ((w.alloc (.cells #[(.func (.func 54) #[] #[.pointer (some ⟨bc, 0, none⟩), .pointer (some ⟨bf, 0, none⟩)]), (.func (.func 55) #[] #[.pointer (some ⟨bc, 0, none⟩), .pointer (some ⟨bf, 0, none⟩)])] 26)).alloc (.cells #[.slice A b.length c, .bool false] 124)) (w.alloc (.cells #[(.func (.func 54) #[] #[.pointer (some ⟨bc, 0, none⟩), .pointer (some ⟨bf, 0, none⟩)]), (.func (.func 55) #[] #[.pointer (some ⟨bc, 0, none⟩), .pointer (some ⟨bf, 0, none⟩)])] 26)).heap.size A c b false bc bf c1 c2 dc df d1 d2 f1 f2 n most (hM.below hb1) ⟨hN.below hb1, hf.below hb1⟩ hI
  have hmx := Kd.C_max hx
  obtain ⟨g, hg⟩ : ∃ g, g = (manyR (manyR (fun s => lowI s n most))) (b, false) := ⟨_, rfl⟩
  have HF := Aside0.mk (show fstR (manyR (manyR (fun s => lowI s n most))) [] b = if (g.2.2 || decide ((b.length : Int) - (g.2.1.length : Int) > 1048576)) = true then ([], 0, 10) else (g.1, (b.length : Int) - (g.2.1.length : Int), 0) by rw [hg]; rfl)
  have hg2 : manyR (manyR (fun s => lowI s ↑n most)) (b, false) = g := hg.symm
  rw [hg2] at hget
  simp only [World.size_alloc] at hget
  have HG := Aside0.mk hget
  clear hget hg hlo hI hb1 hx hM hN hf
  go_enter Try.func59, Try.ntmps59
  go_wp2_with fail
  with_reducible refine HG.out.mono ?_
  rintro r w2 ⟨v, rfl, hR, hT⟩
  obtain ⟨⟨A', c', hI'⟩, hk'⟩ := hT
  obtain ⟨x, b2, bd⟩ := g
  dsimp only at *
  have hmx2 := Kd.C_max hI'.rd
  have c0 : w2.cell? ⟨w.heap.size + 1, 0, none⟩ = some (.slice A' b2.length c') := by have h := blk_cell hI'.blk 0; (try simp only [World.size_alloc] at h); exact h
  have c1 : w2.cell? ⟨w.heap.size + 1, 1, none⟩ = some (.bool bd) := by have h := blk_cell hI'.blk 1; (try simp only [World.size_alloc] at h); exact h
  have HB := Aside0.mk (show Below w.heap.size w w2 from (below_alloc (Below.refl _ _) _).trans (hI'.lo.mono (by first | omega | (simp only [World.size_alloc]; omega))))
  clear hI' hk'
  have HR := Aside0.mk hR
  clear hR
  by_cases hb : bd = true
  · subst hb
    go_wp2_with fail
    go_ret3
    rw [HF.out]
    exact ⟨_, rfl, Kd.R_nil _ _ _ _ _, HB.out⟩
  · obtain rfl : bd = false := by cases bd <;> simp_all
    by_cases hn : (b.length : Int) - (b2.length : Int) > 1048576
    · have hn' : (1048576 : Int) < (b.length : Int) - (b2.length : Int) := hn
      go_wp2_with fail
      go_ret3
      rw [HF.out, decide_eq_true hn, Bool.false_or, if_pos rfl]
      exact ⟨_, rfl, Kd.R_nil _ _ _ _ _, HB.out⟩
    · have hn' : (b.length : Int) - (b2.length : Int) ≤ 1048576 := by omega
      go_wp2_with fail
      go_ret3
      rw [HF.out, decide_eq_false (Int.not_lt.mpr hn'), Bool.false_or, if_neg (by decide)]
      exact ⟨_, rfl, Kd.R_lower HR.out (by first | omega | (simp only [World.size_alloc]; omega)), HB.out⟩
set_option maxRecDepth 100000 in
set_option maxHeartbeats 400000 in
theorem dec_LL (w : World) (bc bf c1 c2 dc df d1 d2 f1 f2 n : Nat) (most : Int) (hM : ManyF w bc bf c1 c2 32 (manyV dc df)) (hN : ManyF w dc df d1 d2 37 (numV f1 f2)) (hf : NumF w f1 f2 n most) (A : Option Addr) (c : Nat) (b : List Int) (hx : Kd.C (Kd.int .u8) w A b.length b) (hc : b.length ≤ c) (hok : okL b) :
    Calls Try.prog 17 #[.agg #[(.func (.func 54) #[] #[.pointer (some ⟨bc, 0, none⟩), .pointer (some ⟨bf, 0, none⟩)]), (.func (.func 55) #[] #[.pointer (some ⟨bc, 0, none⟩), .pointer (some ⟨bf, 0, none⟩)])], .slice A b.length c] w fun r w' => ∃ v : Value, r = .returned (.tuple #[v, .int .i64 (decR (manyR (manyR (fun s => lowI s n most))) [] b).2]) ∧ (Kd.R (Kd.slice 3 (Kd.int .i64)) 28 w' w.heap.size (fun _ => True) v (decR (manyR (manyR (fun s => lowI s n most))) [] b).1) ∧ Below w.heap.size w w' := by
  have hb1 : Below w.heap.size w (w.alloc (.cells #[(.func (.func 54) #[] #[.pointer (some ⟨bc, 0, none⟩), .pointer (some ⟨bf, 0, none⟩)]), (.func (.func 55) #[] #[.pointer (some ⟨bc, 0, none⟩), .pointer (some ⟨bf, 0, none⟩)])] 26)) := below_alloc (Below.refl _ _) _
  have hfst := fst_LL (w.alloc (.cells #[(.func (.func 54) #[] #[.pointer (some ⟨bc, 0, none⟩), .pointer (some ⟨bf, 0, none⟩)]), (.func (.func 55) #[] #[.pointer (some ⟨bc, 0, none⟩), .pointer (some ⟨bf, 0, none⟩)])] 26)) bc bf c1 c2 dc df d1 d2 f1 f2 n most (hM.below hb1) (hN.below hb1) (hf.below hb1) A c b (Kd.C_below hx hb1) hc hok
  have hmx := Kd.C_max hx
  obtain ⟨g, hg⟩ : ∃ g, g = fstR (manyR (manyR (fun s => lowI s n most))) [] b := ⟨_, rfl⟩
  have HD := Aside0.mk (show decR (manyR (manyR (fun s => lowI s n most))) [] b = if g.2.2 ≠ 0 then ([], g.2.2) else if g.2.1 < b.length then ([], 10) else (g.1, 0) by rw [hg]; rfl)
  rw [← hg] at hfst
  have HG := Aside0.mk hfst
  clear hfst hg hb1 hx hM hN hf
  go_enter Try.func17, Try.ntmps17
  go_wp2_with fail
  with_reducible refine HG.out.mono ?_
  rintro r w2 ⟨v, rfl, hv, hb2⟩
  obtain ⟨x, n, e⟩ := g
  dsimp only at *
  have HB := Aside0.mk (show Below w.heap.size w w2 from (below_alloc (Below.refl _ _) _).trans (hb2.mono (by first | omega | (simp only [World.size_alloc]; omega))))
  have HV := Aside0.mk hv
  clear hv hb2
  by_cases he : e = 0
  · subst he
    by_cases hn : n < b.length
    · go_wp2_with fail
      go_ret2
      rw [HD.out, if_neg (by simp), if_pos hn]
      exact ⟨_, rfl, Kd.R_nil _ _ _ _ _, HB.out⟩
    · have hn' : (b.length : Int) ≤ n := by omega
      go_wp2_with fail
      go_ret2
      rw [HD.out, if_neg (by simp), if_neg (Int.not_lt.mpr hn')]
      exact ⟨_, rfl, Kd.R_lower HV.out (by first | omega | (simp only [World.size_alloc]; omega)), HB.out⟩
  · have he1 : (e != 0) = true := by simpa using he
    have he2 : (e == 0) = false := by simpa using he
    have HE := Aside0.mk he
    clear he
    go_wp2_with fail
    go_ret2
    rw [HD.out, if_pos HE.out]
    exact ⟨_, rfl, Kd.R_nil _ _ _ _ _, HB.out⟩
set_option maxRecDepth 100000 in
set_option maxHeartbeats 400000 in
theorem fst_P (w : World) (bc bf c1 c2 ba bb a1 a2 n : Nat) (most : Int) (bk e1 e2 : Nat) (hM : ManyF w bc bf c1 c2 109 (bothV ba bb)) (hf : BothF w ba bb a1 a2 n most bk e1 e2) (A : Option Addr) (c : Nat) (b : List Int) (hx : Kd.C (Kd.int .u8) w A b.length b) (hc : b.length ≤ c) (hok : okL b) :
    Calls Try.prog 52 #[.agg #[(.func (.func 81) #[] #[.pointer (some ⟨bc, 0, none⟩), .pointer (some ⟨bf, 0, none⟩)]), (.func (.func 82) #[] #[.pointer (some ⟨bc, 0, none⟩), .pointer (some ⟨bf, 0, none⟩)])], .slice A b.length c] w fun r w' => ∃ v : Value, r = .returned (.tuple #[v, .int .i64 (fstR (manyR (bothG n most)) [] b).2.1, .int .i64 (fstR (manyR (bothG n most)) [] b).2.2]) ∧ (Kd.R kP 100 w' w.heap.size (fun _ => True) v (fstR (manyR (bothG n most)) [] b).1) ∧ Below w.heap.size w w' := by
  have hnn : ∀ W, (binOp .eql 102 (.func (.func 82) #[] #[.pointer (some ⟨bc, 0, none⟩), .pointer (some ⟨bf, 0, none⟩)]) .nilFunc).run Try.prog W = .ok (.bool false) W := fun _ => by kernel_rfl
  have hb1 : Below w.heap.size w (w.alloc (.cells #[(.func (.func 81) #[] #[.pointer (some ⟨bc, 0, none⟩), .pointer (some ⟨bf, 0, none⟩)]), (.func (.func 82) #[] #[.pointer (some ⟨bc, 0, none⟩), .pointer (some ⟨bf, 0, none⟩)])] 104)) := below_alloc (Below.refl _ _) _
  have hlo : Below (w.alloc (.cells #[(.func (.func 81) #[] #[.pointer (some ⟨bc, 0, none⟩), .pointer (some ⟨bf, 0, none⟩)]), (.func (.func 82) #[] #[.pointer (some ⟨bc, 0, none⟩), .pointer (some ⟨bf, 0, none⟩)])] 104)).heap.size (w.alloc (.cells #[(.func (.func 81) #[] #[.pointer (some ⟨bc, 0, none⟩), .pointer (some ⟨bf, 0, none⟩)]), (.func (.func 82) #[] #[.pointer (some ⟨bc, 0, none⟩), .pointer (some ⟨bf, 0, none⟩)])] 104)) ((w.alloc (.cells #[(.func (.func 81) #[] #[.pointer (some ⟨bc, 0, none⟩), .pointer (some ⟨bf, 0, none⟩)]), (.func (.func 82) #[] #[.pointer (some ⟨bc, 0, none⟩), .pointer (some ⟨bf, 0, none⟩)])] 104)).alloc (.cells #[.slice A b.length c, .bool false] 124)) := below_alloc (Below.refl _ _) _
  have hI : InOK (w.alloc (.cells #[(.func (.func 81) #[] #[.pointer (some ⟨bc, 0, none⟩), .pointer (some ⟨bf, 0, none⟩)]), (.func (.func 82) #[] #[.pointer (some ⟨bc, 0, none⟩), .pointer (some ⟨bf, 0, none⟩)])] 104)) ((w.alloc (.cells #[(.func (.func 81) #[] #[.pointer (some ⟨bc, 0, none⟩), .pointer (some ⟨bf, 0, none⟩)]), (.func (.func 82) #[] #[.pointer (some ⟨bc, 0, none⟩), .pointer (some ⟨bf, 0, none⟩)])] 104)).alloc (.cells #[.slice A b.length c, .bool false] 124)) (w.alloc (.cells #[(.func (.func 81) #[] #[.pointer (some ⟨bc, 0, none⟩), .pointer (some ⟨bf, 0, none⟩)]), (.func (.func 82) #[] #[.pointer (some ⟨bc, 0, none⟩), .pointer (some ⟨bf, 0, none⟩)])] 104)).heap.size A c b false := ⟨Nat.le_refl _, blk_new _ _, Kd.C_below hx hb1, hc, hok, hlo⟩
  have hget := manyP_get (w.alloc (.cells #[(.func (.func 81) #[] #[.pointer (some ⟨bc, 0, none⟩), .pointer (some ⟨bf, 0, none⟩)]), (.func (.func 82) #[] #[.pointer (some ⟨bc, 0, none⟩), .pointer (some ⟨bf, 0, none⟩)])] 104)) ((w.alloc (.cells #[(.func (.func 81) #[] #[.pointer (some ⟨bc, 0, none⟩), .pointer (some ⟨bf, 0, none⟩)]), (.func (.func 82) #[] #[.pointer (some ⟨bc, 0, none⟩), .pointer (some ⟨bf, 0, none⟩)])] 104)).alloc (.cells #[.slice A b.length c, .bool false] 124)) (w.alloc (.cells #[(.func (.func 81) #[] #[.pointer (some ⟨bc, 0, none⟩), .pointer (some ⟨bf, 0, none⟩)]), (.func (.func 82) #[] #[.pointer (some ⟨bc, 0, none⟩), .pointer (some ⟨bf, 0, none⟩)])] 104)).heap.size A c b false bc bf c1 c2 ba bb a1 a2 n most bk e1 e2 (hM.below hb1) (hf.below hb1) hI
  have hmx := Kd.C_max hx
  obtain ⟨g, hg⟩ : ∃ g, g = (manyR (bothG n most)) (b, false) := ⟨_, rfl⟩
  have HF := Aside0.mk (show fstR (manyR (bothG n most)) [] b = if (g.2.2 || decide ((b.length : Int) - (g.2.1.length : Int) > 1048576)) = true then ([], 0, 10) else (g.1, (b.length : Int) - (g.2.1.length : Int), 0) by rw [hg]; rfl)
  have hg2 : manyR (bothG n most) (b, false) = g := hg.symm
  rw [hg2] at hget
  simp only [World.size_alloc] at hget
  have HG := Aside0.mk hget
  clear hget hg hlo hI hb1 hx hM hf
  go_enter Try.func52, Try.ntmps52
  go_wp2_with fail
  with_reducible refine HG.out.mono ?_
  rintro r w2 ⟨v, rfl, hR, hT⟩
  obtain ⟨⟨A', c', hI'⟩, hk'⟩ := hT
  obtain ⟨x, b2, bd⟩ := g
  dsimp only at *
  have hmx2 := Kd.C_max hI'.rd
  have c0 : w2.cell? ⟨w.heap.size + 1, 0, none⟩ = some (.slice A' b2.length c') := by have h := blk_cell hI'.blk 0; (try simp only [World.size_alloc] at h); exact h
  have c1 : w2.cell? ⟨w.heap.size + 1, 1, none⟩ = some (.bool bd) := by have h := blk_cell hI'.blk 1; (try simp only [World.size_alloc] at h); exact h
  have HB := Aside0.mk (show Below w.heap.size w w2 from (below_alloc (Below.refl _ _) _).trans (hI'.lo.mono (by first | omega | (simp only [World.size_alloc]; omega))))
  clear hI' hk'
  have HR := Aside0.mk hR
  clear hR
  by_cases hb : bd = true
  · subst hb
    go_wp2_with fail
    go_ret3
    rw [HF.out]
    exact ⟨_, rfl, Kd.R_nil _ _ _ _ _, HB.out⟩
  · obtain rfl : bd = false := by cases bd <;> simp_all
    by_cases hn : (b.length : Int) - (b2.length : Int) > 1048576
    · have hn' : (1048576 : Int) < (b.length : Int) - (b2.length : Int) := hn
      go_wp2_with fail
      go_ret3
      rw [HF.out, decide_eq_true hn, Bool.false_or, if_pos rfl]
      exact ⟨_, rfl, Kd.R_nil _ _ _ _ _, HB.out⟩
    · have hn' : (b.length : Int) - (b2.length : Int) ≤ 1048576 := by omega
      go_wp2_with fail
      go_ret3
      rw [HF.out, decide_eq_false (Int.not_lt.mpr hn'), Bool.false_or, if_neg (by decide)]
      exact ⟨_, rfl, Kd.R_lower HR.out (by first | omega | (simp only [World.size_alloc]; omega)), HB.out⟩
set_option maxRecDepth 100000 in
set_option maxHeartbeats 400000 in
theorem dec_P (w : World) (bc bf c1 c2 ba bb a1 a2 n : Nat) (most : Int) (bk e1 e2 : Nat) (hM : ManyF w bc bf c1 c2 109 (bothV ba bb)) (hf : BothF w ba bb a1 a2 n most bk e1 e2) (A : Option Addr) (c : Nat) (b : List Int) (hx : Kd.C (Kd.int .u8) w A b.length b) (hc : b.length ≤ c) (hok : okL b) :
    Calls Try.prog 49 #[.agg #[(.func (.func 81) #[] #[.pointer (some ⟨bc, 0, none⟩), .pointer (some ⟨bf, 0, none⟩)]), (.func (.func 82) #[] #[.pointer (some ⟨bc, 0, none⟩), .pointer (some ⟨bf, 0, none⟩)])], .slice A b.length c] w fun r w' => ∃ v : Value, r = .returned (.tuple #[v, .int .i64 (decR (manyR (bothG n most)) [] b).2]) ∧ (Kd.R kP 100 w' w.heap.size (fun _ => True) v (decR (manyR (bothG n most)) [] b).1) ∧ Below w.heap.size w w' := by
  have hb1 : Below w.heap.size w (w.alloc (.cells #[(.func (.func 81) #[] #[.pointer (some ⟨bc, 0, none⟩), .pointer (some ⟨bf, 0, none⟩)]), (.func (.func 82) #[] #[.pointer (some ⟨bc, 0, none⟩), .pointer (some ⟨bf, 0, none⟩)])] 104)) := below_alloc (Below.refl _ _) _
  have hfst := fst_P (w.alloc (.cells #[(.func (.func 81) #[] #[.pointer (some ⟨bc, 0, none⟩), .pointer (some ⟨bf, 0, none⟩)]), (.func (.func 82) #[] #[.pointer (some ⟨bc, 0, none⟩), .pointer (some ⟨bf, 0, none⟩)])] 104)) bc bf c1 c2 ba bb a1 a2 n most bk e1 e2 (hM.below hb1) (hf.below hb1) A c b (Kd.C_below hx hb1) hc hok
  have hmx := Kd.C_max hx
  obtain ⟨g, hg⟩ : ∃ g, g = fstR (manyR (bothG n most)) [] b := ⟨_, rfl⟩
  have HD := Aside0.mk (show decR (manyR (bothG n most)) [] b = if g.2.2 ≠ 0 then ([], g.2.2) else if g.2.1 < b.length then ([], 10) else (g.1, 0) by rw [hg]; rfl)
  rw [← hg] at hfst
  have HG := Aside0.mk hfst
  clear hfst hg hb1 hx hM hf
  go_enter Try.func49, Try.ntmps49
  go_wp2_with fail
  with_reducible refine HG.out.mono ?_
  rintro r w2 ⟨v, rfl, hv, hb2⟩
  obtain ⟨x, n, e⟩ := g
  dsimp only at *
  have HB := Aside0.mk (show Below w.heap.size w w2 from (below_alloc (Below.refl _ _) _).trans (hb2.mono (by first | omega | (simp only [World.size_alloc]; omega))))
  have HV := Aside0.mk hv
  clear hv hb2
  by_cases he : e = 0
  · subst he
    by_cases hn : n < b.length
    · go_wp2_with fail
      go_ret2
      rw [HD.out, if_neg (by simp), if_pos hn]
      exact ⟨_, rfl, Kd.R_nil _ _ _ _ _, HB.out⟩
    · have hn' : (b.length : Int) ≤ n := by omega
      go_wp2_with fail
      go_ret2
      rw [HD.out, if_neg (by simp), if_neg (Int.not_lt.mpr hn')]
      exact ⟨_, rfl, Kd.R_lower HV.out (by first | omega | (simp only [World.size_alloc]; omega)), HB.out⟩
  · have he1 : (e != 0) = true := by simpa using he
    have he2 : (e == 0) = false := by simpa using he
    have HE := Aside0.mk he
    clear he
    go_wp2_with fail
    go_ret2
    rw [HD.out, if_pos HE.out]
    exact ⟨_, rfl, Kd.R_nil _ _ _ _ _, HB.out⟩
set_option maxRecDepth 100000 in
set_option maxHeartbeats 400000 in
theorem fst_B (w : World) (bb c1 c2 : Nat) (hf : BlobF w bb c1 c2) (A : Option Addr) (c : Nat) (b : List Int) (hx : Kd.C (Kd.int .u8) w A b.length b) (hc : b.length ≤ c) (hok : okL b) :
    Calls Try.prog 77 #[.agg #[(.func (.func 69) #[] #[.pointer (some ⟨bb, 0, none⟩)]), (.func (.func 71) #[] #[.pointer (some ⟨bb, 0, none⟩)])], .slice A b.length c] w fun r w' => ∃ v : Value, r = .returned (.tuple #[v, .int .i64 (fstR blobG [] b).2.1, .int .i64 (fstR blobG [] b).2.2]) ∧ (Kd.R (Kd.int .u8) 5 w' w.heap.size (fun _ => True) v (fstR blobG [] b).1) ∧ Below w.heap.size w w' := by
  have hnn : ∀ W, (binOp .eql 84 (.func (.func 71) #[] #[.pointer (some ⟨bb, 0, none⟩)]) .nilFunc).run Try.prog W = .ok (.bool false) W := fun _ => by kernel_rfl
  have hb1 : Below w.heap.size w (w.alloc (.cells #[(.func (.func 69) #[] #[.pointer (some ⟨bb, 0, none⟩)]), (.func (.func 71) #[] #[.pointer (some ⟨bb, 0, none⟩)])] 86)) := below_alloc (Below.refl _ _) _
  have hlo : Below (w.alloc (.cells #[(.func (.func 69) #[] #[.pointer (some ⟨bb, 0, none⟩)]), (.func (.func 71) #[] #[.pointer (some ⟨bb, 0, none⟩)])] 86)).heap.size (w.alloc (.cells #[(.func (.func 69) #[] #[.pointer (some ⟨bb, 0, none⟩)]), (.func (.func 71) #[] #[.pointer (some ⟨bb, 0, none⟩)])] 86)) ((w.alloc (.cells #[(.func (.func 69) #[] #[.pointer (some ⟨bb, 0, none⟩)]), (.func (.func 71) #[] #[.pointer (some ⟨bb, 0, none⟩)])] 86)).alloc (.cells #[.slice A b.length c, .bool false] 124)) := below_alloc (Below.refl _ _) _
  have hI : InOK (w.alloc (.cells #[(.func (.func 69) #[] #[.pointer (some ⟨bb, 0, none⟩)]), (.func (.func 71) #[] #[.pointer (some ⟨bb, 0, none⟩)])] 86)) ((w.alloc (.cells #[(.func (.func 69) #[] #[.pointer (some ⟨bb, 0, none⟩)]), (.func (.func 71) #[] #[.pointer (some ⟨bb, 0, none⟩)])] 86)).alloc (.cells #[.slice A b.length c, .bool false] 124)) (w.alloc (.cells #[(.func (.func 69) #[] #[.pointer (some ⟨bb, 0, none⟩)]), (.func (.func 71) #[] #[.pointer (some ⟨bb, 0, none⟩)])] 86)).heap.size A c b false := ⟨Nat.le_refl _, blk_new _ _, Kd.C_below hx hb1, hc, hok, hlo⟩
  have hget := blob_get (w.alloc (.cells #[(.func (.func 69) #[] #[.pointer (some ⟨bb, 0, none⟩)]), (.func (.func 71) #[] #[.pointer (some ⟨bb, 0, none⟩)])] 86)) ((w.alloc (.cells #[(.func (.func 69) #[] #[.pointer (some ⟨bb, 0, none⟩)]), (.func (.func 71) #[] #[.pointer (some ⟨bb, 0, none⟩)])] 86)).alloc (.cells #[.slice A b.length c, .bool false] 124)) (w.alloc (.cells #[(.func (.func 69) #[] #[.pointer (some ⟨bb, 0, none⟩)]), (.func (.func 71) #[] #[.pointer (some ⟨bb, 0, none⟩)])] 86)).heap.size A c b false bb c1 c2 ((hf.below hb1).below hlo) hI
  have hmx := Kd.C_max hx
  obtain ⟨g, hg⟩ : ∃ g, g = blobG (b, false) := ⟨_, rfl⟩
  have HF := Aside0.mk (show fstR blobG [] b = if (g.2.2 || decide ((b.length : Int) - (g.2.1.length : Int) > 1048576)) = true then ([], 0, 10) else (g.1, (b.length : Int) - (g.2.1.length : Int), 0) by rw [hg]; rfl)
  have hg2 : blobG (b, false) = g := hg.symm
  rw [hg2] at hget
  simp only [World.size_alloc] at hget
  have HG := Aside0.mk hget
  clear hget hg hlo hI hb1 hx hf
  go_enter Try.func77, Try.ntmps77
  go_wp2_with fail
  with_reducible refine HG.out.mono ?_
  rintro r w2 ⟨v, rfl, hR, hT⟩
  obtain ⟨⟨A', c', hI'⟩, hk'⟩ := hT
  obtain ⟨x, b2, bd⟩ := g
  dsimp only at *
  have hmx2 := Kd.C_max hI'.rd
  have c0 : w2.cell? ⟨w.heap.size + 1, 0, none⟩ = some (.slice A' b2.length c') := by have h := blk_cell hI'.blk 0; (try simp only [World.size_alloc] at h); exact h
  have c1 : w2.cell? ⟨w.heap.size + 1, 1, none⟩ = some (.bool bd) := by have h := blk_cell hI'.blk 1; (try simp only [World.size_alloc] at h); exact h
  have HB := Aside0.mk (show Below w.heap.size w w2 from (below_alloc (Below.refl _ _) _).trans (hI'.lo.mono (by first | omega | (simp only [World.size_alloc]; omega))))
  clear hI' hk'
  have HR := Aside0.mk hR
  clear hR
  by_cases hb : bd = true
  · subst hb
    go_wp2_with fail
    go_ret3
    rw [HF.out]
    exact ⟨_, rfl, Kd.R_nil _ _ _ _ _, HB.out⟩
  · obtain rfl : bd = false := by cases bd <;> simp_all
    by_cases hn : (b.length : Int) - (b2.length : Int) > 1048576
    · have hn' : (1048576 : Int) < (b.length : Int) - (b2.length : Int) := hn
      go_wp2_with fail
      go_ret3
      rw [HF.out, decide_eq_true hn, Bool.false_or, if_pos rfl]
      exact ⟨_, rfl, Kd.R_nil _ _ _ _ _, HB.out⟩
    · have hn' : (b.length : Int) - (b2.length : Int) ≤ 1048576 := by omega
      go_wp2_with fail
      go_ret3
      rw [HF.out, decide_eq_false (Int.not_lt.mpr hn'), Bool.false_or, if_neg (by decide)]
      exact ⟨_, rfl, Kd.R_lower HR.out (by first | omega | (simp only [World.size_alloc]; omega)), HB.out⟩
set_option maxRecDepth 100000 in
set_option maxHeartbeats 400000 in
theorem dec_B (w : World) (bb c1 c2 : Nat) (hf : BlobF w bb c1 c2) (A : Option Addr) (c : Nat) (b : List Int) (hx : Kd.C (Kd.int .u8) w A b.length b) (hc : b.length ≤ c) (hok : okL b) :
    Calls Try.prog 42 #[.agg #[(.func (.func 69) #[] #[.pointer (some ⟨bb, 0, none⟩)]), (.func (.func 71) #[] #[.pointer (some ⟨bb, 0, none⟩)])], .slice A b.length c] w fun r w' => ∃ v : Value, r = .returned (.tuple #[v, .int .i64 (decR blobG [] b).2]) ∧ (Kd.R (Kd.int .u8) 5 w' w.heap.size (fun _ => True) v (decR blobG [] b).1) ∧ Below w.heap.size w w' := by
  have hb1 : Below w.heap.size w (w.alloc (.cells #[(.func (.func 69) #[] #[.pointer (some ⟨bb, 0, none⟩)]), (.func (.func 71) #[] #[.pointer (some ⟨bb, 0, none⟩)])] 86)) := below_alloc (Below.refl _ _) _
  have hfst := fst_B (w.alloc (.cells #[(.func (.func 69) #[] #[.pointer (some ⟨bb, 0, none⟩)]), (.func (.func 71) #[] #[.pointer (some ⟨bb, 0, none⟩)])] 86)) bb c1 c2 (hf.below hb1) A c b (Kd.C_below hx hb1) hc hok
  have hmx := Kd.C_max hx
  obtain ⟨g, hg⟩ : ∃ g, g = fstR blobG [] b := ⟨_, rfl⟩
  have HD := Aside0.mk (show decR blobG [] b = if g.2.2 ≠ 0 then ([], g.2.2) else if g.2.1 < b.length then ([], 10) else (g.1, 0) by rw [hg]; rfl)
  rw [← hg] at hfst
  have HG := Aside0.mk hfst
  clear hfst hg hb1 hx hf
  go_enter Try.func42, Try.ntmps42
  go_wp2_with fail
  with_reducible refine HG.out.mono ?_
  rintro r w2 ⟨v, rfl, hv, hb2⟩
  obtain ⟨x, n, e⟩ := g
  dsimp only at *
  have HB := Aside0.mk (show Below w.heap.size w w2 from (below_alloc (Below.refl _ _) _).trans (hb2.mono (by first | omega | (simp only [World.size_alloc]; omega))))
  have HV := Aside0.mk hv
  clear hv hb2
  by_cases he : e = 0
  · subst he
    by_cases hn : n < b.length
    · go_wp2_with fail
      go_ret2
      rw [HD.out, if_neg (by simp), if_pos hn]
      exact ⟨_, rfl, Kd.R_nil _ _ _ _ _, HB.out⟩
    · have hn' : (b.length : Int) ≤ n := by omega
      go_wp2_with fail
      go_ret2
      rw [HD.out, if_neg (by simp), if_neg (Int.not_lt.mpr hn')]
      exact ⟨_, rfl, Kd.R_lower HV.out (by first | omega | (simp only [World.size_alloc]; omega)), HB.out⟩
  · have he1 : (e != 0) = true := by simpa using he
    have he2 : (e == 0) = false := by simpa using he
    have HE := Aside0.mk he
    clear he
    go_wp2_with fail
    go_ret2
    rw [HD.out, if_pos HE.out]
    exact ⟨_, rfl, Kd.R_nil _ _ _ _ _, HB.out⟩
set_option maxRecDepth 100000 in
set_option maxHeartbeats 400000 in
theorem fst_F (w : World) (bm bn : Nat) (n : Int) (hf : FixF w bm bn n) (A : Option Addr) (c : Nat) (b : List Int) (hx : Kd.C (Kd.int .u8) w A b.length b) (hc : b.length ≤ c) (hok : okL b) :
    Calls Try.prog 77 #[.agg #[(.func (.func 79) #[] #[.pointer (some ⟨bm, 0, none⟩), .pointer (some ⟨bn, 0, none⟩)]), (.func (.func 80) #[] #[.pointer (some ⟨bm, 0, none⟩), .pointer (some ⟨bn, 0, none⟩)])], .slice A b.length c] w fun r w' => ∃ v : Value, r = .returned (.tuple #[v, .int .i64 (fstR (fixG n) [] b).2.1, .int .i64 (fstR (fixG n) [] b).2.2]) ∧ (Kd.R (Kd.int .u8) 5 w' w.heap.size (fun _ => True) v (fstR (fixG n) [] b).1) ∧ Below w.heap.size w w' := by
  have hnn : ∀ W, (binOp .eql 84 (.func (.func 80) #[] #[.pointer (some ⟨bm, 0, none⟩), .pointer (some ⟨bn, 0, none⟩)]) .nilFunc).run Try.prog W = .ok (.bool false) W := fun _ => by kernel_rfl
  have hb1 : Below w.heap.size w (w.alloc (.cells #[(.func (.func 79) #[] #[.pointer (some ⟨bm, 0, none⟩), .pointer (some ⟨bn, 0, none⟩)]), (.func (.func 80) #[] #[.pointer (some ⟨bm, 0, none⟩), .pointer (some ⟨bn, 0, none⟩)])] 86)) := below_alloc (Below.refl _ _) _
  have hlo : Below (w.alloc (.cells #[(.func (.func 79) #[] #[.pointer (some ⟨bm, 0, none⟩), .pointer (some ⟨bn, 0, none⟩)]), (.func (.func 80) #[] #[.pointer (some ⟨bm, 0, none⟩), .pointer (some ⟨bn, 0, none⟩)])] 86)).heap.size (w.alloc (.cells #[(.func (.func 79) #[] #[.pointer (some ⟨bm, 0, none⟩), .pointer (some ⟨bn, 0, none⟩)]), (.func (.func 80) #[] #[.pointer (some ⟨bm, 0, none⟩), .pointer (some ⟨bn, 0, none⟩)])] 86)) ((w.alloc (.cells #[(.func (.func 79) #[] #[.pointer (some ⟨bm, 0, none⟩), .pointer (some ⟨bn, 0, none⟩)]), (.func (.func 80) #[] #[.pointer (some ⟨bm, 0, none⟩), .pointer (some ⟨bn, 0, none⟩)])] 86)).alloc (.cells #[.slice A b.length c, .bool false] 124)) := below_alloc (Below.refl _ _) _
  have hI : InOK (w.alloc (.cells #[(.func (.func 79) #[] #[.pointer (some ⟨bm, 0, none⟩), .pointer (some ⟨bn, 0, none⟩)]), (.func (.func 80) #[] #[.pointer (some ⟨bm, 0, none⟩), .pointer (some ⟨bn, 0, none⟩)])] 86)) ((w.alloc (.cells #[(.func (.func 79) #[] #[.pointer (some ⟨bm, 0, none⟩), .pointer (some ⟨bn, 0, none⟩)]), (.func (.func 80) #[] #[.pointer (some ⟨bm, 0, none⟩), .pointer (some ⟨bn, 0, none⟩)])] 86)).alloc (.cells #[.slice A b.length c, .bool false] 124)) (w.alloc (.cells #[(.func (.func 79) #[] #[.pointer (some ⟨bm, 0, none⟩), .pointer (some ⟨bn, 0, none⟩)]), (.func (.func 80) #[] #[.pointer (some ⟨bm, 0, none⟩), .pointer (some ⟨bn, 0, none⟩)])] 86)).heap.size A c b false := ⟨Nat.le_refl _, blk_new _ _, Kd.C_below hx hb1, hc, hok, hlo⟩
  have hget := fix_get (w.alloc (.cells #[(.func (.func 79) #[] #[.pointer (some ⟨bm, 0, none⟩), .pointer (some ⟨bn, 0, none⟩)]), (.func (.func 80) #[] #[.pointer (some ⟨bm, 0, none⟩), .pointer (some ⟨bn, 0, none⟩)])] 86)) ((w.alloc (.cells #[(.func (.func 79) #[] #[.pointer (some ⟨bm, 0, none⟩), .pointer (some ⟨bn, 0, none⟩)]), (.func (.func 80) #[] #[.pointer (some ⟨bm, 0, none⟩), .pointer (some ⟨bn, 0, none⟩)])] 86)).alloc (.cells #[.slice A b.length c, .bool false] 124)) (w.alloc (.cells #[(.func (.func 79) #[] #[.pointer (some ⟨bm, 0, none⟩), .pointer (some ⟨bn, 0, none⟩)]), (.func (.func 80) #[] #[.pointer (some ⟨bm, 0, none⟩), .pointer (some ⟨bn, 0, none⟩)])] 86)).heap.size A c b false bm bn n ((hf.below hb1).below hlo) (by have h := blk_lt hf.m; simp only [World.size_alloc]; omega) (by have h := blk_lt hf.n; simp only [World.size_alloc]; omega) hI
  have hmx := Kd.C_max hx
  obtain ⟨g, hg⟩ : ∃ g, g = (fixG n) (b, false) := ⟨_, rfl⟩
  have HF := Aside0.mk (show fstR (fixG n) [] b = if (g.2.2 || decide ((b.length : Int) - (g.2.1.length : Int) > 1048576)) = true then ([], 0, 10) else (g.1, (b.length : Int) - (g.2.1.length : Int), 0) by rw [hg]; rfl)
  have hg2 : fixG n (b, false) = g := hg.symm
  rw [hg2] at hget
  simp only [World.size_alloc] at hget
  have HG := Aside0.mk hget
  clear hget hg hlo hI hb1 hx hf
  go_enter Try.func77, Try.ntmps77
  go_wp2_with fail
  with_reducible refine HG.out.mono ?_
  rintro r w2 ⟨v, rfl, hR, hT⟩
  obtain ⟨⟨A', c', hI'⟩, hk'⟩ := hT
  obtain ⟨x, b2, bd⟩ := g
  dsimp only at *
  have hmx2 := Kd.C_max hI'.rd
  have c0 : w2.cell? ⟨w.heap.size + 1, 0, none⟩ = some (.slice A' b2.length c') := by have h := blk_cell hI'.blk 0; (try simp only [World.size_alloc] at h); exact h
  have c1 : w2.cell? ⟨w.heap.size + 1, 1, none⟩ = some (.bool bd) := by have h := blk_cell hI'.blk 1; (try simp only [World.size_alloc] at h); exact h
  have HB := Aside0.mk (show Below w.heap.size w w2 from (below_alloc (Below.refl _ _) _).trans (hI'.lo.mono (by first | omega | (simp only [World.size_alloc]; omega))))
  clear hI' hk'
  have HR := Aside0.mk hR
  clear hR
  by_cases hb : bd = true
  · subst hb
    go_wp2_with fail
    go_ret3
    rw [HF.out]
    exact ⟨_, rfl, Kd.R_nil _ _ _ _ _, HB.out⟩
  · obtain rfl : bd = false := by cases bd <;> simp_all
    by_cases hn : (b.length : Int) - (b2.length : Int) > 1048576
    · have hn' : (1048576 : Int) < (b.length : Int) - (b2.length : Int) := hn
      go_wp2_with fail
      go_ret3
      rw [HF.out, decide_eq_true hn, Bool.false_or, if_pos rfl]
      exact ⟨_, rfl, Kd.R_nil _ _ _ _ _, HB.out⟩
    · have hn' : (b.length : Int) - (b2.length : Int) ≤ 1048576 := by omega
      go_wp2_with fail
      go_ret3
      rw [HF.out, decide_eq_false (Int.not_lt.mpr hn'), Bool.false_or, if_neg (by decide)]
      exact ⟨_, rfl, Kd.R_lower HR.out (by first | omega | (simp only [World.size_alloc]; omega)), HB.out⟩
set_option maxRecDepth 100000 in
set_option maxHeartbeats 400000 in
theorem dec_F (w : World) (bm bn : Nat) (n : Int) (hf : FixF w bm bn n) (A : Option Addr) (c : Nat) (b : List Int) (hx : Kd.C (Kd.int .u8) w A b.length b) (hc : b.length ≤ c) (hok : okL b) :
    Calls Try.prog 42 #[.agg #[(.func (.func 79) #[] #[.pointer (some ⟨bm, 0, none⟩), .pointer (some ⟨bn, 0, none⟩)]), (.func (.func 80) #[] #[.pointer (some ⟨bm, 0, none⟩), .pointer (some ⟨bn, 0, none⟩)])], .slice A b.length c] w fun r w' => ∃ v : Value, r = .returned (.tuple #[v, .int .i64 (decR (fixG n) [] b).2]) ∧ (Kd.R (Kd.int .u8) 5 w' w.heap.size (fun _ => True) v (decR (fixG n) [] b).1) ∧ Below w.heap.size w w' := by
  have hb1 : Below w.heap.size w (w.alloc (.cells #[(.func (.func 79) #[] #[.pointer (some ⟨bm, 0, none⟩), .pointer (some ⟨bn, 0, none⟩)]), (.func (.func 80) #[] #[.pointer (some ⟨bm, 0, none⟩), .pointer (some ⟨bn, 0, none⟩)])] 86)) := below_alloc (Below.refl _ _) _
  have hfst := fst_F (w.alloc (.cells #[(.func (.func 79) #[] #[.pointer (some ⟨bm, 0, none⟩), .pointer (some ⟨bn, 0, none⟩)]), (.func (.func 80) #[] #[.pointer (some ⟨bm, 0, none⟩), .pointer (some ⟨bn, 0, none⟩)])] 86)) bm bn n (hf.below hb1) A c b (Kd.C_below hx hb1) hc hok
  have hmx := Kd.C_max hx
  obtain ⟨g, hg⟩ : ∃ g, g = fstR (fixG n) [] b := ⟨_, rfl⟩
  have HD := Aside0.mk (show decR (fixG n) [] b = if g.2.2 ≠ 0 then ([], g.2.2) else if g.2.1 < b.length then ([], 10) else (g.1, 0) by rw [hg]; rfl)
  rw [← hg] at hfst
  have HG := Aside0.mk hfst
  clear hfst hg hb1 hx hf
  go_enter Try.func42, Try.ntmps42
  go_wp2_with fail
  with_reducible refine HG.out.mono ?_
  rintro r w2 ⟨v, rfl, hv, hb2⟩
  obtain ⟨x, n, e⟩ := g
  dsimp only at *
  have HB := Aside0.mk (show Below w.heap.size w w2 from (below_alloc (Below.refl _ _) _).trans (hb2.mono (by first | omega | (simp only [World.size_alloc]; omega))))
  have HV := Aside0.mk hv
  clear hv hb2
  by_cases he : e = 0
  · subst he
    by_cases hn : n < b.length
    · go_wp2_with fail
      go_ret2
      rw [HD.out, if_neg (by simp), if_pos hn]
      exact ⟨_, rfl, Kd.R_nil _ _ _ _ _, HB.out⟩
    · have hn' : (b.length : Int) ≤ n := by omega
      go_wp2_with fail
      go_ret2
      rw [HD.out, if_neg (by simp), if_neg (Int.not_lt.mpr hn')]
      exact ⟨_, rfl, Kd.R_lower HV.out (by first | omega | (simp only [World.size_alloc]; omega)), HB.out⟩
  · have he1 : (e != 0) = true := by simpa using he
    have he2 : (e == 0) = false := by simpa using he
    have HE := Aside0.mk he
    clear he
    go_wp2_with fail
    go_ret2
    rw [HD.out, if_pos HE.out]
    exact ⟨_, rfl, Kd.R_nil _ _ _ _ _, HB.out⟩
set_option maxRecDepth 100000 in
set_option maxHeartbeats 400000 in
theorem fst_S (w : World) (bf bt bk bb c1 c2 : Nat) (hf : TextF w bf bt bk bb c1 c2) (A : Option Addr) (c : Nat) (b : List Int) (hx : Kd.C (Kd.int .u8) w A b.length b) (hc : b.length ≤ c) (hok : okL b) :
    Calls Try.prog 78 #[.agg #[(.func (.func 93) #[] #[.pointer (some ⟨bf, 0, none⟩), .pointer (some ⟨bt, 0, none⟩)]), (.func (.func 94) #[] #[.pointer (some ⟨bk, 0, none⟩), .pointer (some ⟨bf, 0, none⟩)])], .slice A b.length c] w fun r w' => ∃ v : Value, r = .returned (.tuple #[v, .int .i64 (fstR textG (⟨#[]⟩ : ByteArray) b).2.1, .int .i64 (fstR textG (⟨#[]⟩ : ByteArray) b).2.2]) ∧ (v = .string (fstR textG (⟨#[]⟩ : ByteArray) b).1) ∧ Below w.heap.size w w' := by
  have hnn : ∀ W, (binOp .eql 90 (.func (.func 94) #[] #[.pointer (some ⟨bk, 0, none⟩), .pointer (some ⟨bf, 0, none⟩)]) .nilFunc).run Try.prog W = .ok (.bool false) W := fun _ => by kernel_rfl
  have hb1 : Below w.heap.size w (w.alloc (.cells #[(.func (.func 93) #[] #[.pointer (some ⟨bf, 0, none⟩), .pointer (some ⟨bt, 0, none⟩)]), (.func (.func 94) #[] #[.pointer (some ⟨bk, 0, none⟩), .pointer (some ⟨bf, 0, none⟩)])] 92)) := below_alloc (Below.refl _ _) _
  have hlo : Below (w.alloc (.cells #[(.func (.func 93) #[] #[.pointer (some ⟨bf, 0, none⟩), .pointer (some ⟨bt, 0, none⟩)]), (.func (.func 94) #[] #[.pointer (some ⟨bk, 0, none⟩), .pointer (some ⟨bf, 0, none⟩)])] 92)).heap.size (w.alloc (.cells #[(.func (.func 93) #[] #[.pointer (some ⟨bf, 0, none⟩), .pointer (some ⟨bt, 0, none⟩)]), (.func (.func 94) #[] #[.pointer (some ⟨bk, 0, none⟩), .pointer (some ⟨bf, 0, none⟩)])] 92)) ((w.alloc (.cells #[(.func (.func 93) #[] #[.pointer (some ⟨bf, 0, none⟩), .pointer (some ⟨bt, 0, none⟩)]), (.func (.func 94) #[] #[.pointer (some ⟨bk, 0, none⟩), .pointer (some ⟨bf, 0, none⟩)])] 92)).alloc (.cells #[.slice A b.length c, .bool false] 124)) := below_alloc (Below.refl _ _) _
  have hI : InOK (w.alloc (.cells #[(.func (.func 93) #[] #[.pointer (some ⟨bf, 0, none⟩), .pointer (some ⟨bt, 0, none⟩)]), (.func (.func 94) #[] #[.pointer (some ⟨bk, 0, none⟩), .pointer (some ⟨bf, 0, none⟩)])] 92)) ((w.alloc (.cells #[(.func (.func 93) #[] #[.pointer (some ⟨bf, 0, none⟩), .pointer (some ⟨bt, 0, none⟩)]), (.func (.func 94) #[] #[.pointer (some ⟨bk, 0, none⟩), .pointer (some ⟨bf, 0, none⟩)])] 92)).alloc (.cells #[.slice A b.length c, .bool false] 124)) (w.alloc (.cells #[(.func (.func 93) #[] #[.pointer (some ⟨bf, 0, none⟩), .pointer (some ⟨bt, 0, none⟩)]), (.func (.func 94) #[] #[.pointer (some ⟨bk, 0, none⟩), .pointer (some ⟨bf, 0, none⟩)])] 92)).heap.size A c b false := ⟨Nat.le_refl _, blk_new _ _, Kd.C_below hx hb1, hc, hok, hlo⟩
  have hget := text_get (w.alloc (.cells #[(.func (.func 93) #[] #[.pointer (some ⟨bf, 0, none⟩), .pointer (some ⟨bt, 0, none⟩)]), (.func (.func 94) #[] #[.pointer (some ⟨bk, 0, none⟩), .pointer (some ⟨bf, 0, none⟩)])] 92)) ((w.alloc (.cells #[(.func (.func 93) #[] #[.pointer (some ⟨bf, 0, none⟩), .pointer (some ⟨bt, 0, none⟩)]), (.func (.func 94) #[] #[.pointer (some ⟨bk, 0, none⟩), .pointer (some ⟨bf, 0, none⟩)])] 92)).alloc (.cells #[.slice A b.length c, .bool false] 124)) (w.alloc (.cells #[(.func (.func 93) #[] #[.pointer (some ⟨bf, 0, none⟩), .pointer (some ⟨bt, 0, none⟩)]), (.func (.func 94) #[] #[.pointer (some ⟨bk, 0, none⟩), .pointer (some ⟨bf, 0, none⟩)])] 92)).heap.size A c b false bf bt bk bb c1 c2 (hf.below hb1) hI
  have hmx := Kd.C_max hx
  obtain ⟨g, hg⟩ : ∃ g, g = textG (b, false) := ⟨_, rfl⟩
  have HF := Aside0.mk (show fstR textG (⟨#[]⟩ : ByteArray) b = if (g.2.2 || decide ((b.length : Int) - (g.2.1.length : Int) > 1048576)) = true then ((⟨#[]⟩ : ByteArray), 0, 10) else (g.1, (b.length : Int) - (g.2.1.length : Int), 0) by rw [hg]; rfl)
  have hg2 : textG (b, false) = g := hg.symm
  rw [hg2] at hget
  simp only [World.size_alloc] at hget
  have HG := Aside0.mk hget
  clear hget hg hlo hI hb1 hx hf
  go_enter Try.func78, Try.ntmps78
  go_wp2_with fail
  with_reducible refine HG.out.mono ?_
  rintro r w2 ⟨rfl, hT⟩
  obtain ⟨⟨A', c', hI'⟩, hk'⟩ := hT
  obtain ⟨x, b2, bd⟩ := g
  dsimp only at *
  have hmx2 := Kd.C_max hI'.rd
  have c0 : w2.cell? ⟨w.heap.size + 1, 0, none⟩ = some (.slice A' b2.length c') := by have h := blk_cell hI'.blk 0; (try simp only [World.size_alloc] at h); exact h
  have c1 : w2.cell? ⟨w.heap.size + 1, 1, none⟩ = some (.bool bd) := by have h := blk_cell hI'.blk 1; (try simp only [World.size_alloc] at h); exact h
  have HB := Aside0.mk (show Below w.heap.size w w2 from (below_alloc (Below.refl _ _) _).trans (hI'.lo.mono (by first | omega | (simp only [World.size_alloc]; omega))))
  clear hI' hk'
  
  by_cases hb : bd = true
  · subst hb
    go_wp2_with fail
    go_ret3
    rw [HF.out]
    exact ⟨_, rfl, rfl, HB.out⟩
  · obtain rfl : bd = false := by cases bd <;> simp_all
    by_cases hn : (b.length : Int) - (b2.length : Int) > 1048576
    · have hn' : (1048576 : Int) < (b.length : Int) - (b2.length : Int) := hn
      go_wp2_with fail
      go_ret3
      rw [HF.out, decide_eq_true hn, Bool.false_or, if_pos rfl]
      exact ⟨_, rfl, rfl, HB.out⟩
    · have hn' : (b.length : Int) - (b2.length : Int) ≤ 1048576 := by omega
      go_wp2_with fail
      go_ret3
      rw [HF.out, decide_eq_false (Int.not_lt.mpr hn'), Bool.false_or, if_neg (by decide)]
      exact ⟨_, rfl, rfl, HB.out⟩
set_option maxRecDepth 100000 in
set_option maxHeartbeats 400000 in
theorem dec_S (w : World) (bf bt bk bb c1 c2 : Nat) (hf : TextF w bf bt bk bb c1 c2) (A : Option Addr) (c : Nat) (b : List Int) (hx : Kd.C (Kd.int .u8) w A b.length b) (hc : b.length ≤ c) (hok : okL b) :
    Calls Try.prog 43 #[.agg #[(.func (.func 93) #[] #[.pointer (some ⟨bf, 0, none⟩), .pointer (some ⟨bt, 0, none⟩)]), (.func (.func 94) #[] #[.pointer (some ⟨bk, 0, none⟩), .pointer (some ⟨bf, 0, none⟩)])], .slice A b.length c] w fun r w' => ∃ v : Value, r = .returned (.tuple #[v, .int .i64 (decR textG (⟨#[]⟩ : ByteArray) b).2]) ∧ (v = .string (decR textG (⟨#[]⟩ : ByteArray) b).1) ∧ Below w.heap.size w w' := by
  have hb1 : Below w.heap.size w (w.alloc (.cells #[(.func (.func 93) #[] #[.pointer (some ⟨bf, 0, none⟩), .pointer (some ⟨bt, 0, none⟩)]), (.func (.func 94) #[] #[.pointer (some ⟨bk, 0, none⟩), .pointer (some ⟨bf, 0, none⟩)])] 92)) := below_alloc (Below.refl _ _) _
  have hfst := fst_S (w.alloc (.cells #[(.func (.func 93) #[] #[.pointer (some ⟨bf, 0, none⟩), .pointer (some ⟨bt, 0, none⟩)]), (.func (.func 94) #[] #[.pointer (some ⟨bk, 0, none⟩), .pointer (some ⟨bf, 0, none⟩)])] 92)) bf bt bk bb c1 c2 (hf.below hb1) A c b (Kd.C_below hx hb1) hc hok
  have hmx := Kd.C_max hx
  obtain ⟨g, hg⟩ : ∃ g, g = fstR textG (⟨#[]⟩ : ByteArray) b := ⟨_, rfl⟩
  have HD := Aside0.mk (show decR textG (⟨#[]⟩ : ByteArray) b = if g.2.2 ≠ 0 then ((⟨#[]⟩ : ByteArray), g.2.2) else if g.2.1 < b.length then ((⟨#[]⟩ : ByteArray), 10) else (g.1, 0) by rw [hg]; rfl)
  rw [← hg] at hfst
  have HG := Aside0.mk hfst
  clear hfst hg hb1 hx hf
  go_enter Try.func43, Try.ntmps43
  go_wp2_with fail
  with_reducible refine HG.out.mono ?_
  rintro r w2 ⟨v, rfl, hv, hb2⟩
  obtain ⟨x, n, e⟩ := g
  dsimp only at *
  have HB := Aside0.mk (show Below w.heap.size w w2 from (below_alloc (Below.refl _ _) _).trans (hb2.mono (by first | omega | (simp only [World.size_alloc]; omega))))
  have HV := Aside0.mk hv
  clear hv hb2
  by_cases he : e = 0
  · subst he
    by_cases hn : n < b.length
    · go_wp2_with fail
      go_ret2
      rw [HD.out, if_neg (by simp), if_pos hn]
      exact ⟨_, rfl, rfl, HB.out⟩
    · have hn' : (b.length : Int) ≤ n := by omega
      go_wp2_with fail
      go_ret2
      rw [HD.out, if_neg (by simp), if_neg (Int.not_lt.mpr hn')]
      exact ⟨_, rfl, HV.out, HB.out⟩
  · have he1 : (e != 0) = true := by simpa using he
    have he2 : (e == 0) = false := by simpa using he
    have HE := Aside0.mk he
    clear he
    go_wp2_with fail
    go_ret2
    rw [HD.out, if_pos HE.out]
    exact ⟨_, rfl, rfl, HB.out⟩
end Go.Proofs.Ytdlkkjfbbeffbaa.P
