/- A processor's step: walks, printed by gen_cpug.py; no statement of the seat. A processor's step in one, and some steps at most: walks; no statement of the seat. -/
import Derived.Test.YtjhgbddcenhkfaaCpuA
set_option linter.unusedVariables false
set_option linter.unusedSimpArgs false
namespace Go.Proofs.Ytjhgbddcenhkfaa.P
open Go.RowKit Go.Proofs.YtjhgbddcenhkfaaW.PrintWords Go.Proofs.YtjhgbddcenhkfaaW.PrintLast Go.Proofs.YtjhgbddcenhkfaaW.PrintMore
/-- What every processor of the law is. -/
structure SOK (s : CS) : Prop where
  p0 : 0 ≤ s.pl
  p1 : s.pl ≤ (s.ws.length : Int)
  wl : s.ws.length ≤ 65536
  wok : ∀ x ∈ s.ws, x.f0 = 0 ∨ okI x
  mok : okB s.m
def nextC (s : CS) : CS := { s with pl := wrap64 (s.pl + 1) }
def insC (s : CS) : Ins := rd_T61 s.ws s.pl
def kindC (x : Ins) : Int × Int × Int := if x.f0 = 29 then (2, x.f5, 1) else if x.f0 = 30 then (3, x.f5, 1) else (0, 0, 1)
def goneC (s : CS) (x : Ins) : CS := if x.f0 = 24 then setX (goS s (goalC s x).1) 30 (wrap64 (4 * wrap64 (s.pl + 1))) else goS s (goalC s x).1
def recC (s : CS) (x : Ins) : CS := if (reckC s x).2 = true then putC s x.f1 (reckC s x).1 else s
/-- A step: how it ends, and what the processor is then. -/
def stepC (s : CS) : (Int × Int × Int) × CS :=
  if s.pl = (s.ws.length : Int) then ((1, 0, 0), s)
  else if (insC s).f0 = 0 then ((4, 0, 0), s)
  else if (goalC s (insC s)).2 = true then (if mayGo s (goalC s (insC s)).1 = true then ((0, 0, 1), goneC s (insC s)) else ((6, 0, 0), s))
  else if (insC s).f0 = 19 ∨ (insC s).f0 = 20 then (if mayM s (memA s (insC s)) = true then ((0, 0, 1), nextC (memC s (insC s))) else ((5, 0, 0), memC s (insC s)))
  else if isDif (insC s) = true then ((0, 0, 1), nextC (difC s (insC s)))
  else (kindC (insC s), nextC (recC s (insC s)))
section
variable {w W : World} {T : TypeId} {B E p : Nat} {A : Option Addr} {c bm : Nat} {s : CS}
theorem COK.far (h : COK W T B E p A c bm s) {g : Nat} (hg : E ≤ g) (j : Nat) (u : Value) : COK (W.setCell ⟨g, j, none⟩ u) T B E p A c bm s :=
  h.kept (S := fun k => k = g) ((Kept.refl W (fun k => k = g)).setCell (p := ⟨g, j, none⟩) (.inl rfl) u) (fun k hk => .inr (by omega))
theorem CTo.far (h : CTo w T B E p A c bm s W) {g : Nat} (hE : E ≤ w.heap.size) (hB : B ≤ w.heap.size) (hg : w.heap.size ≤ g) (j : Nat) (u : Value) : CTo w T B E p A c bm s (W.setCell ⟨g, j, none⟩ u) :=
  ⟨h.1.far (Nat.le_trans hE hg) j u, h.2.1.setCell (p := ⟨g, j, none⟩) (.inr hg) u, h.2.2.setCell (p := ⟨g, j, none⟩) (Nat.le_trans hB hg) u⟩
theorem keep_le (h : CTo w T B E p A c bm s W) : w.heap.size ≤ W.heap.size := h.2.1.1
theorem blk_three {g : Nat} {t : TypeId} {a b d : Value} (h : W.heap[g]? = some (.cells #[a, b, d] t (0, 0))) (x y z : Value) : (((W.setCell ⟨g, 0, none⟩ x).setCell ⟨g, 1, none⟩ y).setCell ⟨g, 2, none⟩ z).heap[g]? = some (.cells #[x, y, z] t (0, 0)) := blk_put (blk_put (blk_put h 0 x rfl) 1 y rfl) 2 z rfl

set_option maxRecDepth 100000 in
set_option maxHeartbeats 2000000 in
theorem step_end (h : COK w 69 B E p A c bm s) (hE : E ≤ w.heap.size) (hs : SOK s) (he : s.pl = (s.ws.length : Int)) :
    Calls Try.prog 24 #[.pointer (some ⟨p, 0, none⟩)] w fun e w' => e = .returned (.agg #[.int .i64 1, .int .i64 0, .int .i64 0]) ∧ CTo w 69 B E p A c bm (s) w' := by
  have hu := Try.underlying53
  have hux := Try.underlying61
  have hB0 := below_alloc (Below.refl w.heap.size w) (.cells #[.int .i64 0, .int .i64 0, .int .i64 0] 53)
  have hblk := blk_new w (.cells #[.int .i64 0, .int .i64 0, .int .i64 0] 53)
  have hO := h.below hB0
  obtain ⟨W, hW⟩ : ∃ W, w.alloc (.cells #[.int .i64 0, .int .i64 0, .int .i64 0] 53) = W := ⟨_, rfl⟩
  obtain ⟨g, hg⟩ : ∃ g, w.heap.size = g := ⟨_, rfl⟩
  have hgW : W.heap.size = g + 1 := by rw [← hW, ← hg, World.size_alloc]
  rw [hW] at hB0 hblk hO
  rw [hg] at hblk
  have q0 : W.cell? ⟨g, 0, none⟩ = some (.int .i64 0) := blk_cell hblk 0
  have q1 : W.cell? ⟨g, 1, none⟩ = some (.int .i64 0) := blk_cell hblk 1
  have q2 : W.cell? ⟨g, 2, none⟩ = some (.int .i64 0) := blk_cell hblk 2
  have f0 : W.frozen? ⟨g, 0, none⟩ = false := blk_frozen hblk 0
  have f1 : W.frozen? ⟨g, 1, none⟩ = false := blk_frozen hblk 1
  have f2 : W.frozen? ⟨g, 2, none⟩ = false := blk_frozen hblk 2
  have HO := Aside0.mk hO
  have HB0 := Aside0.mk hB0
  have HBK := Aside0.mk hblk
  have HW := Aside0.mk hW
  have HG := Aside0.mk hg
  have HGW := Aside0.mk hgW
  have H0 := Aside0.mk h
  have HE := Aside0.mk hE
  have c0 := HO.out.c0
  have c37 := HO.out.c37
  clear h hO hB0 hblk hW hg hgW hE
  have e1 : (s.pl == (s.ws.length : Int)) = true := by rw [he]; exact beq_self_eq_true _
  obtain ⟨pl, hpl⟩ : ∃ pl, pl = s.pl := ⟨_, rfl⟩
  rw [← hpl] at c37 e1
  clear hpl he
  go_enter Try.func24, Try.ntmps24
  go_wp2_with fail
  rw [HW.out, HG.out]
  go_big_quiet (fail)
  have HO2 := Aside0.mk (HO.out.drewN nq)
  have HBK2 := Aside0.mk (blk_drewN HBK.out nq)
  go_wp2_with fail
  refine bodyPost_ret (results_cell_row rfl _ _ g 53 #[.int .i64 1, .int .i64 0, .int .i64 0] (0, 0) _ rfl (blk_three HBK2.out _ _ _) Try.underlying53 rfl (by kernel_rfl)) rfl ?_
  exact ⟨rfl, (((CTo.start (below_dN0 HB0.out nq) H0.out.le (CTo.refl HO2.out)).far HE.out H0.out.le (Nat.le_of_eq HG.out) 0 _).far HE.out H0.out.le (Nat.le_of_eq HG.out) 1 _).far HE.out H0.out.le (Nat.le_of_eq HG.out) 2 _⟩
set_option maxRecDepth 100000 in
set_option maxHeartbeats 2000000 in
theorem step_word (h : COK w 69 B E p A c bm s) (hE : E ≤ w.heap.size) (hs : SOK s) (x : Ins) (hx : insC s = x) (he : ¬ s.pl = (s.ws.length : Int)) (h0 : x.f0 = 0) :
    Calls Try.prog 24 #[.pointer (some ⟨p, 0, none⟩)] w fun e w' => e = .returned (.agg #[.int .i64 4, .int .i64 0, .int .i64 0]) ∧ CTo w 69 B E p A c bm (s) w' := by
  have hu := Try.underlying53
  have hux := Try.underlying61
  have hB0 := below_alloc (Below.refl w.heap.size w) (.cells #[.int .i64 0, .int .i64 0, .int .i64 0] 53)
  have hblk := blk_new w (.cells #[.int .i64 0, .int .i64 0, .int .i64 0] 53)
  have hO := h.below hB0
  obtain ⟨W, hW⟩ : ∃ W, w.alloc (.cells #[.int .i64 0, .int .i64 0, .int .i64 0] 53) = W := ⟨_, rfl⟩
  obtain ⟨g, hg⟩ : ∃ g, w.heap.size = g := ⟨_, rfl⟩
  have hgW : W.heap.size = g + 1 := by rw [← hW, ← hg, World.size_alloc]
  rw [hW] at hB0 hblk hO
  rw [hg] at hblk
  have q0 : W.cell? ⟨g, 0, none⟩ = some (.int .i64 0) := blk_cell hblk 0
  have q1 : W.cell? ⟨g, 1, none⟩ = some (.int .i64 0) := blk_cell hblk 1
  have q2 : W.cell? ⟨g, 2, none⟩ = some (.int .i64 0) := blk_cell hblk 2
  have f0 : W.frozen? ⟨g, 0, none⟩ = false := blk_frozen hblk 0
  have f1 : W.frozen? ⟨g, 1, none⟩ = false := blk_frozen hblk 1
  have f2 : W.frozen? ⟨g, 2, none⟩ = false := blk_frozen hblk 2
  have HO := Aside0.mk hO
  have HB0 := Aside0.mk hB0
  have HBK := Aside0.mk hblk
  have HW := Aside0.mk hW
  have HG := Aside0.mk hg
  have HGW := Aside0.mk hgW
  have H0 := Aside0.mk h
  have HE := Aside0.mk hE
  have c0 := HO.out.c0
  have c37 := HO.out.c37
  clear h hO hB0 hblk hW hg hgW hE
  have hkk := hs.p0
  have hk2 := hs.p1
  obtain ⟨k, hk⟩ : ∃ k : Nat, s.pl = (k : Int) := ⟨s.pl.toNat, by omega⟩
  rw [hk] at c37 hk2 he
  have hkl : k < s.ws.length := by omega
  have hki : (k : Int) < (s.ws.length : Int) := by omega
  have hk0 : 0 ≤ (k : Int) := by omega
  have e1 : ((k : Int) == (s.ws.length : Int)) = false := by simpa using he
  have HK := Aside0.mk hk
  obtain ⟨ad, hA, x0, x1, x2, x3, x4, x5, x6, x7⟩ := at_T61 (Kd.R_reads' HO.out.own).2.2 (k : Int) (by omega) (by omega)
  subst hA
  have hrx : rd_T61 s.ws (k : Int) = x := by rw [← hx]; unfold insC; rw [hk]
  rw [Int.toNat_natCast, hrx] at x0 x1 x2 x3 x4 x5 x6 x7
  have HS := Aside0.mk hs
  clear hkk hk2 hk hs hrx he
  have H00 := Aside0.mk h0
  clear h0
  go_enter Try.func24, Try.ntmps24
  go_wp2_with fail
  rw [HW.out, HG.out]
  go_big_quiet (fail)
  have HO1 := Aside0.mk (HO.out.drewN nq)
  have HB1 := Aside0.mk (below_dN0 HB0.out nq)
  have HBK1 := Aside0.mk (blk_drewN HBK.out nq)
  have hz1 : (W.drewN nq).heap.size = g + 1 := HGW.out
  have y0 : (W.drewN nq).cell? _ = _ := x0
  have y1 : (W.drewN nq).cell? _ = _ := x1
  have y2 : (W.drewN nq).cell? _ = _ := x2
  have y3 : (W.drewN nq).cell? _ = _ := x3
  have y4 : (W.drewN nq).cell? _ = _ := x4
  have y5 : (W.drewN nq).cell? _ = _ := x5
  have y6 : (W.drewN nq).cell? _ = _ := x6
  have y7 : (W.drewN nq).cell? _ = _ := x7
  have d0 := HO1.out.c0
  have d37 := HO1.out.c37
  rw [HK.out] at d37
  clear q0 q1 q2 f0 f1 f2 c0 c37 x0 x1 x2 x3 x4 x5 x6 x7
  go_upto_region 3 with (fail)
  obtain ⟨W1, hW1⟩ : ∃ W1, W.drewN nq = W1 := ⟨_, rfl⟩
  rw [hW1] at HO1 HB1 HBK1 hz1 y0 y1 y2 y3 y4 y5 y6 y7 d0 d37 ⊢
  clear hW1
  have HZ1 := Aside0.mk hz1
  clear hz1
  have hp1 := HO1.out.lt
  have hp2 : p ≠ W1.heap.size := Nat.ne_of_lt hp1
  have ha1 := World.block_lt_of_cell? _ _ y0
  have ha2 : (ad.add (k * 8)).block ≠ W1.heap.size := Nat.ne_of_lt ha1
  go_region
  clear hp1 hp2 ha1 ha2
  go_upto_region 4 with (fail)
  have hb3 := below_drew (below_alloc (Below.refl W1.heap.size W1) (.cells #[.int .i64 x.f0, .int .i64 x.f1, .int .i64 x.f2, .int .i64 x.f3, .int .i64 x.f4, .int .i64 x.f5, .int .i64 x.f6, .int .i64 x.f7] 61))
  have hO3 := HO1.out.below hb3
  have hB3 := below_step HB1.out hb3
  have hg3 := blk_below HBK1.out hb3
  have hx3 := blk_drew (blk_new W1 (.cells #[.int .i64 x.f0, .int .i64 x.f1, .int .i64 x.f2, .int .i64 x.f3, .int .i64 x.f4, .int .i64 x.f5, .int .i64 x.f6, .int .i64 x.f7] 61))
  obtain ⟨W3, hW3⟩ : ∃ W3, (W1.alloc (.cells #[.int .i64 x.f0, .int .i64 x.f1, .int .i64 x.f2, .int .i64 x.f3, .int .i64 x.f4, .int .i64 x.f5, .int .i64 x.f6, .int .i64 x.f7] 61)).drew = W3 := ⟨_, rfl⟩
  obtain ⟨g3, hgg⟩ : ∃ g3, W1.heap.size = g3 := ⟨_, rfl⟩
  rw [hW3] at hb3 hO3 hB3 hg3 hx3 ⊢
  rw [hgg] at hx3 ⊢
  have HO3 := Aside0.mk hO3
  have HB3 := Aside0.mk hB3
  have HG3 := Aside0.mk hg3
  have HX3 := Aside0.mk hx3
  have HGE := Aside0.mk (show w.heap.size ≤ g3 by have h1 := HZ1.out; have h2 := HG.out; omega)
  have q0 : W3.cell? ⟨g, 0, none⟩ = some (.int .i64 0) := blk_cell hg3 0
  have q1 : W3.cell? ⟨g, 1, none⟩ = some (.int .i64 0) := blk_cell hg3 1
  have q2 : W3.cell? ⟨g, 2, none⟩ = some (.int .i64 0) := blk_cell hg3 2
  have f0 : W3.frozen? ⟨g, 0, none⟩ = false := blk_frozen hg3 0
  have f1 : W3.frozen? ⟨g, 1, none⟩ = false := blk_frozen hg3 1
  have f2 : W3.frozen? ⟨g, 2, none⟩ = false := blk_frozen hg3 2
  have x0 : W3.cell? ⟨g3, 0, none⟩ = some (.int .i64 x.f0) := blk_cell hx3 0
  have x1 : W3.cell? ⟨g3, 1, none⟩ = some (.int .i64 x.f1) := blk_cell hx3 1
  have x2 : W3.cell? ⟨g3, 2, none⟩ = some (.int .i64 x.f2) := blk_cell hx3 2
  have x3 : W3.cell? ⟨g3, 3, none⟩ = some (.int .i64 x.f3) := blk_cell hx3 3
  have x4 : W3.cell? ⟨g3, 4, none⟩ = some (.int .i64 x.f4) := blk_cell hx3 4
  have x5 : W3.cell? ⟨g3, 5, none⟩ = some (.int .i64 x.f5) := blk_cell hx3 5
  have x6 : W3.cell? ⟨g3, 6, none⟩ = some (.int .i64 x.f6) := blk_cell hx3 6
  have x7 : W3.cell? ⟨g3, 7, none⟩ = some (.int .i64 x.f7) := blk_cell hx3 7
  clear hW3 hgg hb3 hO3 hB3 hg3 hx3 y0 y1 y2 y3 y4 y5 y6 y7 d0 d37
  rw [H00.out] at x0
  go_wp2_with fail
  refine bodyPost_ret (results_cell_row rfl _ _ g 53 #[.int .i64 4, .int .i64 0, .int .i64 0] (0, 0) _ rfl (blk_three HG3.out _ _ _) Try.underlying53 rfl (by kernel_rfl)) rfl ?_
  exact ⟨rfl, (((CTo.start HB3.out H0.out.le (CTo.refl HO3.out)).far HE.out H0.out.le (Nat.le_of_eq HG.out) 0 _).far HE.out H0.out.le (Nat.le_of_eq HG.out) 1 _).far HE.out H0.out.le (Nat.le_of_eq HG.out) 2 _⟩
set_option maxRecDepth 100000 in
set_option maxHeartbeats 2000000 in
theorem step_goal_no (h : COK w 69 B E p A c bm s) (hE : E ≤ w.heap.size) (hs : SOK s) (x : Ins) (hx : insC s = x) (he : ¬ s.pl = (s.ws.length : Int)) (h0 : ¬ x.f0 = 0) (o : okI x) (hgo : (goalC s x).2 = true) (hmay : mayGo s (goalC s x).1 = false) :
    Calls Try.prog 24 #[.pointer (some ⟨p, 0, none⟩)] w fun e w' => e = .returned (.agg #[.int .i64 6, .int .i64 0, .int .i64 0]) ∧ CTo w 69 B E p A c bm (s) w' := by
  have hu := Try.underlying53
  have hux := Try.underlying61
  have hB0 := below_alloc (Below.refl w.heap.size w) (.cells #[.int .i64 0, .int .i64 0, .int .i64 0] 53)
  have hblk := blk_new w (.cells #[.int .i64 0, .int .i64 0, .int .i64 0] 53)
  have hO := h.below hB0
  obtain ⟨W, hW⟩ : ∃ W, w.alloc (.cells #[.int .i64 0, .int .i64 0, .int .i64 0] 53) = W := ⟨_, rfl⟩
  obtain ⟨g, hg⟩ : ∃ g, w.heap.size = g := ⟨_, rfl⟩
  have hgW : W.heap.size = g + 1 := by rw [← hW, ← hg, World.size_alloc]
  rw [hW] at hB0 hblk hO
  rw [hg] at hblk
  have q0 : W.cell? ⟨g, 0, none⟩ = some (.int .i64 0) := blk_cell hblk 0
  have q1 : W.cell? ⟨g, 1, none⟩ = some (.int .i64 0) := blk_cell hblk 1
  have q2 : W.cell? ⟨g, 2, none⟩ = some (.int .i64 0) := blk_cell hblk 2
  have f0 : W.frozen? ⟨g, 0, none⟩ = false := blk_frozen hblk 0
  have f1 : W.frozen? ⟨g, 1, none⟩ = false := blk_frozen hblk 1
  have f2 : W.frozen? ⟨g, 2, none⟩ = false := blk_frozen hblk 2
  have HO := Aside0.mk hO
  have HB0 := Aside0.mk hB0
  have HBK := Aside0.mk hblk
  have HW := Aside0.mk hW
  have HG := Aside0.mk hg
  have HGW := Aside0.mk hgW
  have H0 := Aside0.mk h
  have HE := Aside0.mk hE
  have c0 := HO.out.c0
  have c37 := HO.out.c37
  clear h hO hB0 hblk hW hg hgW hE
  have hkk := hs.p0
  have hk2 := hs.p1
  obtain ⟨k, hk⟩ : ∃ k : Nat, s.pl = (k : Int) := ⟨s.pl.toNat, by omega⟩
  rw [hk] at c37 hk2 he
  have hkl : k < s.ws.length := by omega
  have hki : (k : Int) < (s.ws.length : Int) := by omega
  have hk0 : 0 ≤ (k : Int) := by omega
  have e1 : ((k : Int) == (s.ws.length : Int)) = false := by simpa using he
  have HK := Aside0.mk hk
  obtain ⟨ad, hA, x0, x1, x2, x3, x4, x5, x6, x7⟩ := at_T61 (Kd.R_reads' HO.out.own).2.2 (k : Int) (by omega) (by omega)
  subst hA
  have hrx : rd_T61 s.ws (k : Int) = x := by rw [← hx]; unfold insC; rw [hk]
  rw [Int.toNat_natCast, hrx] at x0 x1 x2 x3 x4 x5 x6 x7
  have HS := Aside0.mk hs
  clear hkk hk2 hk hs hrx he
  have n0 : (x.f0 == 0) = false := by simpa using h0
  have HGO := Aside0.mk hgo
  have HMAY := Aside0.mk hmay
  have HOK := Aside0.mk o
  clear h0 hgo hmay o
  go_enter Try.func24, Try.ntmps24
  go_wp2_with fail
  rw [HW.out, HG.out]
  go_big_quiet (fail)
  have HO1 := Aside0.mk (HO.out.drewN nq)
  have HB1 := Aside0.mk (below_dN0 HB0.out nq)
  have HBK1 := Aside0.mk (blk_drewN HBK.out nq)
  have hz1 : (W.drewN nq).heap.size = g + 1 := HGW.out
  have y0 : (W.drewN nq).cell? _ = _ := x0
  have y1 : (W.drewN nq).cell? _ = _ := x1
  have y2 : (W.drewN nq).cell? _ = _ := x2
  have y3 : (W.drewN nq).cell? _ = _ := x3
  have y4 : (W.drewN nq).cell? _ = _ := x4
  have y5 : (W.drewN nq).cell? _ = _ := x5
  have y6 : (W.drewN nq).cell? _ = _ := x6
  have y7 : (W.drewN nq).cell? _ = _ := x7
  have d0 := HO1.out.c0
  have d37 := HO1.out.c37
  rw [HK.out] at d37
  clear q0 q1 q2 f0 f1 f2 c0 c37 x0 x1 x2 x3 x4 x5 x6 x7
  go_upto_region 3 with (fail)
  obtain ⟨W1, hW1⟩ : ∃ W1, W.drewN nq = W1 := ⟨_, rfl⟩
  rw [hW1] at HO1 HB1 HBK1 hz1 y0 y1 y2 y3 y4 y5 y6 y7 d0 d37 ⊢
  clear hW1
  have HZ1 := Aside0.mk hz1
  clear hz1
  have hp1 := HO1.out.lt
  have hp2 : p ≠ W1.heap.size := Nat.ne_of_lt hp1
  have ha1 := World.block_lt_of_cell? _ _ y0
  have ha2 : (ad.add (k * 8)).block ≠ W1.heap.size := Nat.ne_of_lt ha1
  go_region
  clear hp1 hp2 ha1 ha2
  go_upto_region 4 with (fail)
  have hb3 := below_drew (below_alloc (Below.refl W1.heap.size W1) (.cells #[.int .i64 x.f0, .int .i64 x.f1, .int .i64 x.f2, .int .i64 x.f3, .int .i64 x.f4, .int .i64 x.f5, .int .i64 x.f6, .int .i64 x.f7] 61))
  have hO3 := HO1.out.below hb3
  have hB3 := below_step HB1.out hb3
  have hg3 := blk_below HBK1.out hb3
  have hx3 := blk_drew (blk_new W1 (.cells #[.int .i64 x.f0, .int .i64 x.f1, .int .i64 x.f2, .int .i64 x.f3, .int .i64 x.f4, .int .i64 x.f5, .int .i64 x.f6, .int .i64 x.f7] 61))
  obtain ⟨W3, hW3⟩ : ∃ W3, (W1.alloc (.cells #[.int .i64 x.f0, .int .i64 x.f1, .int .i64 x.f2, .int .i64 x.f3, .int .i64 x.f4, .int .i64 x.f5, .int .i64 x.f6, .int .i64 x.f7] 61)).drew = W3 := ⟨_, rfl⟩
  obtain ⟨g3, hgg⟩ : ∃ g3, W1.heap.size = g3 := ⟨_, rfl⟩
  rw [hW3] at hb3 hO3 hB3 hg3 hx3 ⊢
  rw [hgg] at hx3 ⊢
  have HO3 := Aside0.mk hO3
  have HB3 := Aside0.mk hB3
  have HG3 := Aside0.mk hg3
  have HX3 := Aside0.mk hx3
  have HGE := Aside0.mk (show w.heap.size ≤ g3 by have h1 := HZ1.out; have h2 := HG.out; omega)
  have q0 : W3.cell? ⟨g, 0, none⟩ = some (.int .i64 0) := blk_cell hg3 0
  have q1 : W3.cell? ⟨g, 1, none⟩ = some (.int .i64 0) := blk_cell hg3 1
  have q2 : W3.cell? ⟨g, 2, none⟩ = some (.int .i64 0) := blk_cell hg3 2
  have f0 : W3.frozen? ⟨g, 0, none⟩ = false := blk_frozen hg3 0
  have f1 : W3.frozen? ⟨g, 1, none⟩ = false := blk_frozen hg3 1
  have f2 : W3.frozen? ⟨g, 2, none⟩ = false := blk_frozen hg3 2
  have x0 : W3.cell? ⟨g3, 0, none⟩ = some (.int .i64 x.f0) := blk_cell hx3 0
  have x1 : W3.cell? ⟨g3, 1, none⟩ = some (.int .i64 x.f1) := blk_cell hx3 1
  have x2 : W3.cell? ⟨g3, 2, none⟩ = some (.int .i64 x.f2) := blk_cell hx3 2
  have x3 : W3.cell? ⟨g3, 3, none⟩ = some (.int .i64 x.f3) := blk_cell hx3 3
  have x4 : W3.cell? ⟨g3, 4, none⟩ = some (.int .i64 x.f4) := blk_cell hx3 4
  have x5 : W3.cell? ⟨g3, 5, none⟩ = some (.int .i64 x.f5) := blk_cell hx3 5
  have x6 : W3.cell? ⟨g3, 6, none⟩ = some (.int .i64 x.f6) := blk_cell hx3 6
  have x7 : W3.cell? ⟨g3, 7, none⟩ = some (.int .i64 x.f7) := blk_cell hx3 7
  clear hW3 hgg hb3 hO3 hB3 hg3 hx3 y0 y1 y2 y3 y4 y5 y6 y7 d0 d37
  go_wp2_with fail
  have hgr := goal_run HO3.out x HOK.out
  unfold insA at hgr
  obtain ⟨to_, hto⟩ : ∃ t, t = (goalC s x).1 := ⟨_, rfl⟩
  rw [HGO.out, ← hto] at hgr
  have HTO := Aside0.mk hto
  refine hgr.mono ?_
  rintro e W4 ⟨rfl, hb4⟩
  have hg4 := blk_below HG3.out hb4
  have hx4 := blk_below HX3.out hb4
  have HO4 := Aside0.mk (HO3.out.below hb4)
  have HB4 := Aside0.mk (below_step HB3.out hb4)
  have HG4 := Aside0.mk hg4
  have HX4 := Aside0.mk hx4
  clear hgr hto hb4 hg4 hx4
  clear q0 q1 q2 f0 f1 f2 x0 x1 x2 x3 x4 x5 x6 x7
  have c37 := HO4.out.c37
  rw [HK.out] at c37
  go_wp2_with fail
  have hgo := go_run HO4.out to_
  rw [show mayGo s to_ = false from by rw [HTO.out]; exact HMAY.out] at hgo
  refine hgo.mono ?_
  rintro e W5 ⟨rfl, hT5⟩
  have HT5 := Aside0.mk hT5
  have HG5 := Aside0.mk (blk_kept HG4.out hT5.2.1 (fun h => h.elim (fun h => by have h1 := H0.out.lt; have h2 := HG.out; omega) (fun h => by have h1 := H0.out.ltm; have h2 := HG.out; omega)))
  have HX5 := Aside0.mk (blk_kept HX4.out hT5.2.1 (fun h => h.elim (fun h => by have h1 := H0.out.lt; have h2 := HGE.out; omega) (fun h => by have h1 := H0.out.ltm; have h2 := HGE.out; omega)))
  clear hgo hT5 c37
  have q0 : W5.cell? ⟨g, 0, none⟩ = some (.int .i64 0) := blk_cell (HG5.out) 0
  have f0 : W5.frozen? ⟨g, 0, none⟩ = false := blk_frozen (HG5.out) 0
  have q1 : W5.cell? ⟨g, 1, none⟩ = some (.int .i64 0) := blk_cell (HG5.out) 1
  have f1 : W5.frozen? ⟨g, 1, none⟩ = false := blk_frozen (HG5.out) 1
  have q2 : W5.cell? ⟨g, 2, none⟩ = some (.int .i64 0) := blk_cell (HG5.out) 2
  have f2 : W5.frozen? ⟨g, 2, none⟩ = false := blk_frozen (HG5.out) 2
  have x0 : W5.cell? ⟨g3, 0, none⟩ = some (.int .i64 x.f0) := blk_cell (HX5.out) 0
  have x1 : W5.cell? ⟨g3, 1, none⟩ = some (.int .i64 x.f1) := blk_cell (HX5.out) 1
  have x2 : W5.cell? ⟨g3, 2, none⟩ = some (.int .i64 x.f2) := blk_cell (HX5.out) 2
  have x3 : W5.cell? ⟨g3, 3, none⟩ = some (.int .i64 x.f3) := blk_cell (HX5.out) 3
  have x4 : W5.cell? ⟨g3, 4, none⟩ = some (.int .i64 x.f4) := blk_cell (HX5.out) 4
  have x5 : W5.cell? ⟨g3, 5, none⟩ = some (.int .i64 x.f5) := blk_cell (HX5.out) 5
  have x6 : W5.cell? ⟨g3, 6, none⟩ = some (.int .i64 x.f6) := blk_cell (HX5.out) 6
  have x7 : W5.cell? ⟨g3, 7, none⟩ = some (.int .i64 x.f7) := blk_cell (HX5.out) 7

  go_wp2_with fail
  refine bodyPost_ret (results_cell_row rfl _ _ g 53 #[.int .i64 6, .int .i64 0, .int .i64 0] (0, 0) _ rfl (blk_three HG5.out _ _ _) Try.underlying53 rfl (by kernel_rfl)) rfl ?_
  have hgs : goS s to_ = s := by unfold goS; rw [show mayGo s to_ = false from by rw [HTO.out]; exact HMAY.out, if_neg (by simp)]
  rw [hgs] at HT5
  exact ⟨rfl, (((CTo.start HB4.out H0.out.le HT5.out).far HE.out H0.out.le (Nat.le_of_eq HG.out) 0 _).far HE.out H0.out.le (Nat.le_of_eq HG.out) 1 _).far HE.out H0.out.le (Nat.le_of_eq HG.out) 2 _⟩
set_option maxRecDepth 100000 in
set_option maxHeartbeats 2000000 in
theorem step_goal (h : COK w 69 B E p A c bm s) (hE : E ≤ w.heap.size) (hs : SOK s) (x : Ins) (hx : insC s = x) (he : ¬ s.pl = (s.ws.length : Int)) (h0 : ¬ x.f0 = 0) (o : okI x) (hgo : (goalC s x).2 = true) (hmay : mayGo s (goalC s x).1 = true) (h24 : ¬ x.f0 = 24) :
    Calls Try.prog 24 #[.pointer (some ⟨p, 0, none⟩)] w fun e w' => e = .returned (.agg #[.int .i64 0, .int .i64 0, .int .i64 1]) ∧ CTo w 69 B E p A c bm (goneC s x) w' := by
  have hu := Try.underlying53
  have hux := Try.underlying61
  have hB0 := below_alloc (Below.refl w.heap.size w) (.cells #[.int .i64 0, .int .i64 0, .int .i64 0] 53)
  have hblk := blk_new w (.cells #[.int .i64 0, .int .i64 0, .int .i64 0] 53)
  have hO := h.below hB0
  obtain ⟨W, hW⟩ : ∃ W, w.alloc (.cells #[.int .i64 0, .int .i64 0, .int .i64 0] 53) = W := ⟨_, rfl⟩
  obtain ⟨g, hg⟩ : ∃ g, w.heap.size = g := ⟨_, rfl⟩
  have hgW : W.heap.size = g + 1 := by rw [← hW, ← hg, World.size_alloc]
  rw [hW] at hB0 hblk hO
  rw [hg] at hblk
  have q0 : W.cell? ⟨g, 0, none⟩ = some (.int .i64 0) := blk_cell hblk 0
  have q1 : W.cell? ⟨g, 1, none⟩ = some (.int .i64 0) := blk_cell hblk 1
  have q2 : W.cell? ⟨g, 2, none⟩ = some (.int .i64 0) := blk_cell hblk 2
  have f0 : W.frozen? ⟨g, 0, none⟩ = false := blk_frozen hblk 0
  have f1 : W.frozen? ⟨g, 1, none⟩ = false := blk_frozen hblk 1
  have f2 : W.frozen? ⟨g, 2, none⟩ = false := blk_frozen hblk 2
  have HO := Aside0.mk hO
  have HB0 := Aside0.mk hB0
  have HBK := Aside0.mk hblk
  have HW := Aside0.mk hW
  have HG := Aside0.mk hg
  have HGW := Aside0.mk hgW
  have H0 := Aside0.mk h
  have HE := Aside0.mk hE
  have c0 := HO.out.c0
  have c37 := HO.out.c37
  clear h hO hB0 hblk hW hg hgW hE
  have hkk := hs.p0
  have hk2 := hs.p1
  obtain ⟨k, hk⟩ : ∃ k : Nat, s.pl = (k : Int) := ⟨s.pl.toNat, by omega⟩
  rw [hk] at c37 hk2 he
  have hkl : k < s.ws.length := by omega
  have hki : (k : Int) < (s.ws.length : Int) := by omega
  have hk0 : 0 ≤ (k : Int) := by omega
  have e1 : ((k : Int) == (s.ws.length : Int)) = false := by simpa using he
  have HK := Aside0.mk hk
  obtain ⟨ad, hA, x0, x1, x2, x3, x4, x5, x6, x7⟩ := at_T61 (Kd.R_reads' HO.out.own).2.2 (k : Int) (by omega) (by omega)
  subst hA
  have hrx : rd_T61 s.ws (k : Int) = x := by rw [← hx]; unfold insC; rw [hk]
  rw [Int.toNat_natCast, hrx] at x0 x1 x2 x3 x4 x5 x6 x7
  have HS := Aside0.mk hs
  clear hkk hk2 hk hs hrx he
  have n0 : (x.f0 == 0) = false := by simpa using h0
  have HGO := Aside0.mk hgo
  have HMAY := Aside0.mk hmay
  have HOK := Aside0.mk o
  have H24 := Aside0.mk h24
  clear h24
  clear h0 hgo hmay o
  go_enter Try.func24, Try.ntmps24
  go_wp2_with fail
  rw [HW.out, HG.out]
  go_big_quiet (fail)
  have HO1 := Aside0.mk (HO.out.drewN nq)
  have HB1 := Aside0.mk (below_dN0 HB0.out nq)
  have HBK1 := Aside0.mk (blk_drewN HBK.out nq)
  have hz1 : (W.drewN nq).heap.size = g + 1 := HGW.out
  have y0 : (W.drewN nq).cell? _ = _ := x0
  have y1 : (W.drewN nq).cell? _ = _ := x1
  have y2 : (W.drewN nq).cell? _ = _ := x2
  have y3 : (W.drewN nq).cell? _ = _ := x3
  have y4 : (W.drewN nq).cell? _ = _ := x4
  have y5 : (W.drewN nq).cell? _ = _ := x5
  have y6 : (W.drewN nq).cell? _ = _ := x6
  have y7 : (W.drewN nq).cell? _ = _ := x7
  have d0 := HO1.out.c0
  have d37 := HO1.out.c37
  rw [HK.out] at d37
  clear q0 q1 q2 f0 f1 f2 c0 c37 x0 x1 x2 x3 x4 x5 x6 x7
  go_upto_region 3 with (fail)
  obtain ⟨W1, hW1⟩ : ∃ W1, W.drewN nq = W1 := ⟨_, rfl⟩
  rw [hW1] at HO1 HB1 HBK1 hz1 y0 y1 y2 y3 y4 y5 y6 y7 d0 d37 ⊢
  clear hW1
  have HZ1 := Aside0.mk hz1
  clear hz1
  have hp1 := HO1.out.lt
  have hp2 : p ≠ W1.heap.size := Nat.ne_of_lt hp1
  have ha1 := World.block_lt_of_cell? _ _ y0
  have ha2 : (ad.add (k * 8)).block ≠ W1.heap.size := Nat.ne_of_lt ha1
  go_region
  clear hp1 hp2 ha1 ha2
  go_upto_region 4 with (fail)
  have hb3 := below_drew (below_alloc (Below.refl W1.heap.size W1) (.cells #[.int .i64 x.f0, .int .i64 x.f1, .int .i64 x.f2, .int .i64 x.f3, .int .i64 x.f4, .int .i64 x.f5, .int .i64 x.f6, .int .i64 x.f7] 61))
  have hO3 := HO1.out.below hb3
  have hB3 := below_step HB1.out hb3
  have hg3 := blk_below HBK1.out hb3
  have hx3 := blk_drew (blk_new W1 (.cells #[.int .i64 x.f0, .int .i64 x.f1, .int .i64 x.f2, .int .i64 x.f3, .int .i64 x.f4, .int .i64 x.f5, .int .i64 x.f6, .int .i64 x.f7] 61))
  obtain ⟨W3, hW3⟩ : ∃ W3, (W1.alloc (.cells #[.int .i64 x.f0, .int .i64 x.f1, .int .i64 x.f2, .int .i64 x.f3, .int .i64 x.f4, .int .i64 x.f5, .int .i64 x.f6, .int .i64 x.f7] 61)).drew = W3 := ⟨_, rfl⟩
  obtain ⟨g3, hgg⟩ : ∃ g3, W1.heap.size = g3 := ⟨_, rfl⟩
  rw [hW3] at hb3 hO3 hB3 hg3 hx3 ⊢
  rw [hgg] at hx3 ⊢
  have HO3 := Aside0.mk hO3
  have HB3 := Aside0.mk hB3
  have HG3 := Aside0.mk hg3
  have HX3 := Aside0.mk hx3
  have HGE := Aside0.mk (show w.heap.size ≤ g3 by have h1 := HZ1.out; have h2 := HG.out; omega)
  have q0 : W3.cell? ⟨g, 0, none⟩ = some (.int .i64 0) := blk_cell hg3 0
  have q1 : W3.cell? ⟨g, 1, none⟩ = some (.int .i64 0) := blk_cell hg3 1
  have q2 : W3.cell? ⟨g, 2, none⟩ = some (.int .i64 0) := blk_cell hg3 2
  have f0 : W3.frozen? ⟨g, 0, none⟩ = false := blk_frozen hg3 0
  have f1 : W3.frozen? ⟨g, 1, none⟩ = false := blk_frozen hg3 1
  have f2 : W3.frozen? ⟨g, 2, none⟩ = false := blk_frozen hg3 2
  have x0 : W3.cell? ⟨g3, 0, none⟩ = some (.int .i64 x.f0) := blk_cell hx3 0
  have x1 : W3.cell? ⟨g3, 1, none⟩ = some (.int .i64 x.f1) := blk_cell hx3 1
  have x2 : W3.cell? ⟨g3, 2, none⟩ = some (.int .i64 x.f2) := blk_cell hx3 2
  have x3 : W3.cell? ⟨g3, 3, none⟩ = some (.int .i64 x.f3) := blk_cell hx3 3
  have x4 : W3.cell? ⟨g3, 4, none⟩ = some (.int .i64 x.f4) := blk_cell hx3 4
  have x5 : W3.cell? ⟨g3, 5, none⟩ = some (.int .i64 x.f5) := blk_cell hx3 5
  have x6 : W3.cell? ⟨g3, 6, none⟩ = some (.int .i64 x.f6) := blk_cell hx3 6
  have x7 : W3.cell? ⟨g3, 7, none⟩ = some (.int .i64 x.f7) := blk_cell hx3 7
  clear hW3 hgg hb3 hO3 hB3 hg3 hx3 y0 y1 y2 y3 y4 y5 y6 y7 d0 d37
  go_wp2_with fail
  have hgr := goal_run HO3.out x HOK.out
  unfold insA at hgr
  obtain ⟨to_, hto⟩ : ∃ t, t = (goalC s x).1 := ⟨_, rfl⟩
  rw [HGO.out, ← hto] at hgr
  have HTO := Aside0.mk hto
  refine hgr.mono ?_
  rintro e W4 ⟨rfl, hb4⟩
  have hg4 := blk_below HG3.out hb4
  have hx4 := blk_below HX3.out hb4
  have HO4 := Aside0.mk (HO3.out.below hb4)
  have HB4 := Aside0.mk (below_step HB3.out hb4)
  have HG4 := Aside0.mk hg4
  have HX4 := Aside0.mk hx4
  clear hgr hto hb4 hg4 hx4
  clear q0 q1 q2 f0 f1 f2 x0 x1 x2 x3 x4 x5 x6 x7
  have c37 := HO4.out.c37
  rw [HK.out] at c37
  go_wp2_with fail
  have hgo := go_run HO4.out to_
  rw [show mayGo s to_ = true from by rw [HTO.out]; exact HMAY.out] at hgo
  refine hgo.mono ?_
  rintro e W5 ⟨rfl, hT5⟩
  have HT5 := Aside0.mk hT5
  have HG5 := Aside0.mk (blk_kept HG4.out hT5.2.1 (fun h => h.elim (fun h => by have h1 := H0.out.lt; have h2 := HG.out; omega) (fun h => by have h1 := H0.out.ltm; have h2 := HG.out; omega)))
  have HX5 := Aside0.mk (blk_kept HX4.out hT5.2.1 (fun h => h.elim (fun h => by have h1 := H0.out.lt; have h2 := HGE.out; omega) (fun h => by have h1 := H0.out.ltm; have h2 := HGE.out; omega)))
  clear hgo hT5 c37
  have q0 : W5.cell? ⟨g, 0, none⟩ = some (.int .i64 0) := blk_cell (HG5.out) 0
  have f0 : W5.frozen? ⟨g, 0, none⟩ = false := blk_frozen (HG5.out) 0
  have q1 : W5.cell? ⟨g, 1, none⟩ = some (.int .i64 0) := blk_cell (HG5.out) 1
  have f1 : W5.frozen? ⟨g, 1, none⟩ = false := blk_frozen (HG5.out) 1
  have q2 : W5.cell? ⟨g, 2, none⟩ = some (.int .i64 0) := blk_cell (HG5.out) 2
  have f2 : W5.frozen? ⟨g, 2, none⟩ = false := blk_frozen (HG5.out) 2
  have x0 : W5.cell? ⟨g3, 0, none⟩ = some (.int .i64 x.f0) := blk_cell (HX5.out) 0
  have x1 : W5.cell? ⟨g3, 1, none⟩ = some (.int .i64 x.f1) := blk_cell (HX5.out) 1
  have x2 : W5.cell? ⟨g3, 2, none⟩ = some (.int .i64 x.f2) := blk_cell (HX5.out) 2
  have x3 : W5.cell? ⟨g3, 3, none⟩ = some (.int .i64 x.f3) := blk_cell (HX5.out) 3
  have x4 : W5.cell? ⟨g3, 4, none⟩ = some (.int .i64 x.f4) := blk_cell (HX5.out) 4
  have x5 : W5.cell? ⟨g3, 5, none⟩ = some (.int .i64 x.f5) := blk_cell (HX5.out) 5
  have x6 : W5.cell? ⟨g3, 6, none⟩ = some (.int .i64 x.f6) := blk_cell (HX5.out) 6
  have x7 : W5.cell? ⟨g3, 7, none⟩ = some (.int .i64 x.f7) := blk_cell (HX5.out) 7

  have n24 : (x.f0 == 24) = false := by simpa using H24.out
  go_wp2_with fail
  refine bodyPost_ret (results_cell_row rfl _ _ g 53 #[.int .i64 0, .int .i64 0, .int .i64 1] (0, 0) _ rfl (blk_three HG5.out _ _ _) Try.underlying53 rfl (by kernel_rfl)) rfl ?_
  have hgs : goneC s x = goS s to_ := by unfold goneC; rw [if_neg H24.out, ← HTO.out]
  rw [hgs]
  exact ⟨rfl, (((CTo.start HB4.out H0.out.le HT5.out).far HE.out H0.out.le (Nat.le_of_eq HG.out) 0 _).far HE.out H0.out.le (Nat.le_of_eq HG.out) 1 _).far HE.out H0.out.le (Nat.le_of_eq HG.out) 2 _⟩
set_option maxRecDepth 100000 in
set_option maxHeartbeats 2000000 in
theorem step_link (h : COK w 69 B E p A c bm s) (hE : E ≤ w.heap.size) (hs : SOK s) (x : Ins) (hx : insC s = x) (he : ¬ s.pl = (s.ws.length : Int)) (h0 : ¬ x.f0 = 0) (o : okI x) (hgo : (goalC s x).2 = true) (hmay : mayGo s (goalC s x).1 = true) (h24 : x.f0 = 24) :
    Calls Try.prog 24 #[.pointer (some ⟨p, 0, none⟩)] w fun e w' => e = .returned (.agg #[.int .i64 0, .int .i64 0, .int .i64 1]) ∧ CTo w 69 B E p A c bm (goneC s x) w' := by
  have hu := Try.underlying53
  have hux := Try.underlying61
  have hB0 := below_alloc (Below.refl w.heap.size w) (.cells #[.int .i64 0, .int .i64 0, .int .i64 0] 53)
  have hblk := blk_new w (.cells #[.int .i64 0, .int .i64 0, .int .i64 0] 53)
  have hO := h.below hB0
  obtain ⟨W, hW⟩ : ∃ W, w.alloc (.cells #[.int .i64 0, .int .i64 0, .int .i64 0] 53) = W := ⟨_, rfl⟩
  obtain ⟨g, hg⟩ : ∃ g, w.heap.size = g := ⟨_, rfl⟩
  have hgW : W.heap.size = g + 1 := by rw [← hW, ← hg, World.size_alloc]
  rw [hW] at hB0 hblk hO
  rw [hg] at hblk
  have q0 : W.cell? ⟨g, 0, none⟩ = some (.int .i64 0) := blk_cell hblk 0
  have q1 : W.cell? ⟨g, 1, none⟩ = some (.int .i64 0) := blk_cell hblk 1
  have q2 : W.cell? ⟨g, 2, none⟩ = some (.int .i64 0) := blk_cell hblk 2
  have f0 : W.frozen? ⟨g, 0, none⟩ = false := blk_frozen hblk 0
  have f1 : W.frozen? ⟨g, 1, none⟩ = false := blk_frozen hblk 1
  have f2 : W.frozen? ⟨g, 2, none⟩ = false := blk_frozen hblk 2
  have HO := Aside0.mk hO
  have HB0 := Aside0.mk hB0
  have HBK := Aside0.mk hblk
  have HW := Aside0.mk hW
  have HG := Aside0.mk hg
  have HGW := Aside0.mk hgW
  have H0 := Aside0.mk h
  have HE := Aside0.mk hE
  have c0 := HO.out.c0
  have c37 := HO.out.c37
  clear h hO hB0 hblk hW hg hgW hE
  have hkk := hs.p0
  have hk2 := hs.p1
  obtain ⟨k, hk⟩ : ∃ k : Nat, s.pl = (k : Int) := ⟨s.pl.toNat, by omega⟩
  rw [hk] at c37 hk2 he
  have hkl : k < s.ws.length := by omega
  have hki : (k : Int) < (s.ws.length : Int) := by omega
  have hk0 : 0 ≤ (k : Int) := by omega
  have e1 : ((k : Int) == (s.ws.length : Int)) = false := by simpa using he
  have HK := Aside0.mk hk
  obtain ⟨ad, hA, x0, x1, x2, x3, x4, x5, x6, x7⟩ := at_T61 (Kd.R_reads' HO.out.own).2.2 (k : Int) (by omega) (by omega)
  subst hA
  have hrx : rd_T61 s.ws (k : Int) = x := by rw [← hx]; unfold insC; rw [hk]
  rw [Int.toNat_natCast, hrx] at x0 x1 x2 x3 x4 x5 x6 x7
  have HS := Aside0.mk hs
  clear hkk hk2 hk hs hrx he
  have n0 : (x.f0 == 0) = false := by simpa using h0
  have HGO := Aside0.mk hgo
  have HMAY := Aside0.mk hmay
  have HOK := Aside0.mk o
  have H24 := Aside0.mk h24
  clear h24
  clear h0 hgo hmay o
  go_enter Try.func24, Try.ntmps24
  go_wp2_with fail
  rw [HW.out, HG.out]
  go_big_quiet (fail)
  have HO1 := Aside0.mk (HO.out.drewN nq)
  have HB1 := Aside0.mk (below_dN0 HB0.out nq)
  have HBK1 := Aside0.mk (blk_drewN HBK.out nq)
  have hz1 : (W.drewN nq).heap.size = g + 1 := HGW.out
  have y0 : (W.drewN nq).cell? _ = _ := x0
  have y1 : (W.drewN nq).cell? _ = _ := x1
  have y2 : (W.drewN nq).cell? _ = _ := x2
  have y3 : (W.drewN nq).cell? _ = _ := x3
  have y4 : (W.drewN nq).cell? _ = _ := x4
  have y5 : (W.drewN nq).cell? _ = _ := x5
  have y6 : (W.drewN nq).cell? _ = _ := x6
  have y7 : (W.drewN nq).cell? _ = _ := x7
  have d0 := HO1.out.c0
  have d37 := HO1.out.c37
  rw [HK.out] at d37
  clear q0 q1 q2 f0 f1 f2 c0 c37 x0 x1 x2 x3 x4 x5 x6 x7
  go_upto_region 3 with (fail)
  obtain ⟨W1, hW1⟩ : ∃ W1, W.drewN nq = W1 := ⟨_, rfl⟩
  rw [hW1] at HO1 HB1 HBK1 hz1 y0 y1 y2 y3 y4 y5 y6 y7 d0 d37 ⊢
  clear hW1
  have HZ1 := Aside0.mk hz1
  clear hz1
  have hp1 := HO1.out.lt
  have hp2 : p ≠ W1.heap.size := Nat.ne_of_lt hp1
  have ha1 := World.block_lt_of_cell? _ _ y0
  have ha2 : (ad.add (k * 8)).block ≠ W1.heap.size := Nat.ne_of_lt ha1
  go_region
  clear hp1 hp2 ha1 ha2
  go_upto_region 4 with (fail)
  have hb3 := below_drew (below_alloc (Below.refl W1.heap.size W1) (.cells #[.int .i64 x.f0, .int .i64 x.f1, .int .i64 x.f2, .int .i64 x.f3, .int .i64 x.f4, .int .i64 x.f5, .int .i64 x.f6, .int .i64 x.f7] 61))
  have hO3 := HO1.out.below hb3
  have hB3 := below_step HB1.out hb3
  have hg3 := blk_below HBK1.out hb3
  have hx3 := blk_drew (blk_new W1 (.cells #[.int .i64 x.f0, .int .i64 x.f1, .int .i64 x.f2, .int .i64 x.f3, .int .i64 x.f4, .int .i64 x.f5, .int .i64 x.f6, .int .i64 x.f7] 61))
  obtain ⟨W3, hW3⟩ : ∃ W3, (W1.alloc (.cells #[.int .i64 x.f0, .int .i64 x.f1, .int .i64 x.f2, .int .i64 x.f3, .int .i64 x.f4, .int .i64 x.f5, .int .i64 x.f6, .int .i64 x.f7] 61)).drew = W3 := ⟨_, rfl⟩
  obtain ⟨g3, hgg⟩ : ∃ g3, W1.heap.size = g3 := ⟨_, rfl⟩
  rw [hW3] at hb3 hO3 hB3 hg3 hx3 ⊢
  rw [hgg] at hx3 ⊢
  have HO3 := Aside0.mk hO3
  have HB3 := Aside0.mk hB3
  have HG3 := Aside0.mk hg3
  have HX3 := Aside0.mk hx3
  have HGE := Aside0.mk (show w.heap.size ≤ g3 by have h1 := HZ1.out; have h2 := HG.out; omega)
  have q0 : W3.cell? ⟨g, 0, none⟩ = some (.int .i64 0) := blk_cell hg3 0
  have q1 : W3.cell? ⟨g, 1, none⟩ = some (.int .i64 0) := blk_cell hg3 1
  have q2 : W3.cell? ⟨g, 2, none⟩ = some (.int .i64 0) := blk_cell hg3 2
  have f0 : W3.frozen? ⟨g, 0, none⟩ = false := blk_frozen hg3 0
  have f1 : W3.frozen? ⟨g, 1, none⟩ = false := blk_frozen hg3 1
  have f2 : W3.frozen? ⟨g, 2, none⟩ = false := blk_frozen hg3 2
  have x0 : W3.cell? ⟨g3, 0, none⟩ = some (.int .i64 x.f0) := blk_cell hx3 0
  have x1 : W3.cell? ⟨g3, 1, none⟩ = some (.int .i64 x.f1) := blk_cell hx3 1
  have x2 : W3.cell? ⟨g3, 2, none⟩ = some (.int .i64 x.f2) := blk_cell hx3 2
  have x3 : W3.cell? ⟨g3, 3, none⟩ = some (.int .i64 x.f3) := blk_cell hx3 3
  have x4 : W3.cell? ⟨g3, 4, none⟩ = some (.int .i64 x.f4) := blk_cell hx3 4
  have x5 : W3.cell? ⟨g3, 5, none⟩ = some (.int .i64 x.f5) := blk_cell hx3 5
  have x6 : W3.cell? ⟨g3, 6, none⟩ = some (.int .i64 x.f6) := blk_cell hx3 6
  have x7 : W3.cell? ⟨g3, 7, none⟩ = some (.int .i64 x.f7) := blk_cell hx3 7
  clear hW3 hgg hb3 hO3 hB3 hg3 hx3 y0 y1 y2 y3 y4 y5 y6 y7 d0 d37
  go_wp2_with fail
  have hgr := goal_run HO3.out x HOK.out
  unfold insA at hgr
  obtain ⟨to_, hto⟩ : ∃ t, t = (goalC s x).1 := ⟨_, rfl⟩
  rw [HGO.out, ← hto] at hgr
  have HTO := Aside0.mk hto
  refine hgr.mono ?_
  rintro e W4 ⟨rfl, hb4⟩
  have hg4 := blk_below HG3.out hb4
  have hx4 := blk_below HX3.out hb4
  have HO4 := Aside0.mk (HO3.out.below hb4)
  have HB4 := Aside0.mk (below_step HB3.out hb4)
  have HG4 := Aside0.mk hg4
  have HX4 := Aside0.mk hx4
  clear hgr hto hb4 hg4 hx4
  clear q0 q1 q2 f0 f1 f2 x0 x1 x2 x3 x4 x5 x6 x7
  have c37 := HO4.out.c37
  rw [HK.out] at c37
  go_wp2_with fail
  have hgo := go_run HO4.out to_
  rw [show mayGo s to_ = true from by rw [HTO.out]; exact HMAY.out] at hgo
  refine hgo.mono ?_
  rintro e W5 ⟨rfl, hT5⟩
  have HT5 := Aside0.mk hT5
  have HG5 := Aside0.mk (blk_kept HG4.out hT5.2.1 (fun h => h.elim (fun h => by have h1 := H0.out.lt; have h2 := HG.out; omega) (fun h => by have h1 := H0.out.ltm; have h2 := HG.out; omega)))
  have HX5 := Aside0.mk (blk_kept HX4.out hT5.2.1 (fun h => h.elim (fun h => by have h1 := H0.out.lt; have h2 := HGE.out; omega) (fun h => by have h1 := H0.out.ltm; have h2 := HGE.out; omega)))
  clear hgo hT5 c37
  have q0 : W5.cell? ⟨g, 0, none⟩ = some (.int .i64 0) := blk_cell (HG5.out) 0
  have f0 : W5.frozen? ⟨g, 0, none⟩ = false := blk_frozen (HG5.out) 0
  have q1 : W5.cell? ⟨g, 1, none⟩ = some (.int .i64 0) := blk_cell (HG5.out) 1
  have f1 : W5.frozen? ⟨g, 1, none⟩ = false := blk_frozen (HG5.out) 1
  have q2 : W5.cell? ⟨g, 2, none⟩ = some (.int .i64 0) := blk_cell (HG5.out) 2
  have f2 : W5.frozen? ⟨g, 2, none⟩ = false := blk_frozen (HG5.out) 2
  have x0 : W5.cell? ⟨g3, 0, none⟩ = some (.int .i64 x.f0) := blk_cell (HX5.out) 0
  have x1 : W5.cell? ⟨g3, 1, none⟩ = some (.int .i64 x.f1) := blk_cell (HX5.out) 1
  have x2 : W5.cell? ⟨g3, 2, none⟩ = some (.int .i64 x.f2) := blk_cell (HX5.out) 2
  have x3 : W5.cell? ⟨g3, 3, none⟩ = some (.int .i64 x.f3) := blk_cell (HX5.out) 3
  have x4 : W5.cell? ⟨g3, 4, none⟩ = some (.int .i64 x.f4) := blk_cell (HX5.out) 4
  have x5 : W5.cell? ⟨g3, 5, none⟩ = some (.int .i64 x.f5) := blk_cell (HX5.out) 5
  have x6 : W5.cell? ⟨g3, 6, none⟩ = some (.int .i64 x.f6) := blk_cell (HX5.out) 6
  have x7 : W5.cell? ⟨g3, 7, none⟩ = some (.int .i64 x.f7) := blk_cell (HX5.out) 7

  have HX24 := Aside0.mk (HX5.out)
  rw [H24.out] at x0
  have r30 : W5.cell? ⟨p, 31, none⟩ = _ := HT5.out.1.cx 30 (by decide)
  have u30 : W5.frozen? ⟨p, 31, none⟩ = false := HT5.out.1.fr 31
  go_wp2_with fail
  have hgp : g ≠ p := by have h1 := H0.out.lt; have h2 := HG.out; omega
  refine bodyPost_ret (results_cell_row rfl _ _ g 53 #[.int .i64 0, .int .i64 0, .int .i64 1] (0, 0) _ rfl (blk_three (blk_far HG5.out (p := ⟨p, 31, none⟩) hgp _) _ _ _) Try.underlying53 rfl (by kernel_rfl)) rfl ?_
  have hgs : goneC s x = setX (goS s to_) ((30 : Nat) : Int) (wrap64 (4 * wrap64 ((k : Int) + 1))) := by unfold goneC; rw [if_pos H24.out, ← HTO.out, HK.out]; rfl
  rw [hgs]
  exact ⟨rfl, (((CTo.start HB4.out H0.out.le (HT5.out.trans (HT5.out.1.setX 30 (by decide) _))).far HE.out H0.out.le (Nat.le_of_eq HG.out) 0 _).far HE.out H0.out.le (Nat.le_of_eq HG.out) 1 _).far HE.out H0.out.le (Nat.le_of_eq HG.out) 2 _⟩
set_option maxRecDepth 100000 in
set_option maxHeartbeats 2000000 in
theorem step_ldr (h : COK w 69 B E p A c bm s) (hE : E ≤ w.heap.size) (hs : SOK s) (x : Ins) (hx : insC s = x) (he : ¬ s.pl = (s.ws.length : Int)) (h0 : x.f0 = 19) (o : okI x) (hgo : (goalC s x).2 = false) (hmm : mayM s (memA s x) = true) :
    Calls Try.prog 24 #[.pointer (some ⟨p, 0, none⟩)] w fun e w' => e = .returned (.agg #[.int .i64 0, .int .i64 0, .int .i64 1]) ∧ CTo w 69 B E p A c bm (nextC (memC s x)) w' := by
  have hu := Try.underlying53
  have hux := Try.underlying61
  have hB0 := below_alloc (Below.refl w.heap.size w) (.cells #[.int .i64 0, .int .i64 0, .int .i64 0] 53)
  have hblk := blk_new w (.cells #[.int .i64 0, .int .i64 0, .int .i64 0] 53)
  have hO := h.below hB0
  obtain ⟨W, hW⟩ : ∃ W, w.alloc (.cells #[.int .i64 0, .int .i64 0, .int .i64 0] 53) = W := ⟨_, rfl⟩
  obtain ⟨g, hg⟩ : ∃ g, w.heap.size = g := ⟨_, rfl⟩
  have hgW : W.heap.size = g + 1 := by rw [← hW, ← hg, World.size_alloc]
  rw [hW] at hB0 hblk hO
  rw [hg] at hblk
  have q0 : W.cell? ⟨g, 0, none⟩ = some (.int .i64 0) := blk_cell hblk 0
  have q1 : W.cell? ⟨g, 1, none⟩ = some (.int .i64 0) := blk_cell hblk 1
  have q2 : W.cell? ⟨g, 2, none⟩ = some (.int .i64 0) := blk_cell hblk 2
  have f0 : W.frozen? ⟨g, 0, none⟩ = false := blk_frozen hblk 0
  have f1 : W.frozen? ⟨g, 1, none⟩ = false := blk_frozen hblk 1
  have f2 : W.frozen? ⟨g, 2, none⟩ = false := blk_frozen hblk 2
  have HO := Aside0.mk hO
  have HB0 := Aside0.mk hB0
  have HBK := Aside0.mk hblk
  have HW := Aside0.mk hW
  have HG := Aside0.mk hg
  have HGW := Aside0.mk hgW
  have H0 := Aside0.mk h
  have HE := Aside0.mk hE
  have c0 := HO.out.c0
  have c37 := HO.out.c37
  clear h hO hB0 hblk hW hg hgW hE
  have hkk := hs.p0
  have hk2 := hs.p1
  obtain ⟨k, hk⟩ : ∃ k : Nat, s.pl = (k : Int) := ⟨s.pl.toNat, by omega⟩
  rw [hk] at c37 hk2 he
  have hkl : k < s.ws.length := by omega
  have hki : (k : Int) < (s.ws.length : Int) := by omega
  have hk0 : 0 ≤ (k : Int) := by omega
  have e1 : ((k : Int) == (s.ws.length : Int)) = false := by simpa using he
  have HK := Aside0.mk hk
  obtain ⟨ad, hA, x0, x1, x2, x3, x4, x5, x6, x7⟩ := at_T61 (Kd.R_reads' HO.out.own).2.2 (k : Int) (by omega) (by omega)
  subst hA
  have hrx : rd_T61 s.ws (k : Int) = x := by rw [← hx]; unfold insC; rw [hk]
  rw [Int.toNat_natCast, hrx] at x0 x1 x2 x3 x4 x5 x6 x7
  have HS := Aside0.mk hs
  clear hkk hk2 hk hs hrx he
  have n0 : (x.f0 == 0) = false := by simp; omega
  have n19 : (x.f0 == 19) = true := by simp; omega
  have n20 : (x.f0 == 20) = false := by simp; omega
  have n29 : (x.f0 == 29) = false := by simp; omega
  have n30 : (x.f0 == 30) = false := by simp; omega
  have H00 := Aside0.mk h0
  have HGO := Aside0.mk hgo
  have HMM := Aside0.mk hmm
  have HOK := Aside0.mk o
  clear h0 hgo hmm o
  go_enter Try.func24, Try.ntmps24
  go_wp2_with fail
  rw [HW.out, HG.out]
  go_big_quiet (fail)
  have HO1 := Aside0.mk (HO.out.drewN nq)
  have HB1 := Aside0.mk (below_dN0 HB0.out nq)
  have HBK1 := Aside0.mk (blk_drewN HBK.out nq)
  have hz1 : (W.drewN nq).heap.size = g + 1 := HGW.out
  have y0 : (W.drewN nq).cell? _ = _ := x0
  have y1 : (W.drewN nq).cell? _ = _ := x1
  have y2 : (W.drewN nq).cell? _ = _ := x2
  have y3 : (W.drewN nq).cell? _ = _ := x3
  have y4 : (W.drewN nq).cell? _ = _ := x4
  have y5 : (W.drewN nq).cell? _ = _ := x5
  have y6 : (W.drewN nq).cell? _ = _ := x6
  have y7 : (W.drewN nq).cell? _ = _ := x7
  have d0 := HO1.out.c0
  have d37 := HO1.out.c37
  rw [HK.out] at d37
  clear q0 q1 q2 f0 f1 f2 c0 c37 x0 x1 x2 x3 x4 x5 x6 x7
  go_upto_region 3 with (fail)
  obtain ⟨W1, hW1⟩ : ∃ W1, W.drewN nq = W1 := ⟨_, rfl⟩
  rw [hW1] at HO1 HB1 HBK1 hz1 y0 y1 y2 y3 y4 y5 y6 y7 d0 d37 ⊢
  clear hW1
  have HZ1 := Aside0.mk hz1
  clear hz1
  have hp1 := HO1.out.lt
  have hp2 : p ≠ W1.heap.size := Nat.ne_of_lt hp1
  have ha1 := World.block_lt_of_cell? _ _ y0
  have ha2 : (ad.add (k * 8)).block ≠ W1.heap.size := Nat.ne_of_lt ha1
  go_region
  clear hp1 hp2 ha1 ha2
  go_upto_region 4 with (fail)
  have hb3 := below_drew (below_alloc (Below.refl W1.heap.size W1) (.cells #[.int .i64 x.f0, .int .i64 x.f1, .int .i64 x.f2, .int .i64 x.f3, .int .i64 x.f4, .int .i64 x.f5, .int .i64 x.f6, .int .i64 x.f7] 61))
  have hO3 := HO1.out.below hb3
  have hB3 := below_step HB1.out hb3
  have hg3 := blk_below HBK1.out hb3
  have hx3 := blk_drew (blk_new W1 (.cells #[.int .i64 x.f0, .int .i64 x.f1, .int .i64 x.f2, .int .i64 x.f3, .int .i64 x.f4, .int .i64 x.f5, .int .i64 x.f6, .int .i64 x.f7] 61))
  obtain ⟨W3, hW3⟩ : ∃ W3, (W1.alloc (.cells #[.int .i64 x.f0, .int .i64 x.f1, .int .i64 x.f2, .int .i64 x.f3, .int .i64 x.f4, .int .i64 x.f5, .int .i64 x.f6, .int .i64 x.f7] 61)).drew = W3 := ⟨_, rfl⟩
  obtain ⟨g3, hgg⟩ : ∃ g3, W1.heap.size = g3 := ⟨_, rfl⟩
  rw [hW3] at hb3 hO3 hB3 hg3 hx3 ⊢
  rw [hgg] at hx3 ⊢
  have HO3 := Aside0.mk hO3
  have HB3 := Aside0.mk hB3
  have HG3 := Aside0.mk hg3
  have HX3 := Aside0.mk hx3
  have HGE := Aside0.mk (show w.heap.size ≤ g3 by have h1 := HZ1.out; have h2 := HG.out; omega)
  have q0 : W3.cell? ⟨g, 0, none⟩ = some (.int .i64 0) := blk_cell hg3 0
  have q1 : W3.cell? ⟨g, 1, none⟩ = some (.int .i64 0) := blk_cell hg3 1
  have q2 : W3.cell? ⟨g, 2, none⟩ = some (.int .i64 0) := blk_cell hg3 2
  have f0 : W3.frozen? ⟨g, 0, none⟩ = false := blk_frozen hg3 0
  have f1 : W3.frozen? ⟨g, 1, none⟩ = false := blk_frozen hg3 1
  have f2 : W3.frozen? ⟨g, 2, none⟩ = false := blk_frozen hg3 2
  have x0 : W3.cell? ⟨g3, 0, none⟩ = some (.int .i64 x.f0) := blk_cell hx3 0
  have x1 : W3.cell? ⟨g3, 1, none⟩ = some (.int .i64 x.f1) := blk_cell hx3 1
  have x2 : W3.cell? ⟨g3, 2, none⟩ = some (.int .i64 x.f2) := blk_cell hx3 2
  have x3 : W3.cell? ⟨g3, 3, none⟩ = some (.int .i64 x.f3) := blk_cell hx3 3
  have x4 : W3.cell? ⟨g3, 4, none⟩ = some (.int .i64 x.f4) := blk_cell hx3 4
  have x5 : W3.cell? ⟨g3, 5, none⟩ = some (.int .i64 x.f5) := blk_cell hx3 5
  have x6 : W3.cell? ⟨g3, 6, none⟩ = some (.int .i64 x.f6) := blk_cell hx3 6
  have x7 : W3.cell? ⟨g3, 7, none⟩ = some (.int .i64 x.f7) := blk_cell hx3 7
  clear hW3 hgg hb3 hO3 hB3 hg3 hx3 y0 y1 y2 y3 y4 y5 y6 y7 d0 d37
  go_wp2_with fail
  have hgr := goal_run HO3.out x HOK.out
  unfold insA at hgr
  obtain ⟨to_, hto⟩ : ∃ t, t = (goalC s x).1 := ⟨_, rfl⟩
  rw [HGO.out, ← hto] at hgr
  refine hgr.mono ?_
  rintro e W4 ⟨rfl, hb4⟩
  have hg4 := blk_below HG3.out hb4
  have hx4 := blk_below HX3.out hb4
  have HO4 := Aside0.mk (HO3.out.below hb4)
  have HB4 := Aside0.mk (below_step HB3.out hb4)
  have HG4 := Aside0.mk hg4
  have HX4 := Aside0.mk hx4
  clear hgr hto hb4 hg4 hx4
  clear q0 q1 q2 f0 f1 f2 x0 x1 x2 x3 x4 x5 x6 x7
  have q0 : W4.cell? ⟨g, 0, none⟩ = some (.int .i64 0) := blk_cell (HG4.out) 0
  have f0 : W4.frozen? ⟨g, 0, none⟩ = false := blk_frozen (HG4.out) 0
  have q1 : W4.cell? ⟨g, 1, none⟩ = some (.int .i64 0) := blk_cell (HG4.out) 1
  have f1 : W4.frozen? ⟨g, 1, none⟩ = false := blk_frozen (HG4.out) 1
  have q2 : W4.cell? ⟨g, 2, none⟩ = some (.int .i64 0) := blk_cell (HG4.out) 2
  have f2 : W4.frozen? ⟨g, 2, none⟩ = false := blk_frozen (HG4.out) 2
  have x0 : W4.cell? ⟨g3, 0, none⟩ = some (.int .i64 x.f0) := blk_cell (HX4.out) 0
  have x1 : W4.cell? ⟨g3, 1, none⟩ = some (.int .i64 x.f1) := blk_cell (HX4.out) 1
  have x2 : W4.cell? ⟨g3, 2, none⟩ = some (.int .i64 x.f2) := blk_cell (HX4.out) 2
  have x3 : W4.cell? ⟨g3, 3, none⟩ = some (.int .i64 x.f3) := blk_cell (HX4.out) 3
  have x4 : W4.cell? ⟨g3, 4, none⟩ = some (.int .i64 x.f4) := blk_cell (HX4.out) 4
  have x5 : W4.cell? ⟨g3, 5, none⟩ = some (.int .i64 x.f5) := blk_cell (HX4.out) 5
  have x6 : W4.cell? ⟨g3, 6, none⟩ = some (.int .i64 x.f6) := blk_cell (HX4.out) 6
  have x7 : W4.cell? ⟨g3, 7, none⟩ = some (.int .i64 x.f7) := blk_cell (HX4.out) 7
  go_wp2_with fail
  have hmr := memorize_run HO4.out HS.out.mok x HOK.out (by have := H00.out; omega)
  unfold insA at hmr
  rw [HMM.out] at hmr
  refine hmr.mono ?_
  rintro e W5 ⟨rfl, hT⟩
  have HG5 := Aside0.mk (blk_kept HG4.out hT.2.1 (fun h => h.elim (fun h => by have h1 := H0.out.lt; have h2 := HG.out; omega) (fun h => by have h1 := H0.out.ltm; have h2 := HG.out; omega)))
  have HX5 := Aside0.mk (blk_kept HX4.out hT.2.1 (fun h => h.elim (fun h => by have h1 := H0.out.lt; have h2 := HGE.out; omega) (fun h => by have h1 := H0.out.ltm; have h2 := HGE.out; omega)))
  have HT5 := Aside0.mk (CTo.start HB4.out H0.out.le hT)
  clear hT hmr
  clear q0 q1 q2 f0 f1 f2 x0 x1 x2 x3 x4 x5 x6 x7

  have c37 := HT5.out.1.c37
  have f37 := HT5.out.1.fr 37
  obtain ⟨pl5, hpl5⟩ : ∃ q, q = (memC s x).pl := ⟨_, rfl⟩
  rw [← hpl5] at c37
  have HPL5 := Aside0.mk hpl5
  clear hpl5
  have q0 : W5.cell? ⟨g, 0, none⟩ = some (.int .i64 0) := blk_cell (HG5.out) 0
  have f0 : W5.frozen? ⟨g, 0, none⟩ = false := blk_frozen (HG5.out) 0
  have q1 : W5.cell? ⟨g, 1, none⟩ = some (.int .i64 0) := blk_cell (HG5.out) 1
  have f1 : W5.frozen? ⟨g, 1, none⟩ = false := blk_frozen (HG5.out) 1
  have q2 : W5.cell? ⟨g, 2, none⟩ = some (.int .i64 0) := blk_cell (HG5.out) 2
  have f2 : W5.frozen? ⟨g, 2, none⟩ = false := blk_frozen (HG5.out) 2
  have x0 : W5.cell? ⟨g3, 0, none⟩ = some (.int .i64 x.f0) := blk_cell (HX5.out) 0
  have x1 : W5.cell? ⟨g3, 1, none⟩ = some (.int .i64 x.f1) := blk_cell (HX5.out) 1
  have x2 : W5.cell? ⟨g3, 2, none⟩ = some (.int .i64 x.f2) := blk_cell (HX5.out) 2
  have x3 : W5.cell? ⟨g3, 3, none⟩ = some (.int .i64 x.f3) := blk_cell (HX5.out) 3
  have x4 : W5.cell? ⟨g3, 4, none⟩ = some (.int .i64 x.f4) := blk_cell (HX5.out) 4
  have x5 : W5.cell? ⟨g3, 5, none⟩ = some (.int .i64 x.f5) := blk_cell (HX5.out) 5
  have x6 : W5.cell? ⟨g3, 6, none⟩ = some (.int .i64 x.f6) := blk_cell (HX5.out) 6
  have x7 : W5.cell? ⟨g3, 7, none⟩ = some (.int .i64 x.f7) := blk_cell (HX5.out) 7
  go_wp2_with fail
  have hgp : g ≠ p := by have h1 := H0.out.lt; have h2 := HG.out; omega
  refine bodyPost_ret (results_cell_row rfl _ _ g 53 #[.int .i64 0, .int .i64 0, .int .i64 1] (0, 0) _ rfl (blk_three (blk_far (HG5.out) (p := ⟨p, 37, none⟩) hgp _) _ _ _) Try.underlying53 rfl (by kernel_rfl)) rfl ?_
  rw [show nextC (memC s x) = { memC s x with pl := wrap64 (pl5 + 1) } by unfold nextC; rw [← HPL5.out]]
  exact ⟨rfl, (((HT5.out.trans ⟨HT5.out.1.setpl _, setCell_kept _ p bm 37 p (.inl rfl) _, (Below.refl _ _).setCell (p := ⟨p, 37, none⟩) H0.out.lp _⟩).far HE.out H0.out.le (Nat.le_of_eq HG.out) 0 _).far HE.out H0.out.le (Nat.le_of_eq HG.out) 1 _).far HE.out H0.out.le (Nat.le_of_eq HG.out) 2 _⟩
set_option maxRecDepth 100000 in
set_option maxHeartbeats 2000000 in
theorem step_str (h : COK w 69 B E p A c bm s) (hE : E ≤ w.heap.size) (hs : SOK s) (x : Ins) (hx : insC s = x) (he : ¬ s.pl = (s.ws.length : Int)) (h0 : x.f0 = 20) (o : okI x) (hgo : (goalC s x).2 = false) (hmm : mayM s (memA s x) = true) :
    Calls Try.prog 24 #[.pointer (some ⟨p, 0, none⟩)] w fun e w' => e = .returned (.agg #[.int .i64 0, .int .i64 0, .int .i64 1]) ∧ CTo w 69 B E p A c bm (nextC (memC s x)) w' := by
  have hu := Try.underlying53
  have hux := Try.underlying61
  have hB0 := below_alloc (Below.refl w.heap.size w) (.cells #[.int .i64 0, .int .i64 0, .int .i64 0] 53)
  have hblk := blk_new w (.cells #[.int .i64 0, .int .i64 0, .int .i64 0] 53)
  have hO := h.below hB0
  obtain ⟨W, hW⟩ : ∃ W, w.alloc (.cells #[.int .i64 0, .int .i64 0, .int .i64 0] 53) = W := ⟨_, rfl⟩
  obtain ⟨g, hg⟩ : ∃ g, w.heap.size = g := ⟨_, rfl⟩
  have hgW : W.heap.size = g + 1 := by rw [← hW, ← hg, World.size_alloc]
  rw [hW] at hB0 hblk hO
  rw [hg] at hblk
  have q0 : W.cell? ⟨g, 0, none⟩ = some (.int .i64 0) := blk_cell hblk 0
  have q1 : W.cell? ⟨g, 1, none⟩ = some (.int .i64 0) := blk_cell hblk 1
  have q2 : W.cell? ⟨g, 2, none⟩ = some (.int .i64 0) := blk_cell hblk 2
  have f0 : W.frozen? ⟨g, 0, none⟩ = false := blk_frozen hblk 0
  have f1 : W.frozen? ⟨g, 1, none⟩ = false := blk_frozen hblk 1
  have f2 : W.frozen? ⟨g, 2, none⟩ = false := blk_frozen hblk 2
  have HO := Aside0.mk hO
  have HB0 := Aside0.mk hB0
  have HBK := Aside0.mk hblk
  have HW := Aside0.mk hW
  have HG := Aside0.mk hg
  have HGW := Aside0.mk hgW
  have H0 := Aside0.mk h
  have HE := Aside0.mk hE
  have c0 := HO.out.c0
  have c37 := HO.out.c37
  clear h hO hB0 hblk hW hg hgW hE
  have hkk := hs.p0
  have hk2 := hs.p1
  obtain ⟨k, hk⟩ : ∃ k : Nat, s.pl = (k : Int) := ⟨s.pl.toNat, by omega⟩
  rw [hk] at c37 hk2 he
  have hkl : k < s.ws.length := by omega
  have hki : (k : Int) < (s.ws.length : Int) := by omega
  have hk0 : 0 ≤ (k : Int) := by omega
  have e1 : ((k : Int) == (s.ws.length : Int)) = false := by simpa using he
  have HK := Aside0.mk hk
  obtain ⟨ad, hA, x0, x1, x2, x3, x4, x5, x6, x7⟩ := at_T61 (Kd.R_reads' HO.out.own).2.2 (k : Int) (by omega) (by omega)
  subst hA
  have hrx : rd_T61 s.ws (k : Int) = x := by rw [← hx]; unfold insC; rw [hk]
  rw [Int.toNat_natCast, hrx] at x0 x1 x2 x3 x4 x5 x6 x7
  have HS := Aside0.mk hs
  clear hkk hk2 hk hs hrx he
  have n0 : (x.f0 == 0) = false := by simp; omega
  have n19 : (x.f0 == 19) = false := by simp; omega
  have n20 : (x.f0 == 20) = true := by simp; omega
  have n29 : (x.f0 == 29) = false := by simp; omega
  have n30 : (x.f0 == 30) = false := by simp; omega
  have H00 := Aside0.mk h0
  have HGO := Aside0.mk hgo
  have HMM := Aside0.mk hmm
  have HOK := Aside0.mk o
  clear h0 hgo hmm o
  go_enter Try.func24, Try.ntmps24
  go_wp2_with fail
  rw [HW.out, HG.out]
  go_big_quiet (fail)
  have HO1 := Aside0.mk (HO.out.drewN nq)
  have HB1 := Aside0.mk (below_dN0 HB0.out nq)
  have HBK1 := Aside0.mk (blk_drewN HBK.out nq)
  have hz1 : (W.drewN nq).heap.size = g + 1 := HGW.out
  have y0 : (W.drewN nq).cell? _ = _ := x0
  have y1 : (W.drewN nq).cell? _ = _ := x1
  have y2 : (W.drewN nq).cell? _ = _ := x2
  have y3 : (W.drewN nq).cell? _ = _ := x3
  have y4 : (W.drewN nq).cell? _ = _ := x4
  have y5 : (W.drewN nq).cell? _ = _ := x5
  have y6 : (W.drewN nq).cell? _ = _ := x6
  have y7 : (W.drewN nq).cell? _ = _ := x7
  have d0 := HO1.out.c0
  have d37 := HO1.out.c37
  rw [HK.out] at d37
  clear q0 q1 q2 f0 f1 f2 c0 c37 x0 x1 x2 x3 x4 x5 x6 x7
  go_upto_region 3 with (fail)
  obtain ⟨W1, hW1⟩ : ∃ W1, W.drewN nq = W1 := ⟨_, rfl⟩
  rw [hW1] at HO1 HB1 HBK1 hz1 y0 y1 y2 y3 y4 y5 y6 y7 d0 d37 ⊢
  clear hW1
  have HZ1 := Aside0.mk hz1
  clear hz1
  have hp1 := HO1.out.lt
  have hp2 : p ≠ W1.heap.size := Nat.ne_of_lt hp1
  have ha1 := World.block_lt_of_cell? _ _ y0
  have ha2 : (ad.add (k * 8)).block ≠ W1.heap.size := Nat.ne_of_lt ha1
  go_region
  clear hp1 hp2 ha1 ha2
  go_upto_region 4 with (fail)
  have hb3 := below_drew (below_alloc (Below.refl W1.heap.size W1) (.cells #[.int .i64 x.f0, .int .i64 x.f1, .int .i64 x.f2, .int .i64 x.f3, .int .i64 x.f4, .int .i64 x.f5, .int .i64 x.f6, .int .i64 x.f7] 61))
  have hO3 := HO1.out.below hb3
  have hB3 := below_step HB1.out hb3
  have hg3 := blk_below HBK1.out hb3
  have hx3 := blk_drew (blk_new W1 (.cells #[.int .i64 x.f0, .int .i64 x.f1, .int .i64 x.f2, .int .i64 x.f3, .int .i64 x.f4, .int .i64 x.f5, .int .i64 x.f6, .int .i64 x.f7] 61))
  obtain ⟨W3, hW3⟩ : ∃ W3, (W1.alloc (.cells #[.int .i64 x.f0, .int .i64 x.f1, .int .i64 x.f2, .int .i64 x.f3, .int .i64 x.f4, .int .i64 x.f5, .int .i64 x.f6, .int .i64 x.f7] 61)).drew = W3 := ⟨_, rfl⟩
  obtain ⟨g3, hgg⟩ : ∃ g3, W1.heap.size = g3 := ⟨_, rfl⟩
  rw [hW3] at hb3 hO3 hB3 hg3 hx3 ⊢
  rw [hgg] at hx3 ⊢
  have HO3 := Aside0.mk hO3
  have HB3 := Aside0.mk hB3
  have HG3 := Aside0.mk hg3
  have HX3 := Aside0.mk hx3
  have HGE := Aside0.mk (show w.heap.size ≤ g3 by have h1 := HZ1.out; have h2 := HG.out; omega)
  have q0 : W3.cell? ⟨g, 0, none⟩ = some (.int .i64 0) := blk_cell hg3 0
  have q1 : W3.cell? ⟨g, 1, none⟩ = some (.int .i64 0) := blk_cell hg3 1
  have q2 : W3.cell? ⟨g, 2, none⟩ = some (.int .i64 0) := blk_cell hg3 2
  have f0 : W3.frozen? ⟨g, 0, none⟩ = false := blk_frozen hg3 0
  have f1 : W3.frozen? ⟨g, 1, none⟩ = false := blk_frozen hg3 1
  have f2 : W3.frozen? ⟨g, 2, none⟩ = false := blk_frozen hg3 2
  have x0 : W3.cell? ⟨g3, 0, none⟩ = some (.int .i64 x.f0) := blk_cell hx3 0
  have x1 : W3.cell? ⟨g3, 1, none⟩ = some (.int .i64 x.f1) := blk_cell hx3 1
  have x2 : W3.cell? ⟨g3, 2, none⟩ = some (.int .i64 x.f2) := blk_cell hx3 2
  have x3 : W3.cell? ⟨g3, 3, none⟩ = some (.int .i64 x.f3) := blk_cell hx3 3
  have x4 : W3.cell? ⟨g3, 4, none⟩ = some (.int .i64 x.f4) := blk_cell hx3 4
  have x5 : W3.cell? ⟨g3, 5, none⟩ = some (.int .i64 x.f5) := blk_cell hx3 5
  have x6 : W3.cell? ⟨g3, 6, none⟩ = some (.int .i64 x.f6) := blk_cell hx3 6
  have x7 : W3.cell? ⟨g3, 7, none⟩ = some (.int .i64 x.f7) := blk_cell hx3 7
  clear hW3 hgg hb3 hO3 hB3 hg3 hx3 y0 y1 y2 y3 y4 y5 y6 y7 d0 d37
  go_wp2_with fail
  have hgr := goal_run HO3.out x HOK.out
  unfold insA at hgr
  obtain ⟨to_, hto⟩ : ∃ t, t = (goalC s x).1 := ⟨_, rfl⟩
  rw [HGO.out, ← hto] at hgr
  refine hgr.mono ?_
  rintro e W4 ⟨rfl, hb4⟩
  have hg4 := blk_below HG3.out hb4
  have hx4 := blk_below HX3.out hb4
  have HO4 := Aside0.mk (HO3.out.below hb4)
  have HB4 := Aside0.mk (below_step HB3.out hb4)
  have HG4 := Aside0.mk hg4
  have HX4 := Aside0.mk hx4
  clear hgr hto hb4 hg4 hx4
  clear q0 q1 q2 f0 f1 f2 x0 x1 x2 x3 x4 x5 x6 x7
  have q0 : W4.cell? ⟨g, 0, none⟩ = some (.int .i64 0) := blk_cell (HG4.out) 0
  have f0 : W4.frozen? ⟨g, 0, none⟩ = false := blk_frozen (HG4.out) 0
  have q1 : W4.cell? ⟨g, 1, none⟩ = some (.int .i64 0) := blk_cell (HG4.out) 1
  have f1 : W4.frozen? ⟨g, 1, none⟩ = false := blk_frozen (HG4.out) 1
  have q2 : W4.cell? ⟨g, 2, none⟩ = some (.int .i64 0) := blk_cell (HG4.out) 2
  have f2 : W4.frozen? ⟨g, 2, none⟩ = false := blk_frozen (HG4.out) 2
  have x0 : W4.cell? ⟨g3, 0, none⟩ = some (.int .i64 x.f0) := blk_cell (HX4.out) 0
  have x1 : W4.cell? ⟨g3, 1, none⟩ = some (.int .i64 x.f1) := blk_cell (HX4.out) 1
  have x2 : W4.cell? ⟨g3, 2, none⟩ = some (.int .i64 x.f2) := blk_cell (HX4.out) 2
  have x3 : W4.cell? ⟨g3, 3, none⟩ = some (.int .i64 x.f3) := blk_cell (HX4.out) 3
  have x4 : W4.cell? ⟨g3, 4, none⟩ = some (.int .i64 x.f4) := blk_cell (HX4.out) 4
  have x5 : W4.cell? ⟨g3, 5, none⟩ = some (.int .i64 x.f5) := blk_cell (HX4.out) 5
  have x6 : W4.cell? ⟨g3, 6, none⟩ = some (.int .i64 x.f6) := blk_cell (HX4.out) 6
  have x7 : W4.cell? ⟨g3, 7, none⟩ = some (.int .i64 x.f7) := blk_cell (HX4.out) 7
  go_wp2_with fail
  have hmr := memorize_run HO4.out HS.out.mok x HOK.out (by have := H00.out; omega)
  unfold insA at hmr
  rw [HMM.out] at hmr
  refine hmr.mono ?_
  rintro e W5 ⟨rfl, hT⟩
  have HG5 := Aside0.mk (blk_kept HG4.out hT.2.1 (fun h => h.elim (fun h => by have h1 := H0.out.lt; have h2 := HG.out; omega) (fun h => by have h1 := H0.out.ltm; have h2 := HG.out; omega)))
  have HX5 := Aside0.mk (blk_kept HX4.out hT.2.1 (fun h => h.elim (fun h => by have h1 := H0.out.lt; have h2 := HGE.out; omega) (fun h => by have h1 := H0.out.ltm; have h2 := HGE.out; omega)))
  have HT5 := Aside0.mk (CTo.start HB4.out H0.out.le hT)
  clear hT hmr
  clear q0 q1 q2 f0 f1 f2 x0 x1 x2 x3 x4 x5 x6 x7

  have c37 := HT5.out.1.c37
  have f37 := HT5.out.1.fr 37
  obtain ⟨pl5, hpl5⟩ : ∃ q, q = (memC s x).pl := ⟨_, rfl⟩
  rw [← hpl5] at c37
  have HPL5 := Aside0.mk hpl5
  clear hpl5
  have q0 : W5.cell? ⟨g, 0, none⟩ = some (.int .i64 0) := blk_cell (HG5.out) 0
  have f0 : W5.frozen? ⟨g, 0, none⟩ = false := blk_frozen (HG5.out) 0
  have q1 : W5.cell? ⟨g, 1, none⟩ = some (.int .i64 0) := blk_cell (HG5.out) 1
  have f1 : W5.frozen? ⟨g, 1, none⟩ = false := blk_frozen (HG5.out) 1
  have q2 : W5.cell? ⟨g, 2, none⟩ = some (.int .i64 0) := blk_cell (HG5.out) 2
  have f2 : W5.frozen? ⟨g, 2, none⟩ = false := blk_frozen (HG5.out) 2
  have x0 : W5.cell? ⟨g3, 0, none⟩ = some (.int .i64 x.f0) := blk_cell (HX5.out) 0
  have x1 : W5.cell? ⟨g3, 1, none⟩ = some (.int .i64 x.f1) := blk_cell (HX5.out) 1
  have x2 : W5.cell? ⟨g3, 2, none⟩ = some (.int .i64 x.f2) := blk_cell (HX5.out) 2
  have x3 : W5.cell? ⟨g3, 3, none⟩ = some (.int .i64 x.f3) := blk_cell (HX5.out) 3
  have x4 : W5.cell? ⟨g3, 4, none⟩ = some (.int .i64 x.f4) := blk_cell (HX5.out) 4
  have x5 : W5.cell? ⟨g3, 5, none⟩ = some (.int .i64 x.f5) := blk_cell (HX5.out) 5
  have x6 : W5.cell? ⟨g3, 6, none⟩ = some (.int .i64 x.f6) := blk_cell (HX5.out) 6
  have x7 : W5.cell? ⟨g3, 7, none⟩ = some (.int .i64 x.f7) := blk_cell (HX5.out) 7
  go_wp2_with fail
  have hgp : g ≠ p := by have h1 := H0.out.lt; have h2 := HG.out; omega
  refine bodyPost_ret (results_cell_row rfl _ _ g 53 #[.int .i64 0, .int .i64 0, .int .i64 1] (0, 0) _ rfl (blk_three (blk_far (HG5.out) (p := ⟨p, 37, none⟩) hgp _) _ _ _) Try.underlying53 rfl (by kernel_rfl)) rfl ?_
  rw [show nextC (memC s x) = { memC s x with pl := wrap64 (pl5 + 1) } by unfold nextC; rw [← HPL5.out]]
  exact ⟨rfl, (((HT5.out.trans ⟨HT5.out.1.setpl _, setCell_kept _ p bm 37 p (.inl rfl) _, (Below.refl _ _).setCell (p := ⟨p, 37, none⟩) H0.out.lp _⟩).far HE.out H0.out.le (Nat.le_of_eq HG.out) 0 _).far HE.out H0.out.le (Nat.le_of_eq HG.out) 1 _).far HE.out H0.out.le (Nat.le_of_eq HG.out) 2 _⟩
set_option maxRecDepth 100000 in
set_option maxHeartbeats 2000000 in
theorem step_ldr_no (h : COK w 69 B E p A c bm s) (hE : E ≤ w.heap.size) (hs : SOK s) (x : Ins) (hx : insC s = x) (he : ¬ s.pl = (s.ws.length : Int)) (h0 : x.f0 = 19) (o : okI x) (hgo : (goalC s x).2 = false) (hmm : mayM s (memA s x) = false) :
    Calls Try.prog 24 #[.pointer (some ⟨p, 0, none⟩)] w fun e w' => e = .returned (.agg #[.int .i64 5, .int .i64 0, .int .i64 0]) ∧ CTo w 69 B E p A c bm (memC s x) w' := by
  have hu := Try.underlying53
  have hux := Try.underlying61
  have hB0 := below_alloc (Below.refl w.heap.size w) (.cells #[.int .i64 0, .int .i64 0, .int .i64 0] 53)
  have hblk := blk_new w (.cells #[.int .i64 0, .int .i64 0, .int .i64 0] 53)
  have hO := h.below hB0
  obtain ⟨W, hW⟩ : ∃ W, w.alloc (.cells #[.int .i64 0, .int .i64 0, .int .i64 0] 53) = W := ⟨_, rfl⟩
  obtain ⟨g, hg⟩ : ∃ g, w.heap.size = g := ⟨_, rfl⟩
  have hgW : W.heap.size = g + 1 := by rw [← hW, ← hg, World.size_alloc]
  rw [hW] at hB0 hblk hO
  rw [hg] at hblk
  have q0 : W.cell? ⟨g, 0, none⟩ = some (.int .i64 0) := blk_cell hblk 0
  have q1 : W.cell? ⟨g, 1, none⟩ = some (.int .i64 0) := blk_cell hblk 1
  have q2 : W.cell? ⟨g, 2, none⟩ = some (.int .i64 0) := blk_cell hblk 2
  have f0 : W.frozen? ⟨g, 0, none⟩ = false := blk_frozen hblk 0
  have f1 : W.frozen? ⟨g, 1, none⟩ = false := blk_frozen hblk 1
  have f2 : W.frozen? ⟨g, 2, none⟩ = false := blk_frozen hblk 2
  have HO := Aside0.mk hO
  have HB0 := Aside0.mk hB0
  have HBK := Aside0.mk hblk
  have HW := Aside0.mk hW
  have HG := Aside0.mk hg
  have HGW := Aside0.mk hgW
  have H0 := Aside0.mk h
  have HE := Aside0.mk hE
  have c0 := HO.out.c0
  have c37 := HO.out.c37
  clear h hO hB0 hblk hW hg hgW hE
  have hkk := hs.p0
  have hk2 := hs.p1
  obtain ⟨k, hk⟩ : ∃ k : Nat, s.pl = (k : Int) := ⟨s.pl.toNat, by omega⟩
  rw [hk] at c37 hk2 he
  have hkl : k < s.ws.length := by omega
  have hki : (k : Int) < (s.ws.length : Int) := by omega
  have hk0 : 0 ≤ (k : Int) := by omega
  have e1 : ((k : Int) == (s.ws.length : Int)) = false := by simpa using he
  have HK := Aside0.mk hk
  obtain ⟨ad, hA, x0, x1, x2, x3, x4, x5, x6, x7⟩ := at_T61 (Kd.R_reads' HO.out.own).2.2 (k : Int) (by omega) (by omega)
  subst hA
  have hrx : rd_T61 s.ws (k : Int) = x := by rw [← hx]; unfold insC; rw [hk]
  rw [Int.toNat_natCast, hrx] at x0 x1 x2 x3 x4 x5 x6 x7
  have HS := Aside0.mk hs
  clear hkk hk2 hk hs hrx he
  have n0 : (x.f0 == 0) = false := by simp; omega
  have n19 : (x.f0 == 19) = true := by simp; omega
  have n20 : (x.f0 == 20) = false := by simp; omega
  have n29 : (x.f0 == 29) = false := by simp; omega
  have n30 : (x.f0 == 30) = false := by simp; omega
  have H00 := Aside0.mk h0
  have HGO := Aside0.mk hgo
  have HMM := Aside0.mk hmm
  have HOK := Aside0.mk o
  clear h0 hgo hmm o
  go_enter Try.func24, Try.ntmps24
  go_wp2_with fail
  rw [HW.out, HG.out]
  go_big_quiet (fail)
  have HO1 := Aside0.mk (HO.out.drewN nq)
  have HB1 := Aside0.mk (below_dN0 HB0.out nq)
  have HBK1 := Aside0.mk (blk_drewN HBK.out nq)
  have hz1 : (W.drewN nq).heap.size = g + 1 := HGW.out
  have y0 : (W.drewN nq).cell? _ = _ := x0
  have y1 : (W.drewN nq).cell? _ = _ := x1
  have y2 : (W.drewN nq).cell? _ = _ := x2
  have y3 : (W.drewN nq).cell? _ = _ := x3
  have y4 : (W.drewN nq).cell? _ = _ := x4
  have y5 : (W.drewN nq).cell? _ = _ := x5
  have y6 : (W.drewN nq).cell? _ = _ := x6
  have y7 : (W.drewN nq).cell? _ = _ := x7
  have d0 := HO1.out.c0
  have d37 := HO1.out.c37
  rw [HK.out] at d37
  clear q0 q1 q2 f0 f1 f2 c0 c37 x0 x1 x2 x3 x4 x5 x6 x7
  go_upto_region 3 with (fail)
  obtain ⟨W1, hW1⟩ : ∃ W1, W.drewN nq = W1 := ⟨_, rfl⟩
  rw [hW1] at HO1 HB1 HBK1 hz1 y0 y1 y2 y3 y4 y5 y6 y7 d0 d37 ⊢
  clear hW1
  have HZ1 := Aside0.mk hz1
  clear hz1
  have hp1 := HO1.out.lt
  have hp2 : p ≠ W1.heap.size := Nat.ne_of_lt hp1
  have ha1 := World.block_lt_of_cell? _ _ y0
  have ha2 : (ad.add (k * 8)).block ≠ W1.heap.size := Nat.ne_of_lt ha1
  go_region
  clear hp1 hp2 ha1 ha2
  go_upto_region 4 with (fail)
  have hb3 := below_drew (below_alloc (Below.refl W1.heap.size W1) (.cells #[.int .i64 x.f0, .int .i64 x.f1, .int .i64 x.f2, .int .i64 x.f3, .int .i64 x.f4, .int .i64 x.f5, .int .i64 x.f6, .int .i64 x.f7] 61))
  have hO3 := HO1.out.below hb3
  have hB3 := below_step HB1.out hb3
  have hg3 := blk_below HBK1.out hb3
  have hx3 := blk_drew (blk_new W1 (.cells #[.int .i64 x.f0, .int .i64 x.f1, .int .i64 x.f2, .int .i64 x.f3, .int .i64 x.f4, .int .i64 x.f5, .int .i64 x.f6, .int .i64 x.f7] 61))
  obtain ⟨W3, hW3⟩ : ∃ W3, (W1.alloc (.cells #[.int .i64 x.f0, .int .i64 x.f1, .int .i64 x.f2, .int .i64 x.f3, .int .i64 x.f4, .int .i64 x.f5, .int .i64 x.f6, .int .i64 x.f7] 61)).drew = W3 := ⟨_, rfl⟩
  obtain ⟨g3, hgg⟩ : ∃ g3, W1.heap.size = g3 := ⟨_, rfl⟩
  rw [hW3] at hb3 hO3 hB3 hg3 hx3 ⊢
  rw [hgg] at hx3 ⊢
  have HO3 := Aside0.mk hO3
  have HB3 := Aside0.mk hB3
  have HG3 := Aside0.mk hg3
  have HX3 := Aside0.mk hx3
  have HGE := Aside0.mk (show w.heap.size ≤ g3 by have h1 := HZ1.out; have h2 := HG.out; omega)
  have q0 : W3.cell? ⟨g, 0, none⟩ = some (.int .i64 0) := blk_cell hg3 0
  have q1 : W3.cell? ⟨g, 1, none⟩ = some (.int .i64 0) := blk_cell hg3 1
  have q2 : W3.cell? ⟨g, 2, none⟩ = some (.int .i64 0) := blk_cell hg3 2
  have f0 : W3.frozen? ⟨g, 0, none⟩ = false := blk_frozen hg3 0
  have f1 : W3.frozen? ⟨g, 1, none⟩ = false := blk_frozen hg3 1
  have f2 : W3.frozen? ⟨g, 2, none⟩ = false := blk_frozen hg3 2
  have x0 : W3.cell? ⟨g3, 0, none⟩ = some (.int .i64 x.f0) := blk_cell hx3 0
  have x1 : W3.cell? ⟨g3, 1, none⟩ = some (.int .i64 x.f1) := blk_cell hx3 1
  have x2 : W3.cell? ⟨g3, 2, none⟩ = some (.int .i64 x.f2) := blk_cell hx3 2
  have x3 : W3.cell? ⟨g3, 3, none⟩ = some (.int .i64 x.f3) := blk_cell hx3 3
  have x4 : W3.cell? ⟨g3, 4, none⟩ = some (.int .i64 x.f4) := blk_cell hx3 4
  have x5 : W3.cell? ⟨g3, 5, none⟩ = some (.int .i64 x.f5) := blk_cell hx3 5
  have x6 : W3.cell? ⟨g3, 6, none⟩ = some (.int .i64 x.f6) := blk_cell hx3 6
  have x7 : W3.cell? ⟨g3, 7, none⟩ = some (.int .i64 x.f7) := blk_cell hx3 7
  clear hW3 hgg hb3 hO3 hB3 hg3 hx3 y0 y1 y2 y3 y4 y5 y6 y7 d0 d37
  go_wp2_with fail
  have hgr := goal_run HO3.out x HOK.out
  unfold insA at hgr
  obtain ⟨to_, hto⟩ : ∃ t, t = (goalC s x).1 := ⟨_, rfl⟩
  rw [HGO.out, ← hto] at hgr
  refine hgr.mono ?_
  rintro e W4 ⟨rfl, hb4⟩
  have hg4 := blk_below HG3.out hb4
  have hx4 := blk_below HX3.out hb4
  have HO4 := Aside0.mk (HO3.out.below hb4)
  have HB4 := Aside0.mk (below_step HB3.out hb4)
  have HG4 := Aside0.mk hg4
  have HX4 := Aside0.mk hx4
  clear hgr hto hb4 hg4 hx4
  clear q0 q1 q2 f0 f1 f2 x0 x1 x2 x3 x4 x5 x6 x7
  have q0 : W4.cell? ⟨g, 0, none⟩ = some (.int .i64 0) := blk_cell (HG4.out) 0
  have f0 : W4.frozen? ⟨g, 0, none⟩ = false := blk_frozen (HG4.out) 0
  have q1 : W4.cell? ⟨g, 1, none⟩ = some (.int .i64 0) := blk_cell (HG4.out) 1
  have f1 : W4.frozen? ⟨g, 1, none⟩ = false := blk_frozen (HG4.out) 1
  have q2 : W4.cell? ⟨g, 2, none⟩ = some (.int .i64 0) := blk_cell (HG4.out) 2
  have f2 : W4.frozen? ⟨g, 2, none⟩ = false := blk_frozen (HG4.out) 2
  have x0 : W4.cell? ⟨g3, 0, none⟩ = some (.int .i64 x.f0) := blk_cell (HX4.out) 0
  have x1 : W4.cell? ⟨g3, 1, none⟩ = some (.int .i64 x.f1) := blk_cell (HX4.out) 1
  have x2 : W4.cell? ⟨g3, 2, none⟩ = some (.int .i64 x.f2) := blk_cell (HX4.out) 2
  have x3 : W4.cell? ⟨g3, 3, none⟩ = some (.int .i64 x.f3) := blk_cell (HX4.out) 3
  have x4 : W4.cell? ⟨g3, 4, none⟩ = some (.int .i64 x.f4) := blk_cell (HX4.out) 4
  have x5 : W4.cell? ⟨g3, 5, none⟩ = some (.int .i64 x.f5) := blk_cell (HX4.out) 5
  have x6 : W4.cell? ⟨g3, 6, none⟩ = some (.int .i64 x.f6) := blk_cell (HX4.out) 6
  have x7 : W4.cell? ⟨g3, 7, none⟩ = some (.int .i64 x.f7) := blk_cell (HX4.out) 7
  go_wp2_with fail
  have hmr := memorize_run HO4.out HS.out.mok x HOK.out (by have := H00.out; omega)
  unfold insA at hmr
  rw [HMM.out] at hmr
  refine hmr.mono ?_
  rintro e W5 ⟨rfl, hT⟩
  have HG5 := Aside0.mk (blk_kept HG4.out hT.2.1 (fun h => h.elim (fun h => by have h1 := H0.out.lt; have h2 := HG.out; omega) (fun h => by have h1 := H0.out.ltm; have h2 := HG.out; omega)))
  have HX5 := Aside0.mk (blk_kept HX4.out hT.2.1 (fun h => h.elim (fun h => by have h1 := H0.out.lt; have h2 := HGE.out; omega) (fun h => by have h1 := H0.out.ltm; have h2 := HGE.out; omega)))
  have HT5 := Aside0.mk (CTo.start HB4.out H0.out.le hT)
  clear hT hmr
  clear q0 q1 q2 f0 f1 f2 x0 x1 x2 x3 x4 x5 x6 x7

  have q0 : W5.cell? ⟨g, 0, none⟩ = some (.int .i64 0) := blk_cell (HG5.out) 0
  have f0 : W5.frozen? ⟨g, 0, none⟩ = false := blk_frozen (HG5.out) 0
  have q1 : W5.cell? ⟨g, 1, none⟩ = some (.int .i64 0) := blk_cell (HG5.out) 1
  have f1 : W5.frozen? ⟨g, 1, none⟩ = false := blk_frozen (HG5.out) 1
  have q2 : W5.cell? ⟨g, 2, none⟩ = some (.int .i64 0) := blk_cell (HG5.out) 2
  have f2 : W5.frozen? ⟨g, 2, none⟩ = false := blk_frozen (HG5.out) 2
  have x0 : W5.cell? ⟨g3, 0, none⟩ = some (.int .i64 x.f0) := blk_cell (HX5.out) 0
  have x1 : W5.cell? ⟨g3, 1, none⟩ = some (.int .i64 x.f1) := blk_cell (HX5.out) 1
  have x2 : W5.cell? ⟨g3, 2, none⟩ = some (.int .i64 x.f2) := blk_cell (HX5.out) 2
  have x3 : W5.cell? ⟨g3, 3, none⟩ = some (.int .i64 x.f3) := blk_cell (HX5.out) 3
  have x4 : W5.cell? ⟨g3, 4, none⟩ = some (.int .i64 x.f4) := blk_cell (HX5.out) 4
  have x5 : W5.cell? ⟨g3, 5, none⟩ = some (.int .i64 x.f5) := blk_cell (HX5.out) 5
  have x6 : W5.cell? ⟨g3, 6, none⟩ = some (.int .i64 x.f6) := blk_cell (HX5.out) 6
  have x7 : W5.cell? ⟨g3, 7, none⟩ = some (.int .i64 x.f7) := blk_cell (HX5.out) 7
  go_wp2_with fail
  refine bodyPost_ret (results_cell_row rfl _ _ g 53 #[.int .i64 5, .int .i64 0, .int .i64 0] (0, 0) _ rfl (blk_three HG5.out _ _ _) Try.underlying53 rfl (by kernel_rfl)) rfl ?_
  exact ⟨rfl, (((HT5.out).far HE.out H0.out.le (Nat.le_of_eq HG.out) 0 _).far HE.out H0.out.le (Nat.le_of_eq HG.out) 1 _).far HE.out H0.out.le (Nat.le_of_eq HG.out) 2 _⟩
set_option maxRecDepth 100000 in
set_option maxHeartbeats 2000000 in
theorem step_str_no (h : COK w 69 B E p A c bm s) (hE : E ≤ w.heap.size) (hs : SOK s) (x : Ins) (hx : insC s = x) (he : ¬ s.pl = (s.ws.length : Int)) (h0 : x.f0 = 20) (o : okI x) (hgo : (goalC s x).2 = false) (hmm : mayM s (memA s x) = false) :
    Calls Try.prog 24 #[.pointer (some ⟨p, 0, none⟩)] w fun e w' => e = .returned (.agg #[.int .i64 5, .int .i64 0, .int .i64 0]) ∧ CTo w 69 B E p A c bm (memC s x) w' := by
  have hu := Try.underlying53
  have hux := Try.underlying61
  have hB0 := below_alloc (Below.refl w.heap.size w) (.cells #[.int .i64 0, .int .i64 0, .int .i64 0] 53)
  have hblk := blk_new w (.cells #[.int .i64 0, .int .i64 0, .int .i64 0] 53)
  have hO := h.below hB0
  obtain ⟨W, hW⟩ : ∃ W, w.alloc (.cells #[.int .i64 0, .int .i64 0, .int .i64 0] 53) = W := ⟨_, rfl⟩
  obtain ⟨g, hg⟩ : ∃ g, w.heap.size = g := ⟨_, rfl⟩
  have hgW : W.heap.size = g + 1 := by rw [← hW, ← hg, World.size_alloc]
  rw [hW] at hB0 hblk hO
  rw [hg] at hblk
  have q0 : W.cell? ⟨g, 0, none⟩ = some (.int .i64 0) := blk_cell hblk 0
  have q1 : W.cell? ⟨g, 1, none⟩ = some (.int .i64 0) := blk_cell hblk 1
  have q2 : W.cell? ⟨g, 2, none⟩ = some (.int .i64 0) := blk_cell hblk 2
  have f0 : W.frozen? ⟨g, 0, none⟩ = false := blk_frozen hblk 0
  have f1 : W.frozen? ⟨g, 1, none⟩ = false := blk_frozen hblk 1
  have f2 : W.frozen? ⟨g, 2, none⟩ = false := blk_frozen hblk 2
  have HO := Aside0.mk hO
  have HB0 := Aside0.mk hB0
  have HBK := Aside0.mk hblk
  have HW := Aside0.mk hW
  have HG := Aside0.mk hg
  have HGW := Aside0.mk hgW
  have H0 := Aside0.mk h
  have HE := Aside0.mk hE
  have c0 := HO.out.c0
  have c37 := HO.out.c37
  clear h hO hB0 hblk hW hg hgW hE
  have hkk := hs.p0
  have hk2 := hs.p1
  obtain ⟨k, hk⟩ : ∃ k : Nat, s.pl = (k : Int) := ⟨s.pl.toNat, by omega⟩
  rw [hk] at c37 hk2 he
  have hkl : k < s.ws.length := by omega
  have hki : (k : Int) < (s.ws.length : Int) := by omega
  have hk0 : 0 ≤ (k : Int) := by omega
  have e1 : ((k : Int) == (s.ws.length : Int)) = false := by simpa using he
  have HK := Aside0.mk hk
  obtain ⟨ad, hA, x0, x1, x2, x3, x4, x5, x6, x7⟩ := at_T61 (Kd.R_reads' HO.out.own).2.2 (k : Int) (by omega) (by omega)
  subst hA
  have hrx : rd_T61 s.ws (k : Int) = x := by rw [← hx]; unfold insC; rw [hk]
  rw [Int.toNat_natCast, hrx] at x0 x1 x2 x3 x4 x5 x6 x7
  have HS := Aside0.mk hs
  clear hkk hk2 hk hs hrx he
  have n0 : (x.f0 == 0) = false := by simp; omega
  have n19 : (x.f0 == 19) = false := by simp; omega
  have n20 : (x.f0 == 20) = true := by simp; omega
  have n29 : (x.f0 == 29) = false := by simp; omega
  have n30 : (x.f0 == 30) = false := by simp; omega
  have H00 := Aside0.mk h0
  have HGO := Aside0.mk hgo
  have HMM := Aside0.mk hmm
  have HOK := Aside0.mk o
  clear h0 hgo hmm o
  go_enter Try.func24, Try.ntmps24
  go_wp2_with fail
  rw [HW.out, HG.out]
  go_big_quiet (fail)
  have HO1 := Aside0.mk (HO.out.drewN nq)
  have HB1 := Aside0.mk (below_dN0 HB0.out nq)
  have HBK1 := Aside0.mk (blk_drewN HBK.out nq)
  have hz1 : (W.drewN nq).heap.size = g + 1 := HGW.out
  have y0 : (W.drewN nq).cell? _ = _ := x0
  have y1 : (W.drewN nq).cell? _ = _ := x1
  have y2 : (W.drewN nq).cell? _ = _ := x2
  have y3 : (W.drewN nq).cell? _ = _ := x3
  have y4 : (W.drewN nq).cell? _ = _ := x4
  have y5 : (W.drewN nq).cell? _ = _ := x5
  have y6 : (W.drewN nq).cell? _ = _ := x6
  have y7 : (W.drewN nq).cell? _ = _ := x7
  have d0 := HO1.out.c0
  have d37 := HO1.out.c37
  rw [HK.out] at d37
  clear q0 q1 q2 f0 f1 f2 c0 c37 x0 x1 x2 x3 x4 x5 x6 x7
  go_upto_region 3 with (fail)
  obtain ⟨W1, hW1⟩ : ∃ W1, W.drewN nq = W1 := ⟨_, rfl⟩
  rw [hW1] at HO1 HB1 HBK1 hz1 y0 y1 y2 y3 y4 y5 y6 y7 d0 d37 ⊢
  clear hW1
  have HZ1 := Aside0.mk hz1
  clear hz1
  have hp1 := HO1.out.lt
  have hp2 : p ≠ W1.heap.size := Nat.ne_of_lt hp1
  have ha1 := World.block_lt_of_cell? _ _ y0
  have ha2 : (ad.add (k * 8)).block ≠ W1.heap.size := Nat.ne_of_lt ha1
  go_region
  clear hp1 hp2 ha1 ha2
  go_upto_region 4 with (fail)
  have hb3 := below_drew (below_alloc (Below.refl W1.heap.size W1) (.cells #[.int .i64 x.f0, .int .i64 x.f1, .int .i64 x.f2, .int .i64 x.f3, .int .i64 x.f4, .int .i64 x.f5, .int .i64 x.f6, .int .i64 x.f7] 61))
  have hO3 := HO1.out.below hb3
  have hB3 := below_step HB1.out hb3
  have hg3 := blk_below HBK1.out hb3
  have hx3 := blk_drew (blk_new W1 (.cells #[.int .i64 x.f0, .int .i64 x.f1, .int .i64 x.f2, .int .i64 x.f3, .int .i64 x.f4, .int .i64 x.f5, .int .i64 x.f6, .int .i64 x.f7] 61))
  obtain ⟨W3, hW3⟩ : ∃ W3, (W1.alloc (.cells #[.int .i64 x.f0, .int .i64 x.f1, .int .i64 x.f2, .int .i64 x.f3, .int .i64 x.f4, .int .i64 x.f5, .int .i64 x.f6, .int .i64 x.f7] 61)).drew = W3 := ⟨_, rfl⟩
  obtain ⟨g3, hgg⟩ : ∃ g3, W1.heap.size = g3 := ⟨_, rfl⟩
  rw [hW3] at hb3 hO3 hB3 hg3 hx3 ⊢
  rw [hgg] at hx3 ⊢
  have HO3 := Aside0.mk hO3
  have HB3 := Aside0.mk hB3
  have HG3 := Aside0.mk hg3
  have HX3 := Aside0.mk hx3
  have HGE := Aside0.mk (show w.heap.size ≤ g3 by have h1 := HZ1.out; have h2 := HG.out; omega)
  have q0 : W3.cell? ⟨g, 0, none⟩ = some (.int .i64 0) := blk_cell hg3 0
  have q1 : W3.cell? ⟨g, 1, none⟩ = some (.int .i64 0) := blk_cell hg3 1
  have q2 : W3.cell? ⟨g, 2, none⟩ = some (.int .i64 0) := blk_cell hg3 2
  have f0 : W3.frozen? ⟨g, 0, none⟩ = false := blk_frozen hg3 0
  have f1 : W3.frozen? ⟨g, 1, none⟩ = false := blk_frozen hg3 1
  have f2 : W3.frozen? ⟨g, 2, none⟩ = false := blk_frozen hg3 2
  have x0 : W3.cell? ⟨g3, 0, none⟩ = some (.int .i64 x.f0) := blk_cell hx3 0
  have x1 : W3.cell? ⟨g3, 1, none⟩ = some (.int .i64 x.f1) := blk_cell hx3 1
  have x2 : W3.cell? ⟨g3, 2, none⟩ = some (.int .i64 x.f2) := blk_cell hx3 2
  have x3 : W3.cell? ⟨g3, 3, none⟩ = some (.int .i64 x.f3) := blk_cell hx3 3
  have x4 : W3.cell? ⟨g3, 4, none⟩ = some (.int .i64 x.f4) := blk_cell hx3 4
  have x5 : W3.cell? ⟨g3, 5, none⟩ = some (.int .i64 x.f5) := blk_cell hx3 5
  have x6 : W3.cell? ⟨g3, 6, none⟩ = some (.int .i64 x.f6) := blk_cell hx3 6
  have x7 : W3.cell? ⟨g3, 7, none⟩ = some (.int .i64 x.f7) := blk_cell hx3 7
  clear hW3 hgg hb3 hO3 hB3 hg3 hx3 y0 y1 y2 y3 y4 y5 y6 y7 d0 d37
  go_wp2_with fail
  have hgr := goal_run HO3.out x HOK.out
  unfold insA at hgr
  obtain ⟨to_, hto⟩ : ∃ t, t = (goalC s x).1 := ⟨_, rfl⟩
  rw [HGO.out, ← hto] at hgr
  refine hgr.mono ?_
  rintro e W4 ⟨rfl, hb4⟩
  have hg4 := blk_below HG3.out hb4
  have hx4 := blk_below HX3.out hb4
  have HO4 := Aside0.mk (HO3.out.below hb4)
  have HB4 := Aside0.mk (below_step HB3.out hb4)
  have HG4 := Aside0.mk hg4
  have HX4 := Aside0.mk hx4
  clear hgr hto hb4 hg4 hx4
  clear q0 q1 q2 f0 f1 f2 x0 x1 x2 x3 x4 x5 x6 x7
  have q0 : W4.cell? ⟨g, 0, none⟩ = some (.int .i64 0) := blk_cell (HG4.out) 0
  have f0 : W4.frozen? ⟨g, 0, none⟩ = false := blk_frozen (HG4.out) 0
  have q1 : W4.cell? ⟨g, 1, none⟩ = some (.int .i64 0) := blk_cell (HG4.out) 1
  have f1 : W4.frozen? ⟨g, 1, none⟩ = false := blk_frozen (HG4.out) 1
  have q2 : W4.cell? ⟨g, 2, none⟩ = some (.int .i64 0) := blk_cell (HG4.out) 2
  have f2 : W4.frozen? ⟨g, 2, none⟩ = false := blk_frozen (HG4.out) 2
  have x0 : W4.cell? ⟨g3, 0, none⟩ = some (.int .i64 x.f0) := blk_cell (HX4.out) 0
  have x1 : W4.cell? ⟨g3, 1, none⟩ = some (.int .i64 x.f1) := blk_cell (HX4.out) 1
  have x2 : W4.cell? ⟨g3, 2, none⟩ = some (.int .i64 x.f2) := blk_cell (HX4.out) 2
  have x3 : W4.cell? ⟨g3, 3, none⟩ = some (.int .i64 x.f3) := blk_cell (HX4.out) 3
  have x4 : W4.cell? ⟨g3, 4, none⟩ = some (.int .i64 x.f4) := blk_cell (HX4.out) 4
  have x5 : W4.cell? ⟨g3, 5, none⟩ = some (.int .i64 x.f5) := blk_cell (HX4.out) 5
  have x6 : W4.cell? ⟨g3, 6, none⟩ = some (.int .i64 x.f6) := blk_cell (HX4.out) 6
  have x7 : W4.cell? ⟨g3, 7, none⟩ = some (.int .i64 x.f7) := blk_cell (HX4.out) 7
  go_wp2_with fail
  have hmr := memorize_run HO4.out HS.out.mok x HOK.out (by have := H00.out; omega)
  unfold insA at hmr
  rw [HMM.out] at hmr
  refine hmr.mono ?_
  rintro e W5 ⟨rfl, hT⟩
  have HG5 := Aside0.mk (blk_kept HG4.out hT.2.1 (fun h => h.elim (fun h => by have h1 := H0.out.lt; have h2 := HG.out; omega) (fun h => by have h1 := H0.out.ltm; have h2 := HG.out; omega)))
  have HX5 := Aside0.mk (blk_kept HX4.out hT.2.1 (fun h => h.elim (fun h => by have h1 := H0.out.lt; have h2 := HGE.out; omega) (fun h => by have h1 := H0.out.ltm; have h2 := HGE.out; omega)))
  have HT5 := Aside0.mk (CTo.start HB4.out H0.out.le hT)
  clear hT hmr
  clear q0 q1 q2 f0 f1 f2 x0 x1 x2 x3 x4 x5 x6 x7

  have q0 : W5.cell? ⟨g, 0, none⟩ = some (.int .i64 0) := blk_cell (HG5.out) 0
  have f0 : W5.frozen? ⟨g, 0, none⟩ = false := blk_frozen (HG5.out) 0
  have q1 : W5.cell? ⟨g, 1, none⟩ = some (.int .i64 0) := blk_cell (HG5.out) 1
  have f1 : W5.frozen? ⟨g, 1, none⟩ = false := blk_frozen (HG5.out) 1
  have q2 : W5.cell? ⟨g, 2, none⟩ = some (.int .i64 0) := blk_cell (HG5.out) 2
  have f2 : W5.frozen? ⟨g, 2, none⟩ = false := blk_frozen (HG5.out) 2
  have x0 : W5.cell? ⟨g3, 0, none⟩ = some (.int .i64 x.f0) := blk_cell (HX5.out) 0
  have x1 : W5.cell? ⟨g3, 1, none⟩ = some (.int .i64 x.f1) := blk_cell (HX5.out) 1
  have x2 : W5.cell? ⟨g3, 2, none⟩ = some (.int .i64 x.f2) := blk_cell (HX5.out) 2
  have x3 : W5.cell? ⟨g3, 3, none⟩ = some (.int .i64 x.f3) := blk_cell (HX5.out) 3
  have x4 : W5.cell? ⟨g3, 4, none⟩ = some (.int .i64 x.f4) := blk_cell (HX5.out) 4
  have x5 : W5.cell? ⟨g3, 5, none⟩ = some (.int .i64 x.f5) := blk_cell (HX5.out) 5
  have x6 : W5.cell? ⟨g3, 6, none⟩ = some (.int .i64 x.f6) := blk_cell (HX5.out) 6
  have x7 : W5.cell? ⟨g3, 7, none⟩ = some (.int .i64 x.f7) := blk_cell (HX5.out) 7
  go_wp2_with fail
  refine bodyPost_ret (results_cell_row rfl _ _ g 53 #[.int .i64 5, .int .i64 0, .int .i64 0] (0, 0) _ rfl (blk_three HG5.out _ _ _) Try.underlying53 rfl (by kernel_rfl)) rfl ?_
  exact ⟨rfl, (((HT5.out).far HE.out H0.out.le (Nat.le_of_eq HG.out) 0 _).far HE.out H0.out.le (Nat.le_of_eq HG.out) 1 _).far HE.out H0.out.le (Nat.le_of_eq HG.out) 2 _⟩
set_option maxRecDepth 100000 in
set_option maxHeartbeats 2000000 in
theorem step_dif (h : COK w 69 B E p A c bm s) (hE : E ≤ w.heap.size) (hs : SOK s) (x : Ins) (hx : insC s = x) (he : ¬ s.pl = (s.ws.length : Int)) (o : okI x) (hgo : (goalC s x).2 = false) (hdi : isDif x = true) :
    Calls Try.prog 24 #[.pointer (some ⟨p, 0, none⟩)] w fun e w' => e = .returned (.agg #[.int .i64 0, .int .i64 0, .int .i64 1]) ∧ CTo w 69 B E p A c bm (nextC (difC s x)) w' := by
  have hu := Try.underlying53
  have hux := Try.underlying61
  have hB0 := below_alloc (Below.refl w.heap.size w) (.cells #[.int .i64 0, .int .i64 0, .int .i64 0] 53)
  have hblk := blk_new w (.cells #[.int .i64 0, .int .i64 0, .int .i64 0] 53)
  have hO := h.below hB0
  obtain ⟨W, hW⟩ : ∃ W, w.alloc (.cells #[.int .i64 0, .int .i64 0, .int .i64 0] 53) = W := ⟨_, rfl⟩
  obtain ⟨g, hg⟩ : ∃ g, w.heap.size = g := ⟨_, rfl⟩
  have hgW : W.heap.size = g + 1 := by rw [← hW, ← hg, World.size_alloc]
  rw [hW] at hB0 hblk hO
  rw [hg] at hblk
  have q0 : W.cell? ⟨g, 0, none⟩ = some (.int .i64 0) := blk_cell hblk 0
  have q1 : W.cell? ⟨g, 1, none⟩ = some (.int .i64 0) := blk_cell hblk 1
  have q2 : W.cell? ⟨g, 2, none⟩ = some (.int .i64 0) := blk_cell hblk 2
  have f0 : W.frozen? ⟨g, 0, none⟩ = false := blk_frozen hblk 0
  have f1 : W.frozen? ⟨g, 1, none⟩ = false := blk_frozen hblk 1
  have f2 : W.frozen? ⟨g, 2, none⟩ = false := blk_frozen hblk 2
  have HO := Aside0.mk hO
  have HB0 := Aside0.mk hB0
  have HBK := Aside0.mk hblk
  have HW := Aside0.mk hW
  have HG := Aside0.mk hg
  have HGW := Aside0.mk hgW
  have H0 := Aside0.mk h
  have HE := Aside0.mk hE
  have c0 := HO.out.c0
  have c37 := HO.out.c37
  clear h hO hB0 hblk hW hg hgW hE
  have hkk := hs.p0
  have hk2 := hs.p1
  obtain ⟨k, hk⟩ : ∃ k : Nat, s.pl = (k : Int) := ⟨s.pl.toNat, by omega⟩
  rw [hk] at c37 hk2 he
  have hkl : k < s.ws.length := by omega
  have hki : (k : Int) < (s.ws.length : Int) := by omega
  have hk0 : 0 ≤ (k : Int) := by omega
  have e1 : ((k : Int) == (s.ws.length : Int)) = false := by simpa using he
  have HK := Aside0.mk hk
  obtain ⟨ad, hA, x0, x1, x2, x3, x4, x5, x6, x7⟩ := at_T61 (Kd.R_reads' HO.out.own).2.2 (k : Int) (by omega) (by omega)
  subst hA
  have hrx : rd_T61 s.ws (k : Int) = x := by rw [← hx]; unfold insC; rw [hk]
  rw [Int.toNat_natCast, hrx] at x0 x1 x2 x3 x4 x5 x6 x7
  have HS := Aside0.mk hs
  clear hkk hk2 hk hs hrx he
  have hb : 3 ≤ x.f0 ∧ x.f0 ≤ 6 := by unfold isDif at hdi; rw [Bool.and_eq_true, decide_eq_true_eq, decide_eq_true_eq] at hdi; exact hdi
  have n0 : (x.f0 == 0) = false := by simp; omega
  have n19 : (x.f0 == 19) = false := by simp; omega
  have n20 : (x.f0 == 20) = false := by simp; omega
  have n29 : (x.f0 == 29) = false := by simp; omega
  have n30 : (x.f0 == 30) = false := by simp; omega
  have HGO := Aside0.mk hgo
  have HDI := Aside0.mk hdi
  have HOK := Aside0.mk o
  clear hb hgo hdi o
  go_enter Try.func24, Try.ntmps24
  go_wp2_with fail
  rw [HW.out, HG.out]
  go_big_quiet (fail)
  have HO1 := Aside0.mk (HO.out.drewN nq)
  have HB1 := Aside0.mk (below_dN0 HB0.out nq)
  have HBK1 := Aside0.mk (blk_drewN HBK.out nq)
  have hz1 : (W.drewN nq).heap.size = g + 1 := HGW.out
  have y0 : (W.drewN nq).cell? _ = _ := x0
  have y1 : (W.drewN nq).cell? _ = _ := x1
  have y2 : (W.drewN nq).cell? _ = _ := x2
  have y3 : (W.drewN nq).cell? _ = _ := x3
  have y4 : (W.drewN nq).cell? _ = _ := x4
  have y5 : (W.drewN nq).cell? _ = _ := x5
  have y6 : (W.drewN nq).cell? _ = _ := x6
  have y7 : (W.drewN nq).cell? _ = _ := x7
  have d0 := HO1.out.c0
  have d37 := HO1.out.c37
  rw [HK.out] at d37
  clear q0 q1 q2 f0 f1 f2 c0 c37 x0 x1 x2 x3 x4 x5 x6 x7
  go_upto_region 3 with (fail)
  obtain ⟨W1, hW1⟩ : ∃ W1, W.drewN nq = W1 := ⟨_, rfl⟩
  rw [hW1] at HO1 HB1 HBK1 hz1 y0 y1 y2 y3 y4 y5 y6 y7 d0 d37 ⊢
  clear hW1
  have HZ1 := Aside0.mk hz1
  clear hz1
  have hp1 := HO1.out.lt
  have hp2 : p ≠ W1.heap.size := Nat.ne_of_lt hp1
  have ha1 := World.block_lt_of_cell? _ _ y0
  have ha2 : (ad.add (k * 8)).block ≠ W1.heap.size := Nat.ne_of_lt ha1
  go_region
  clear hp1 hp2 ha1 ha2
  go_upto_region 4 with (fail)
  have hb3 := below_drew (below_alloc (Below.refl W1.heap.size W1) (.cells #[.int .i64 x.f0, .int .i64 x.f1, .int .i64 x.f2, .int .i64 x.f3, .int .i64 x.f4, .int .i64 x.f5, .int .i64 x.f6, .int .i64 x.f7] 61))
  have hO3 := HO1.out.below hb3
  have hB3 := below_step HB1.out hb3
  have hg3 := blk_below HBK1.out hb3
  have hx3 := blk_drew (blk_new W1 (.cells #[.int .i64 x.f0, .int .i64 x.f1, .int .i64 x.f2, .int .i64 x.f3, .int .i64 x.f4, .int .i64 x.f5, .int .i64 x.f6, .int .i64 x.f7] 61))
  obtain ⟨W3, hW3⟩ : ∃ W3, (W1.alloc (.cells #[.int .i64 x.f0, .int .i64 x.f1, .int .i64 x.f2, .int .i64 x.f3, .int .i64 x.f4, .int .i64 x.f5, .int .i64 x.f6, .int .i64 x.f7] 61)).drew = W3 := ⟨_, rfl⟩
  obtain ⟨g3, hgg⟩ : ∃ g3, W1.heap.size = g3 := ⟨_, rfl⟩
  rw [hW3] at hb3 hO3 hB3 hg3 hx3 ⊢
  rw [hgg] at hx3 ⊢
  have HO3 := Aside0.mk hO3
  have HB3 := Aside0.mk hB3
  have HG3 := Aside0.mk hg3
  have HX3 := Aside0.mk hx3
  have HGE := Aside0.mk (show w.heap.size ≤ g3 by have h1 := HZ1.out; have h2 := HG.out; omega)
  have q0 : W3.cell? ⟨g, 0, none⟩ = some (.int .i64 0) := blk_cell hg3 0
  have q1 : W3.cell? ⟨g, 1, none⟩ = some (.int .i64 0) := blk_cell hg3 1
  have q2 : W3.cell? ⟨g, 2, none⟩ = some (.int .i64 0) := blk_cell hg3 2
  have f0 : W3.frozen? ⟨g, 0, none⟩ = false := blk_frozen hg3 0
  have f1 : W3.frozen? ⟨g, 1, none⟩ = false := blk_frozen hg3 1
  have f2 : W3.frozen? ⟨g, 2, none⟩ = false := blk_frozen hg3 2
  have x0 : W3.cell? ⟨g3, 0, none⟩ = some (.int .i64 x.f0) := blk_cell hx3 0
  have x1 : W3.cell? ⟨g3, 1, none⟩ = some (.int .i64 x.f1) := blk_cell hx3 1
  have x2 : W3.cell? ⟨g3, 2, none⟩ = some (.int .i64 x.f2) := blk_cell hx3 2
  have x3 : W3.cell? ⟨g3, 3, none⟩ = some (.int .i64 x.f3) := blk_cell hx3 3
  have x4 : W3.cell? ⟨g3, 4, none⟩ = some (.int .i64 x.f4) := blk_cell hx3 4
  have x5 : W3.cell? ⟨g3, 5, none⟩ = some (.int .i64 x.f5) := blk_cell hx3 5
  have x6 : W3.cell? ⟨g3, 6, none⟩ = some (.int .i64 x.f6) := blk_cell hx3 6
  have x7 : W3.cell? ⟨g3, 7, none⟩ = some (.int .i64 x.f7) := blk_cell hx3 7
  clear hW3 hgg hb3 hO3 hB3 hg3 hx3 y0 y1 y2 y3 y4 y5 y6 y7 d0 d37
  go_wp2_with fail
  have hgr := goal_run HO3.out x HOK.out
  unfold insA at hgr
  obtain ⟨to_, hto⟩ : ∃ t, t = (goalC s x).1 := ⟨_, rfl⟩
  rw [HGO.out, ← hto] at hgr
  refine hgr.mono ?_
  rintro e W4 ⟨rfl, hb4⟩
  have hg4 := blk_below HG3.out hb4
  have hx4 := blk_below HX3.out hb4
  have HO4 := Aside0.mk (HO3.out.below hb4)
  have HB4 := Aside0.mk (below_step HB3.out hb4)
  have HG4 := Aside0.mk hg4
  have HX4 := Aside0.mk hx4
  clear hgr hto hb4 hg4 hx4
  clear q0 q1 q2 f0 f1 f2 x0 x1 x2 x3 x4 x5 x6 x7
  have q0 : W4.cell? ⟨g, 0, none⟩ = some (.int .i64 0) := blk_cell (HG4.out) 0
  have f0 : W4.frozen? ⟨g, 0, none⟩ = false := blk_frozen (HG4.out) 0
  have q1 : W4.cell? ⟨g, 1, none⟩ = some (.int .i64 0) := blk_cell (HG4.out) 1
  have f1 : W4.frozen? ⟨g, 1, none⟩ = false := blk_frozen (HG4.out) 1
  have q2 : W4.cell? ⟨g, 2, none⟩ = some (.int .i64 0) := blk_cell (HG4.out) 2
  have f2 : W4.frozen? ⟨g, 2, none⟩ = false := blk_frozen (HG4.out) 2
  have x0 : W4.cell? ⟨g3, 0, none⟩ = some (.int .i64 x.f0) := blk_cell (HX4.out) 0
  have x1 : W4.cell? ⟨g3, 1, none⟩ = some (.int .i64 x.f1) := blk_cell (HX4.out) 1
  have x2 : W4.cell? ⟨g3, 2, none⟩ = some (.int .i64 x.f2) := blk_cell (HX4.out) 2
  have x3 : W4.cell? ⟨g3, 3, none⟩ = some (.int .i64 x.f3) := blk_cell (HX4.out) 3
  have x4 : W4.cell? ⟨g3, 4, none⟩ = some (.int .i64 x.f4) := blk_cell (HX4.out) 4
  have x5 : W4.cell? ⟨g3, 5, none⟩ = some (.int .i64 x.f5) := blk_cell (HX4.out) 5
  have x6 : W4.cell? ⟨g3, 6, none⟩ = some (.int .i64 x.f6) := blk_cell (HX4.out) 6
  have x7 : W4.cell? ⟨g3, 7, none⟩ = some (.int .i64 x.f7) := blk_cell (HX4.out) 7
  go_wp2_with fail
  have hdr := differ_run HO4.out x HOK.out
  unfold insA at hdr
  rw [HDI.out] at hdr
  refine hdr.mono ?_
  rintro e W5 ⟨rfl, hT⟩
  have HG5 := Aside0.mk (blk_kept HG4.out hT.2.1 (fun h => h.elim (fun h => by have h1 := H0.out.lt; have h2 := HG.out; omega) (fun h => by have h1 := H0.out.ltm; have h2 := HG.out; omega)))
  have HX5 := Aside0.mk (blk_kept HX4.out hT.2.1 (fun h => h.elim (fun h => by have h1 := H0.out.lt; have h2 := HGE.out; omega) (fun h => by have h1 := H0.out.ltm; have h2 := HGE.out; omega)))
  have HT5 := Aside0.mk (CTo.start HB4.out H0.out.le hT)
  clear hT hdr
  clear q0 q1 q2 f0 f1 f2 x0 x1 x2 x3 x4 x5 x6 x7
  have c37 := HT5.out.1.c37
  have f37 := HT5.out.1.fr 37
  obtain ⟨pl5, hpl5⟩ : ∃ q, q = (difC s x).pl := ⟨_, rfl⟩
  rw [← hpl5] at c37
  have HPL5 := Aside0.mk hpl5
  clear hpl5
  have q0 : W5.cell? ⟨g, 0, none⟩ = some (.int .i64 0) := blk_cell (HG5.out) 0
  have f0 : W5.frozen? ⟨g, 0, none⟩ = false := blk_frozen (HG5.out) 0
  have q1 : W5.cell? ⟨g, 1, none⟩ = some (.int .i64 0) := blk_cell (HG5.out) 1
  have f1 : W5.frozen? ⟨g, 1, none⟩ = false := blk_frozen (HG5.out) 1
  have q2 : W5.cell? ⟨g, 2, none⟩ = some (.int .i64 0) := blk_cell (HG5.out) 2
  have f2 : W5.frozen? ⟨g, 2, none⟩ = false := blk_frozen (HG5.out) 2
  have x0 : W5.cell? ⟨g3, 0, none⟩ = some (.int .i64 x.f0) := blk_cell (HX5.out) 0
  have x1 : W5.cell? ⟨g3, 1, none⟩ = some (.int .i64 x.f1) := blk_cell (HX5.out) 1
  have x2 : W5.cell? ⟨g3, 2, none⟩ = some (.int .i64 x.f2) := blk_cell (HX5.out) 2
  have x3 : W5.cell? ⟨g3, 3, none⟩ = some (.int .i64 x.f3) := blk_cell (HX5.out) 3
  have x4 : W5.cell? ⟨g3, 4, none⟩ = some (.int .i64 x.f4) := blk_cell (HX5.out) 4
  have x5 : W5.cell? ⟨g3, 5, none⟩ = some (.int .i64 x.f5) := blk_cell (HX5.out) 5
  have x6 : W5.cell? ⟨g3, 6, none⟩ = some (.int .i64 x.f6) := blk_cell (HX5.out) 6
  have x7 : W5.cell? ⟨g3, 7, none⟩ = some (.int .i64 x.f7) := blk_cell (HX5.out) 7
  go_wp2_with fail
  have hgp : g ≠ p := by have h1 := H0.out.lt; have h2 := HG.out; omega
  refine bodyPost_ret (results_cell_row rfl _ _ g 53 #[.int .i64 0, .int .i64 0, .int .i64 1] (0, 0) _ rfl (blk_three (blk_far (HG5.out) (p := ⟨p, 37, none⟩) hgp _) _ _ _) Try.underlying53 rfl (by kernel_rfl)) rfl ?_
  rw [show nextC (difC s x) = { difC s x with pl := wrap64 (pl5 + 1) } by unfold nextC; rw [← HPL5.out]]
  exact ⟨rfl, (((HT5.out.trans ⟨HT5.out.1.setpl _, setCell_kept _ p bm 37 p (.inl rfl) _, (Below.refl _ _).setCell (p := ⟨p, 37, none⟩) H0.out.lp _⟩).far HE.out H0.out.le (Nat.le_of_eq HG.out) 0 _).far HE.out H0.out.le (Nat.le_of_eq HG.out) 1 _).far HE.out H0.out.le (Nat.le_of_eq HG.out) 2 _⟩
set_option maxRecDepth 100000 in
set_option maxHeartbeats 2000000 in
theorem step_rec (h : COK w 69 B E p A c bm s) (hE : E ≤ w.heap.size) (hs : SOK s) (x : Ins) (hx : insC s = x) (he : ¬ s.pl = (s.ws.length : Int)) (h0 : ¬ x.f0 = 0) (o : okI x) (hgo : (goalC s x).2 = false) (hn1 : x.f0 < 23 ∨ 28 < x.f0) (h19 : ¬ x.f0 = 19) (h20 : ¬ x.f0 = 20) (hdi : isDif x = false) (h29 : ¬ x.f0 = 29) (h30 : ¬ x.f0 = 30) (hre : (reckC s x).2 = true) :
    Calls Try.prog 24 #[.pointer (some ⟨p, 0, none⟩)] w fun e w' => e = .returned (.agg #[.int .i64 0, .int .i64 0, .int .i64 1]) ∧ CTo w 69 B E p A c bm (nextC (recC s x)) w' := by
  have hu := Try.underlying53
  have hux := Try.underlying61
  have hB0 := below_alloc (Below.refl w.heap.size w) (.cells #[.int .i64 0, .int .i64 0, .int .i64 0] 53)
  have hblk := blk_new w (.cells #[.int .i64 0, .int .i64 0, .int .i64 0] 53)
  have hO := h.below hB0
  obtain ⟨W, hW⟩ : ∃ W, w.alloc (.cells #[.int .i64 0, .int .i64 0, .int .i64 0] 53) = W := ⟨_, rfl⟩
  obtain ⟨g, hg⟩ : ∃ g, w.heap.size = g := ⟨_, rfl⟩
  have hgW : W.heap.size = g + 1 := by rw [← hW, ← hg, World.size_alloc]
  rw [hW] at hB0 hblk hO
  rw [hg] at hblk
  have q0 : W.cell? ⟨g, 0, none⟩ = some (.int .i64 0) := blk_cell hblk 0
  have q1 : W.cell? ⟨g, 1, none⟩ = some (.int .i64 0) := blk_cell hblk 1
  have q2 : W.cell? ⟨g, 2, none⟩ = some (.int .i64 0) := blk_cell hblk 2
  have f0 : W.frozen? ⟨g, 0, none⟩ = false := blk_frozen hblk 0
  have f1 : W.frozen? ⟨g, 1, none⟩ = false := blk_frozen hblk 1
  have f2 : W.frozen? ⟨g, 2, none⟩ = false := blk_frozen hblk 2
  have HO := Aside0.mk hO
  have HB0 := Aside0.mk hB0
  have HBK := Aside0.mk hblk
  have HW := Aside0.mk hW
  have HG := Aside0.mk hg
  have HGW := Aside0.mk hgW
  have H0 := Aside0.mk h
  have HE := Aside0.mk hE
  have c0 := HO.out.c0
  have c37 := HO.out.c37
  clear h hO hB0 hblk hW hg hgW hE
  have hkk := hs.p0
  have hk2 := hs.p1
  obtain ⟨k, hk⟩ : ∃ k : Nat, s.pl = (k : Int) := ⟨s.pl.toNat, by omega⟩
  rw [hk] at c37 hk2 he
  have hkl : k < s.ws.length := by omega
  have hki : (k : Int) < (s.ws.length : Int) := by omega
  have hk0 : 0 ≤ (k : Int) := by omega
  have e1 : ((k : Int) == (s.ws.length : Int)) = false := by simpa using he
  have HK := Aside0.mk hk
  obtain ⟨ad, hA, x0, x1, x2, x3, x4, x5, x6, x7⟩ := at_T61 (Kd.R_reads' HO.out.own).2.2 (k : Int) (by omega) (by omega)
  subst hA
  have hrx : rd_T61 s.ws (k : Int) = x := by rw [← hx]; unfold insC; rw [hk]
  rw [Int.toNat_natCast, hrx] at x0 x1 x2 x3 x4 x5 x6 x7
  have HS := Aside0.mk hs
  clear hkk hk2 hk hs hrx he
  have n0 : (x.f0 == 0) = false := by simpa using h0
  have n19 : (x.f0 == 19) = false := by simpa using h19
  have n20 : (x.f0 == 20) = false := by simpa using h20
  have n29 : (x.f0 == 29) = false := by simp; omega
  have n30 : (x.f0 == 30) = false := by simp; omega
  have HGO := Aside0.mk hgo
  have HDI := Aside0.mk hdi
  have HOK := Aside0.mk o
  have HN := Aside0.mk (And.intro h0 (And.intro hn1 (And.intro h19 h20)))
  have HRE := Aside0.mk hre
  have H29 := Aside0.mk h29
  clear h29
  have H30 := Aside0.mk h30
  clear h30
  clear h0 hgo hdi o hn1 h19 h20 hre
  go_enter Try.func24, Try.ntmps24
  go_wp2_with fail
  rw [HW.out, HG.out]
  go_big_quiet (fail)
  have HO1 := Aside0.mk (HO.out.drewN nq)
  have HB1 := Aside0.mk (below_dN0 HB0.out nq)
  have HBK1 := Aside0.mk (blk_drewN HBK.out nq)
  have hz1 : (W.drewN nq).heap.size = g + 1 := HGW.out
  have y0 : (W.drewN nq).cell? _ = _ := x0
  have y1 : (W.drewN nq).cell? _ = _ := x1
  have y2 : (W.drewN nq).cell? _ = _ := x2
  have y3 : (W.drewN nq).cell? _ = _ := x3
  have y4 : (W.drewN nq).cell? _ = _ := x4
  have y5 : (W.drewN nq).cell? _ = _ := x5
  have y6 : (W.drewN nq).cell? _ = _ := x6
  have y7 : (W.drewN nq).cell? _ = _ := x7
  have d0 := HO1.out.c0
  have d37 := HO1.out.c37
  rw [HK.out] at d37
  clear q0 q1 q2 f0 f1 f2 c0 c37 x0 x1 x2 x3 x4 x5 x6 x7
  go_upto_region 3 with (fail)
  obtain ⟨W1, hW1⟩ : ∃ W1, W.drewN nq = W1 := ⟨_, rfl⟩
  rw [hW1] at HO1 HB1 HBK1 hz1 y0 y1 y2 y3 y4 y5 y6 y7 d0 d37 ⊢
  clear hW1
  have HZ1 := Aside0.mk hz1
  clear hz1
  have hp1 := HO1.out.lt
  have hp2 : p ≠ W1.heap.size := Nat.ne_of_lt hp1
  have ha1 := World.block_lt_of_cell? _ _ y0
  have ha2 : (ad.add (k * 8)).block ≠ W1.heap.size := Nat.ne_of_lt ha1
  go_region
  clear hp1 hp2 ha1 ha2
  go_upto_region 4 with (fail)
  have hb3 := below_drew (below_alloc (Below.refl W1.heap.size W1) (.cells #[.int .i64 x.f0, .int .i64 x.f1, .int .i64 x.f2, .int .i64 x.f3, .int .i64 x.f4, .int .i64 x.f5, .int .i64 x.f6, .int .i64 x.f7] 61))
  have hO3 := HO1.out.below hb3
  have hB3 := below_step HB1.out hb3
  have hg3 := blk_below HBK1.out hb3
  have hx3 := blk_drew (blk_new W1 (.cells #[.int .i64 x.f0, .int .i64 x.f1, .int .i64 x.f2, .int .i64 x.f3, .int .i64 x.f4, .int .i64 x.f5, .int .i64 x.f6, .int .i64 x.f7] 61))
  obtain ⟨W3, hW3⟩ : ∃ W3, (W1.alloc (.cells #[.int .i64 x.f0, .int .i64 x.f1, .int .i64 x.f2, .int .i64 x.f3, .int .i64 x.f4, .int .i64 x.f5, .int .i64 x.f6, .int .i64 x.f7] 61)).drew = W3 := ⟨_, rfl⟩
  obtain ⟨g3, hgg⟩ : ∃ g3, W1.heap.size = g3 := ⟨_, rfl⟩
  rw [hW3] at hb3 hO3 hB3 hg3 hx3 ⊢
  rw [hgg] at hx3 ⊢
  have HO3 := Aside0.mk hO3
  have HB3 := Aside0.mk hB3
  have HG3 := Aside0.mk hg3
  have HX3 := Aside0.mk hx3
  have HGE := Aside0.mk (show w.heap.size ≤ g3 by have h1 := HZ1.out; have h2 := HG.out; omega)
  have q0 : W3.cell? ⟨g, 0, none⟩ = some (.int .i64 0) := blk_cell hg3 0
  have q1 : W3.cell? ⟨g, 1, none⟩ = some (.int .i64 0) := blk_cell hg3 1
  have q2 : W3.cell? ⟨g, 2, none⟩ = some (.int .i64 0) := blk_cell hg3 2
  have f0 : W3.frozen? ⟨g, 0, none⟩ = false := blk_frozen hg3 0
  have f1 : W3.frozen? ⟨g, 1, none⟩ = false := blk_frozen hg3 1
  have f2 : W3.frozen? ⟨g, 2, none⟩ = false := blk_frozen hg3 2
  have x0 : W3.cell? ⟨g3, 0, none⟩ = some (.int .i64 x.f0) := blk_cell hx3 0
  have x1 : W3.cell? ⟨g3, 1, none⟩ = some (.int .i64 x.f1) := blk_cell hx3 1
  have x2 : W3.cell? ⟨g3, 2, none⟩ = some (.int .i64 x.f2) := blk_cell hx3 2
  have x3 : W3.cell? ⟨g3, 3, none⟩ = some (.int .i64 x.f3) := blk_cell hx3 3
  have x4 : W3.cell? ⟨g3, 4, none⟩ = some (.int .i64 x.f4) := blk_cell hx3 4
  have x5 : W3.cell? ⟨g3, 5, none⟩ = some (.int .i64 x.f5) := blk_cell hx3 5
  have x6 : W3.cell? ⟨g3, 6, none⟩ = some (.int .i64 x.f6) := blk_cell hx3 6
  have x7 : W3.cell? ⟨g3, 7, none⟩ = some (.int .i64 x.f7) := blk_cell hx3 7
  clear hW3 hgg hb3 hO3 hB3 hg3 hx3 y0 y1 y2 y3 y4 y5 y6 y7 d0 d37
  go_wp2_with fail
  have hgr := goal_run HO3.out x HOK.out
  unfold insA at hgr
  obtain ⟨to_, hto⟩ : ∃ t, t = (goalC s x).1 := ⟨_, rfl⟩
  rw [HGO.out, ← hto] at hgr
  refine hgr.mono ?_
  rintro e W4 ⟨rfl, hb4⟩
  have hg4 := blk_below HG3.out hb4
  have hx4 := blk_below HX3.out hb4
  have HO4 := Aside0.mk (HO3.out.below hb4)
  have HB4 := Aside0.mk (below_step HB3.out hb4)
  have HG4 := Aside0.mk hg4
  have HX4 := Aside0.mk hx4
  clear hgr hto hb4 hg4 hx4
  clear q0 q1 q2 f0 f1 f2 x0 x1 x2 x3 x4 x5 x6 x7
  have q0 : W4.cell? ⟨g, 0, none⟩ = some (.int .i64 0) := blk_cell (HG4.out) 0
  have f0 : W4.frozen? ⟨g, 0, none⟩ = false := blk_frozen (HG4.out) 0
  have q1 : W4.cell? ⟨g, 1, none⟩ = some (.int .i64 0) := blk_cell (HG4.out) 1
  have f1 : W4.frozen? ⟨g, 1, none⟩ = false := blk_frozen (HG4.out) 1
  have q2 : W4.cell? ⟨g, 2, none⟩ = some (.int .i64 0) := blk_cell (HG4.out) 2
  have f2 : W4.frozen? ⟨g, 2, none⟩ = false := blk_frozen (HG4.out) 2
  have x0 : W4.cell? ⟨g3, 0, none⟩ = some (.int .i64 x.f0) := blk_cell (HX4.out) 0
  have x1 : W4.cell? ⟨g3, 1, none⟩ = some (.int .i64 x.f1) := blk_cell (HX4.out) 1
  have x2 : W4.cell? ⟨g3, 2, none⟩ = some (.int .i64 x.f2) := blk_cell (HX4.out) 2
  have x3 : W4.cell? ⟨g3, 3, none⟩ = some (.int .i64 x.f3) := blk_cell (HX4.out) 3
  have x4 : W4.cell? ⟨g3, 4, none⟩ = some (.int .i64 x.f4) := blk_cell (HX4.out) 4
  have x5 : W4.cell? ⟨g3, 5, none⟩ = some (.int .i64 x.f5) := blk_cell (HX4.out) 5
  have x6 : W4.cell? ⟨g3, 6, none⟩ = some (.int .i64 x.f6) := blk_cell (HX4.out) 6
  have x7 : W4.cell? ⟨g3, 7, none⟩ = some (.int .i64 x.f7) := blk_cell (HX4.out) 7
  go_wp2_with fail
  have hdr := differ_run HO4.out x HOK.out
  unfold insA at hdr
  rw [HDI.out] at hdr
  refine hdr.mono ?_
  rintro e W5 ⟨rfl, hT⟩
  have HG5 := Aside0.mk (blk_kept HG4.out hT.2.1 (fun h => h.elim (fun h => by have h1 := H0.out.lt; have h2 := HG.out; omega) (fun h => by have h1 := H0.out.ltm; have h2 := HG.out; omega)))
  have HX5 := Aside0.mk (blk_kept HX4.out hT.2.1 (fun h => h.elim (fun h => by have h1 := H0.out.lt; have h2 := HGE.out; omega) (fun h => by have h1 := H0.out.ltm; have h2 := HGE.out; omega)))
  have HT5 := Aside0.mk (CTo.start HB4.out H0.out.le hT)
  clear hT hdr
  clear q0 q1 q2 f0 f1 f2 x0 x1 x2 x3 x4 x5 x6 x7
  have q0 : W5.cell? ⟨g, 0, none⟩ = some (.int .i64 0) := blk_cell (HG5.out) 0
  have f0 : W5.frozen? ⟨g, 0, none⟩ = false := blk_frozen (HG5.out) 0
  have q1 : W5.cell? ⟨g, 1, none⟩ = some (.int .i64 0) := blk_cell (HG5.out) 1
  have f1 : W5.frozen? ⟨g, 1, none⟩ = false := blk_frozen (HG5.out) 1
  have q2 : W5.cell? ⟨g, 2, none⟩ = some (.int .i64 0) := blk_cell (HG5.out) 2
  have f2 : W5.frozen? ⟨g, 2, none⟩ = false := blk_frozen (HG5.out) 2
  have x0 : W5.cell? ⟨g3, 0, none⟩ = some (.int .i64 x.f0) := blk_cell (HX5.out) 0
  have x1 : W5.cell? ⟨g3, 1, none⟩ = some (.int .i64 x.f1) := blk_cell (HX5.out) 1
  have x2 : W5.cell? ⟨g3, 2, none⟩ = some (.int .i64 x.f2) := blk_cell (HX5.out) 2
  have x3 : W5.cell? ⟨g3, 3, none⟩ = some (.int .i64 x.f3) := blk_cell (HX5.out) 3
  have x4 : W5.cell? ⟨g3, 4, none⟩ = some (.int .i64 x.f4) := blk_cell (HX5.out) 4
  have x5 : W5.cell? ⟨g3, 5, none⟩ = some (.int .i64 x.f5) := blk_cell (HX5.out) 5
  have x6 : W5.cell? ⟨g3, 6, none⟩ = some (.int .i64 x.f6) := blk_cell (HX5.out) 6
  have x7 : W5.cell? ⟨g3, 7, none⟩ = some (.int .i64 x.f7) := blk_cell (HX5.out) 7
  have hds : difC s x = s := by
    have h := HDI.out
    unfold isDif at h
    rw [Bool.and_eq_false_iff, decide_eq_false_iff_not, decide_eq_false_iff_not] at h
    unfold difC
    rw [if_neg (by omega), if_neg (by omega), if_neg (by omega), if_neg (by omega)]
  rw [hds] at HT5
  clear hds
  go_wp2_with fail
  have hrr := reckon_run HT5.out.1 x HOK.out HN.out.1 HN.out.2.1 HN.out.2.2.1 HN.out.2.2.2 HDI.out
  unfold insA at hrr
  obtain ⟨v, hv⟩ : ∃ v, v = (reckC s x).1 := ⟨_, rfl⟩
  rw [HRE.out, ← hv] at hrr
  have HV := Aside0.mk hv
  refine hrr.mono ?_
  rintro e W6 ⟨rfl, hb6⟩
  have HT6 := Aside0.mk (HT5.out.below (Nat.le_trans H0.out.le (keep_le HT5.out)) hb6)
  have HG6 := Aside0.mk (blk_below HG5.out hb6)
  have HX6 := Aside0.mk (blk_below HX5.out hb6)
  clear hrr hv hb6
  clear q0 q1 q2 f0 f1 f2 x0 x1 x2 x3 x4 x5 x6 x7
  have q0 : W6.cell? ⟨g, 0, none⟩ = some (.int .i64 0) := blk_cell (HG6.out) 0
  have f0 : W6.frozen? ⟨g, 0, none⟩ = false := blk_frozen (HG6.out) 0
  have q1 : W6.cell? ⟨g, 1, none⟩ = some (.int .i64 0) := blk_cell (HG6.out) 1
  have f1 : W6.frozen? ⟨g, 1, none⟩ = false := blk_frozen (HG6.out) 1
  have q2 : W6.cell? ⟨g, 2, none⟩ = some (.int .i64 0) := blk_cell (HG6.out) 2
  have f2 : W6.frozen? ⟨g, 2, none⟩ = false := blk_frozen (HG6.out) 2
  have x0 : W6.cell? ⟨g3, 0, none⟩ = some (.int .i64 x.f0) := blk_cell (HX6.out) 0
  have x1 : W6.cell? ⟨g3, 1, none⟩ = some (.int .i64 x.f1) := blk_cell (HX6.out) 1
  have x2 : W6.cell? ⟨g3, 2, none⟩ = some (.int .i64 x.f2) := blk_cell (HX6.out) 2
  have x3 : W6.cell? ⟨g3, 3, none⟩ = some (.int .i64 x.f3) := blk_cell (HX6.out) 3
  have x4 : W6.cell? ⟨g3, 4, none⟩ = some (.int .i64 x.f4) := blk_cell (HX6.out) 4
  have x5 : W6.cell? ⟨g3, 5, none⟩ = some (.int .i64 x.f5) := blk_cell (HX6.out) 5
  have x6 : W6.cell? ⟨g3, 6, none⟩ = some (.int .i64 x.f6) := blk_cell (HX6.out) 6
  have x7 : W6.cell? ⟨g3, 7, none⟩ = some (.int .i64 x.f7) := blk_cell (HX6.out) 7

  go_wp2_with fail
  refine (put_run HT6.out.1 x.f1 v HOK.out.r1.1 HOK.out.r1.2).mono ?_
  rintro e W7 ⟨rfl, hT⟩
  have HG7 := Aside0.mk (blk_kept HG6.out hT.2.1 (fun h => h.elim (fun h => by have h1 := H0.out.lt; have h2 := HG.out; omega) (fun h => by have h1 := H0.out.ltm; have h2 := HG.out; omega)))
  have HX7 := Aside0.mk (blk_kept HX6.out hT.2.1 (fun h => h.elim (fun h => by have h1 := H0.out.lt; have h2 := HGE.out; omega) (fun h => by have h1 := H0.out.ltm; have h2 := HGE.out; omega)))
  have HT7 := Aside0.mk (HT6.out.trans hT)
  clear hT
  clear q0 q1 q2 f0 f1 f2 x0 x1 x2 x3 x4 x5 x6 x7
  have c37 := HT7.out.1.c37
  have f37 := HT7.out.1.fr 37
  obtain ⟨pl5, hpl5⟩ : ∃ q, q = (putC s x.f1 v).pl := ⟨_, rfl⟩
  rw [← hpl5] at c37
  have HPL5 := Aside0.mk hpl5
  clear hpl5
  have q0 : W7.cell? ⟨g, 0, none⟩ = some (.int .i64 0) := blk_cell (HG7.out) 0
  have f0 : W7.frozen? ⟨g, 0, none⟩ = false := blk_frozen (HG7.out) 0
  have q1 : W7.cell? ⟨g, 1, none⟩ = some (.int .i64 0) := blk_cell (HG7.out) 1
  have f1 : W7.frozen? ⟨g, 1, none⟩ = false := blk_frozen (HG7.out) 1
  have q2 : W7.cell? ⟨g, 2, none⟩ = some (.int .i64 0) := blk_cell (HG7.out) 2
  have f2 : W7.frozen? ⟨g, 2, none⟩ = false := blk_frozen (HG7.out) 2
  have x0 : W7.cell? ⟨g3, 0, none⟩ = some (.int .i64 x.f0) := blk_cell (HX7.out) 0
  have x1 : W7.cell? ⟨g3, 1, none⟩ = some (.int .i64 x.f1) := blk_cell (HX7.out) 1
  have x2 : W7.cell? ⟨g3, 2, none⟩ = some (.int .i64 x.f2) := blk_cell (HX7.out) 2
  have x3 : W7.cell? ⟨g3, 3, none⟩ = some (.int .i64 x.f3) := blk_cell (HX7.out) 3
  have x4 : W7.cell? ⟨g3, 4, none⟩ = some (.int .i64 x.f4) := blk_cell (HX7.out) 4
  have x5 : W7.cell? ⟨g3, 5, none⟩ = some (.int .i64 x.f5) := blk_cell (HX7.out) 5
  have x6 : W7.cell? ⟨g3, 6, none⟩ = some (.int .i64 x.f6) := blk_cell (HX7.out) 6
  have x7 : W7.cell? ⟨g3, 7, none⟩ = some (.int .i64 x.f7) := blk_cell (HX7.out) 7
  go_wp2_with fail
  have hgp : g ≠ p := by have h1 := H0.out.lt; have h2 := HG.out; omega
  refine bodyPost_ret (results_cell_row rfl _ _ g 53 #[.int .i64 0, .int .i64 0, .int .i64 1] (0, 0) _ rfl (blk_three (blk_far (HG7.out) (p := ⟨p, 37, none⟩) hgp _) _ _ _) Try.underlying53 rfl (by kernel_rfl)) rfl ?_
  rw [show recC s x = putC s x.f1 v by unfold recC; rw [HRE.out, if_pos rfl, ← HV.out]]
  rw [show nextC (putC s x.f1 v) = { putC s x.f1 v with pl := wrap64 (pl5 + 1) } by unfold nextC; rw [← HPL5.out]]
  exact ⟨rfl, (((HT7.out.trans ⟨HT7.out.1.setpl _, setCell_kept _ p bm 37 p (.inl rfl) _, (Below.refl _ _).setCell (p := ⟨p, 37, none⟩) H0.out.lp _⟩).far HE.out H0.out.le (Nat.le_of_eq HG.out) 0 _).far HE.out H0.out.le (Nat.le_of_eq HG.out) 1 _).far HE.out H0.out.le (Nat.le_of_eq HG.out) 2 _⟩
set_option maxRecDepth 100000 in
set_option maxHeartbeats 2000000 in
theorem step_still (h : COK w 69 B E p A c bm s) (hE : E ≤ w.heap.size) (hs : SOK s) (x : Ins) (hx : insC s = x) (he : ¬ s.pl = (s.ws.length : Int)) (h0 : ¬ x.f0 = 0) (o : okI x) (hgo : (goalC s x).2 = false) (hn1 : x.f0 < 23 ∨ 28 < x.f0) (h19 : ¬ x.f0 = 19) (h20 : ¬ x.f0 = 20) (hdi : isDif x = false) (h29 : ¬ x.f0 = 29) (h30 : ¬ x.f0 = 30) (hre : (reckC s x).2 = false) :
    Calls Try.prog 24 #[.pointer (some ⟨p, 0, none⟩)] w fun e w' => e = .returned (.agg #[.int .i64 0, .int .i64 0, .int .i64 1]) ∧ CTo w 69 B E p A c bm (nextC (recC s x)) w' := by
  have hu := Try.underlying53
  have hux := Try.underlying61
  have hB0 := below_alloc (Below.refl w.heap.size w) (.cells #[.int .i64 0, .int .i64 0, .int .i64 0] 53)
  have hblk := blk_new w (.cells #[.int .i64 0, .int .i64 0, .int .i64 0] 53)
  have hO := h.below hB0
  obtain ⟨W, hW⟩ : ∃ W, w.alloc (.cells #[.int .i64 0, .int .i64 0, .int .i64 0] 53) = W := ⟨_, rfl⟩
  obtain ⟨g, hg⟩ : ∃ g, w.heap.size = g := ⟨_, rfl⟩
  have hgW : W.heap.size = g + 1 := by rw [← hW, ← hg, World.size_alloc]
  rw [hW] at hB0 hblk hO
  rw [hg] at hblk
  have q0 : W.cell? ⟨g, 0, none⟩ = some (.int .i64 0) := blk_cell hblk 0
  have q1 : W.cell? ⟨g, 1, none⟩ = some (.int .i64 0) := blk_cell hblk 1
  have q2 : W.cell? ⟨g, 2, none⟩ = some (.int .i64 0) := blk_cell hblk 2
  have f0 : W.frozen? ⟨g, 0, none⟩ = false := blk_frozen hblk 0
  have f1 : W.frozen? ⟨g, 1, none⟩ = false := blk_frozen hblk 1
  have f2 : W.frozen? ⟨g, 2, none⟩ = false := blk_frozen hblk 2
  have HO := Aside0.mk hO
  have HB0 := Aside0.mk hB0
  have HBK := Aside0.mk hblk
  have HW := Aside0.mk hW
  have HG := Aside0.mk hg
  have HGW := Aside0.mk hgW
  have H0 := Aside0.mk h
  have HE := Aside0.mk hE
  have c0 := HO.out.c0
  have c37 := HO.out.c37
  clear h hO hB0 hblk hW hg hgW hE
  have hkk := hs.p0
  have hk2 := hs.p1
  obtain ⟨k, hk⟩ : ∃ k : Nat, s.pl = (k : Int) := ⟨s.pl.toNat, by omega⟩
  rw [hk] at c37 hk2 he
  have hkl : k < s.ws.length := by omega
  have hki : (k : Int) < (s.ws.length : Int) := by omega
  have hk0 : 0 ≤ (k : Int) := by omega
  have e1 : ((k : Int) == (s.ws.length : Int)) = false := by simpa using he
  have HK := Aside0.mk hk
  obtain ⟨ad, hA, x0, x1, x2, x3, x4, x5, x6, x7⟩ := at_T61 (Kd.R_reads' HO.out.own).2.2 (k : Int) (by omega) (by omega)
  subst hA
  have hrx : rd_T61 s.ws (k : Int) = x := by rw [← hx]; unfold insC; rw [hk]
  rw [Int.toNat_natCast, hrx] at x0 x1 x2 x3 x4 x5 x6 x7
  have HS := Aside0.mk hs
  clear hkk hk2 hk hs hrx he
  have n0 : (x.f0 == 0) = false := by simpa using h0
  have n19 : (x.f0 == 19) = false := by simpa using h19
  have n20 : (x.f0 == 20) = false := by simpa using h20
  have n29 : (x.f0 == 29) = false := by simp; omega
  have n30 : (x.f0 == 30) = false := by simp; omega
  have HGO := Aside0.mk hgo
  have HDI := Aside0.mk hdi
  have HOK := Aside0.mk o
  have HN := Aside0.mk (And.intro h0 (And.intro hn1 (And.intro h19 h20)))
  have HRE := Aside0.mk hre
  have H29 := Aside0.mk h29
  clear h29
  have H30 := Aside0.mk h30
  clear h30
  clear h0 hgo hdi o hn1 h19 h20 hre
  go_enter Try.func24, Try.ntmps24
  go_wp2_with fail
  rw [HW.out, HG.out]
  go_big_quiet (fail)
  have HO1 := Aside0.mk (HO.out.drewN nq)
  have HB1 := Aside0.mk (below_dN0 HB0.out nq)
  have HBK1 := Aside0.mk (blk_drewN HBK.out nq)
  have hz1 : (W.drewN nq).heap.size = g + 1 := HGW.out
  have y0 : (W.drewN nq).cell? _ = _ := x0
  have y1 : (W.drewN nq).cell? _ = _ := x1
  have y2 : (W.drewN nq).cell? _ = _ := x2
  have y3 : (W.drewN nq).cell? _ = _ := x3
  have y4 : (W.drewN nq).cell? _ = _ := x4
  have y5 : (W.drewN nq).cell? _ = _ := x5
  have y6 : (W.drewN nq).cell? _ = _ := x6
  have y7 : (W.drewN nq).cell? _ = _ := x7
  have d0 := HO1.out.c0
  have d37 := HO1.out.c37
  rw [HK.out] at d37
  clear q0 q1 q2 f0 f1 f2 c0 c37 x0 x1 x2 x3 x4 x5 x6 x7
  go_upto_region 3 with (fail)
  obtain ⟨W1, hW1⟩ : ∃ W1, W.drewN nq = W1 := ⟨_, rfl⟩
  rw [hW1] at HO1 HB1 HBK1 hz1 y0 y1 y2 y3 y4 y5 y6 y7 d0 d37 ⊢
  clear hW1
  have HZ1 := Aside0.mk hz1
  clear hz1
  have hp1 := HO1.out.lt
  have hp2 : p ≠ W1.heap.size := Nat.ne_of_lt hp1
  have ha1 := World.block_lt_of_cell? _ _ y0
  have ha2 : (ad.add (k * 8)).block ≠ W1.heap.size := Nat.ne_of_lt ha1
  go_region
  clear hp1 hp2 ha1 ha2
  go_upto_region 4 with (fail)
  have hb3 := below_drew (below_alloc (Below.refl W1.heap.size W1) (.cells #[.int .i64 x.f0, .int .i64 x.f1, .int .i64 x.f2, .int .i64 x.f3, .int .i64 x.f4, .int .i64 x.f5, .int .i64 x.f6, .int .i64 x.f7] 61))
  have hO3 := HO1.out.below hb3
  have hB3 := below_step HB1.out hb3
  have hg3 := blk_below HBK1.out hb3
  have hx3 := blk_drew (blk_new W1 (.cells #[.int .i64 x.f0, .int .i64 x.f1, .int .i64 x.f2, .int .i64 x.f3, .int .i64 x.f4, .int .i64 x.f5, .int .i64 x.f6, .int .i64 x.f7] 61))
  obtain ⟨W3, hW3⟩ : ∃ W3, (W1.alloc (.cells #[.int .i64 x.f0, .int .i64 x.f1, .int .i64 x.f2, .int .i64 x.f3, .int .i64 x.f4, .int .i64 x.f5, .int .i64 x.f6, .int .i64 x.f7] 61)).drew = W3 := ⟨_, rfl⟩
  obtain ⟨g3, hgg⟩ : ∃ g3, W1.heap.size = g3 := ⟨_, rfl⟩
  rw [hW3] at hb3 hO3 hB3 hg3 hx3 ⊢
  rw [hgg] at hx3 ⊢
  have HO3 := Aside0.mk hO3
  have HB3 := Aside0.mk hB3
  have HG3 := Aside0.mk hg3
  have HX3 := Aside0.mk hx3
  have HGE := Aside0.mk (show w.heap.size ≤ g3 by have h1 := HZ1.out; have h2 := HG.out; omega)
  have q0 : W3.cell? ⟨g, 0, none⟩ = some (.int .i64 0) := blk_cell hg3 0
  have q1 : W3.cell? ⟨g, 1, none⟩ = some (.int .i64 0) := blk_cell hg3 1
  have q2 : W3.cell? ⟨g, 2, none⟩ = some (.int .i64 0) := blk_cell hg3 2
  have f0 : W3.frozen? ⟨g, 0, none⟩ = false := blk_frozen hg3 0
  have f1 : W3.frozen? ⟨g, 1, none⟩ = false := blk_frozen hg3 1
  have f2 : W3.frozen? ⟨g, 2, none⟩ = false := blk_frozen hg3 2
  have x0 : W3.cell? ⟨g3, 0, none⟩ = some (.int .i64 x.f0) := blk_cell hx3 0
  have x1 : W3.cell? ⟨g3, 1, none⟩ = some (.int .i64 x.f1) := blk_cell hx3 1
  have x2 : W3.cell? ⟨g3, 2, none⟩ = some (.int .i64 x.f2) := blk_cell hx3 2
  have x3 : W3.cell? ⟨g3, 3, none⟩ = some (.int .i64 x.f3) := blk_cell hx3 3
  have x4 : W3.cell? ⟨g3, 4, none⟩ = some (.int .i64 x.f4) := blk_cell hx3 4
  have x5 : W3.cell? ⟨g3, 5, none⟩ = some (.int .i64 x.f5) := blk_cell hx3 5
  have x6 : W3.cell? ⟨g3, 6, none⟩ = some (.int .i64 x.f6) := blk_cell hx3 6
  have x7 : W3.cell? ⟨g3, 7, none⟩ = some (.int .i64 x.f7) := blk_cell hx3 7
  clear hW3 hgg hb3 hO3 hB3 hg3 hx3 y0 y1 y2 y3 y4 y5 y6 y7 d0 d37
  go_wp2_with fail
  have hgr := goal_run HO3.out x HOK.out
  unfold insA at hgr
  obtain ⟨to_, hto⟩ : ∃ t, t = (goalC s x).1 := ⟨_, rfl⟩
  rw [HGO.out, ← hto] at hgr
  refine hgr.mono ?_
  rintro e W4 ⟨rfl, hb4⟩
  have hg4 := blk_below HG3.out hb4
  have hx4 := blk_below HX3.out hb4
  have HO4 := Aside0.mk (HO3.out.below hb4)
  have HB4 := Aside0.mk (below_step HB3.out hb4)
  have HG4 := Aside0.mk hg4
  have HX4 := Aside0.mk hx4
  clear hgr hto hb4 hg4 hx4
  clear q0 q1 q2 f0 f1 f2 x0 x1 x2 x3 x4 x5 x6 x7
  have q0 : W4.cell? ⟨g, 0, none⟩ = some (.int .i64 0) := blk_cell (HG4.out) 0
  have f0 : W4.frozen? ⟨g, 0, none⟩ = false := blk_frozen (HG4.out) 0
  have q1 : W4.cell? ⟨g, 1, none⟩ = some (.int .i64 0) := blk_cell (HG4.out) 1
  have f1 : W4.frozen? ⟨g, 1, none⟩ = false := blk_frozen (HG4.out) 1
  have q2 : W4.cell? ⟨g, 2, none⟩ = some (.int .i64 0) := blk_cell (HG4.out) 2
  have f2 : W4.frozen? ⟨g, 2, none⟩ = false := blk_frozen (HG4.out) 2
  have x0 : W4.cell? ⟨g3, 0, none⟩ = some (.int .i64 x.f0) := blk_cell (HX4.out) 0
  have x1 : W4.cell? ⟨g3, 1, none⟩ = some (.int .i64 x.f1) := blk_cell (HX4.out) 1
  have x2 : W4.cell? ⟨g3, 2, none⟩ = some (.int .i64 x.f2) := blk_cell (HX4.out) 2
  have x3 : W4.cell? ⟨g3, 3, none⟩ = some (.int .i64 x.f3) := blk_cell (HX4.out) 3
  have x4 : W4.cell? ⟨g3, 4, none⟩ = some (.int .i64 x.f4) := blk_cell (HX4.out) 4
  have x5 : W4.cell? ⟨g3, 5, none⟩ = some (.int .i64 x.f5) := blk_cell (HX4.out) 5
  have x6 : W4.cell? ⟨g3, 6, none⟩ = some (.int .i64 x.f6) := blk_cell (HX4.out) 6
  have x7 : W4.cell? ⟨g3, 7, none⟩ = some (.int .i64 x.f7) := blk_cell (HX4.out) 7
  go_wp2_with fail
  have hdr := differ_run HO4.out x HOK.out
  unfold insA at hdr
  rw [HDI.out] at hdr
  refine hdr.mono ?_
  rintro e W5 ⟨rfl, hT⟩
  have HG5 := Aside0.mk (blk_kept HG4.out hT.2.1 (fun h => h.elim (fun h => by have h1 := H0.out.lt; have h2 := HG.out; omega) (fun h => by have h1 := H0.out.ltm; have h2 := HG.out; omega)))
  have HX5 := Aside0.mk (blk_kept HX4.out hT.2.1 (fun h => h.elim (fun h => by have h1 := H0.out.lt; have h2 := HGE.out; omega) (fun h => by have h1 := H0.out.ltm; have h2 := HGE.out; omega)))
  have HT5 := Aside0.mk (CTo.start HB4.out H0.out.le hT)
  clear hT hdr
  clear q0 q1 q2 f0 f1 f2 x0 x1 x2 x3 x4 x5 x6 x7
  have q0 : W5.cell? ⟨g, 0, none⟩ = some (.int .i64 0) := blk_cell (HG5.out) 0
  have f0 : W5.frozen? ⟨g, 0, none⟩ = false := blk_frozen (HG5.out) 0
  have q1 : W5.cell? ⟨g, 1, none⟩ = some (.int .i64 0) := blk_cell (HG5.out) 1
  have f1 : W5.frozen? ⟨g, 1, none⟩ = false := blk_frozen (HG5.out) 1
  have q2 : W5.cell? ⟨g, 2, none⟩ = some (.int .i64 0) := blk_cell (HG5.out) 2
  have f2 : W5.frozen? ⟨g, 2, none⟩ = false := blk_frozen (HG5.out) 2
  have x0 : W5.cell? ⟨g3, 0, none⟩ = some (.int .i64 x.f0) := blk_cell (HX5.out) 0
  have x1 : W5.cell? ⟨g3, 1, none⟩ = some (.int .i64 x.f1) := blk_cell (HX5.out) 1
  have x2 : W5.cell? ⟨g3, 2, none⟩ = some (.int .i64 x.f2) := blk_cell (HX5.out) 2
  have x3 : W5.cell? ⟨g3, 3, none⟩ = some (.int .i64 x.f3) := blk_cell (HX5.out) 3
  have x4 : W5.cell? ⟨g3, 4, none⟩ = some (.int .i64 x.f4) := blk_cell (HX5.out) 4
  have x5 : W5.cell? ⟨g3, 5, none⟩ = some (.int .i64 x.f5) := blk_cell (HX5.out) 5
  have x6 : W5.cell? ⟨g3, 6, none⟩ = some (.int .i64 x.f6) := blk_cell (HX5.out) 6
  have x7 : W5.cell? ⟨g3, 7, none⟩ = some (.int .i64 x.f7) := blk_cell (HX5.out) 7
  have hds : difC s x = s := by
    have h := HDI.out
    unfold isDif at h
    rw [Bool.and_eq_false_iff, decide_eq_false_iff_not, decide_eq_false_iff_not] at h
    unfold difC
    rw [if_neg (by omega), if_neg (by omega), if_neg (by omega), if_neg (by omega)]
  rw [hds] at HT5
  clear hds
  go_wp2_with fail
  have hrr := reckon_run HT5.out.1 x HOK.out HN.out.1 HN.out.2.1 HN.out.2.2.1 HN.out.2.2.2 HDI.out
  unfold insA at hrr
  obtain ⟨v, hv⟩ : ∃ v, v = (reckC s x).1 := ⟨_, rfl⟩
  rw [HRE.out, ← hv] at hrr
  have HV := Aside0.mk hv
  refine hrr.mono ?_
  rintro e W6 ⟨rfl, hb6⟩
  have HT6 := Aside0.mk (HT5.out.below (Nat.le_trans H0.out.le (keep_le HT5.out)) hb6)
  have HG6 := Aside0.mk (blk_below HG5.out hb6)
  have HX6 := Aside0.mk (blk_below HX5.out hb6)
  clear hrr hv hb6
  clear q0 q1 q2 f0 f1 f2 x0 x1 x2 x3 x4 x5 x6 x7
  have q0 : W6.cell? ⟨g, 0, none⟩ = some (.int .i64 0) := blk_cell (HG6.out) 0
  have f0 : W6.frozen? ⟨g, 0, none⟩ = false := blk_frozen (HG6.out) 0
  have q1 : W6.cell? ⟨g, 1, none⟩ = some (.int .i64 0) := blk_cell (HG6.out) 1
  have f1 : W6.frozen? ⟨g, 1, none⟩ = false := blk_frozen (HG6.out) 1
  have q2 : W6.cell? ⟨g, 2, none⟩ = some (.int .i64 0) := blk_cell (HG6.out) 2
  have f2 : W6.frozen? ⟨g, 2, none⟩ = false := blk_frozen (HG6.out) 2
  have x0 : W6.cell? ⟨g3, 0, none⟩ = some (.int .i64 x.f0) := blk_cell (HX6.out) 0
  have x1 : W6.cell? ⟨g3, 1, none⟩ = some (.int .i64 x.f1) := blk_cell (HX6.out) 1
  have x2 : W6.cell? ⟨g3, 2, none⟩ = some (.int .i64 x.f2) := blk_cell (HX6.out) 2
  have x3 : W6.cell? ⟨g3, 3, none⟩ = some (.int .i64 x.f3) := blk_cell (HX6.out) 3
  have x4 : W6.cell? ⟨g3, 4, none⟩ = some (.int .i64 x.f4) := blk_cell (HX6.out) 4
  have x5 : W6.cell? ⟨g3, 5, none⟩ = some (.int .i64 x.f5) := blk_cell (HX6.out) 5
  have x6 : W6.cell? ⟨g3, 6, none⟩ = some (.int .i64 x.f6) := blk_cell (HX6.out) 6
  have x7 : W6.cell? ⟨g3, 7, none⟩ = some (.int .i64 x.f7) := blk_cell (HX6.out) 7

  clear q0 q1 q2 f0 f1 f2 x0 x1 x2 x3 x4 x5 x6 x7
  have c37 := HT6.out.1.c37
  have f37 := HT6.out.1.fr 37
  obtain ⟨pl5, hpl5⟩ : ∃ q, q = (s).pl := ⟨_, rfl⟩
  rw [← hpl5] at c37
  have HPL5 := Aside0.mk hpl5
  clear hpl5
  have q0 : W6.cell? ⟨g, 0, none⟩ = some (.int .i64 0) := blk_cell (HG6.out) 0
  have f0 : W6.frozen? ⟨g, 0, none⟩ = false := blk_frozen (HG6.out) 0
  have q1 : W6.cell? ⟨g, 1, none⟩ = some (.int .i64 0) := blk_cell (HG6.out) 1
  have f1 : W6.frozen? ⟨g, 1, none⟩ = false := blk_frozen (HG6.out) 1
  have q2 : W6.cell? ⟨g, 2, none⟩ = some (.int .i64 0) := blk_cell (HG6.out) 2
  have f2 : W6.frozen? ⟨g, 2, none⟩ = false := blk_frozen (HG6.out) 2
  have x0 : W6.cell? ⟨g3, 0, none⟩ = some (.int .i64 x.f0) := blk_cell (HX6.out) 0
  have x1 : W6.cell? ⟨g3, 1, none⟩ = some (.int .i64 x.f1) := blk_cell (HX6.out) 1
  have x2 : W6.cell? ⟨g3, 2, none⟩ = some (.int .i64 x.f2) := blk_cell (HX6.out) 2
  have x3 : W6.cell? ⟨g3, 3, none⟩ = some (.int .i64 x.f3) := blk_cell (HX6.out) 3
  have x4 : W6.cell? ⟨g3, 4, none⟩ = some (.int .i64 x.f4) := blk_cell (HX6.out) 4
  have x5 : W6.cell? ⟨g3, 5, none⟩ = some (.int .i64 x.f5) := blk_cell (HX6.out) 5
  have x6 : W6.cell? ⟨g3, 6, none⟩ = some (.int .i64 x.f6) := blk_cell (HX6.out) 6
  have x7 : W6.cell? ⟨g3, 7, none⟩ = some (.int .i64 x.f7) := blk_cell (HX6.out) 7
  go_wp2_with fail
  have hgp : g ≠ p := by have h1 := H0.out.lt; have h2 := HG.out; omega
  refine bodyPost_ret (results_cell_row rfl _ _ g 53 #[.int .i64 0, .int .i64 0, .int .i64 1] (0, 0) _ rfl (blk_three (blk_far (HG6.out) (p := ⟨p, 37, none⟩) hgp _) _ _ _) Try.underlying53 rfl (by kernel_rfl)) rfl ?_
  rw [show recC s x = s by unfold recC; rw [HRE.out, if_neg (by simp)]]
  rw [show nextC (s) = { s with pl := wrap64 (pl5 + 1) } by unfold nextC; rw [← HPL5.out]]
  exact ⟨rfl, (((HT6.out.trans ⟨HT6.out.1.setpl _, setCell_kept _ p bm 37 p (.inl rfl) _, (Below.refl _ _).setCell (p := ⟨p, 37, none⟩) H0.out.lp _⟩).far HE.out H0.out.le (Nat.le_of_eq HG.out) 0 _).far HE.out H0.out.le (Nat.le_of_eq HG.out) 1 _).far HE.out H0.out.le (Nat.le_of_eq HG.out) 2 _⟩
set_option maxRecDepth 100000 in
set_option maxHeartbeats 2000000 in
theorem step_svc (h : COK w 69 B E p A c bm s) (hE : E ≤ w.heap.size) (hs : SOK s) (x : Ins) (hx : insC s = x) (he : ¬ s.pl = (s.ws.length : Int)) (h0 : ¬ x.f0 = 0) (o : okI x) (hgo : (goalC s x).2 = false) (hn1 : x.f0 < 23 ∨ 28 < x.f0) (h19 : ¬ x.f0 = 19) (h20 : ¬ x.f0 = 20) (hdi : isDif x = false) (h29 : x.f0 = 29) (hre : (reckC s x).2 = false) :
    Calls Try.prog 24 #[.pointer (some ⟨p, 0, none⟩)] w fun e w' => e = .returned (.agg #[.int .i64 2, .int .i64 x.f5, .int .i64 1]) ∧ CTo w 69 B E p A c bm (nextC (recC s x)) w' := by
  have hu := Try.underlying53
  have hux := Try.underlying61
  have hB0 := below_alloc (Below.refl w.heap.size w) (.cells #[.int .i64 0, .int .i64 0, .int .i64 0] 53)
  have hblk := blk_new w (.cells #[.int .i64 0, .int .i64 0, .int .i64 0] 53)
  have hO := h.below hB0
  obtain ⟨W, hW⟩ : ∃ W, w.alloc (.cells #[.int .i64 0, .int .i64 0, .int .i64 0] 53) = W := ⟨_, rfl⟩
  obtain ⟨g, hg⟩ : ∃ g, w.heap.size = g := ⟨_, rfl⟩
  have hgW : W.heap.size = g + 1 := by rw [← hW, ← hg, World.size_alloc]
  rw [hW] at hB0 hblk hO
  rw [hg] at hblk
  have q0 : W.cell? ⟨g, 0, none⟩ = some (.int .i64 0) := blk_cell hblk 0
  have q1 : W.cell? ⟨g, 1, none⟩ = some (.int .i64 0) := blk_cell hblk 1
  have q2 : W.cell? ⟨g, 2, none⟩ = some (.int .i64 0) := blk_cell hblk 2
  have f0 : W.frozen? ⟨g, 0, none⟩ = false := blk_frozen hblk 0
  have f1 : W.frozen? ⟨g, 1, none⟩ = false := blk_frozen hblk 1
  have f2 : W.frozen? ⟨g, 2, none⟩ = false := blk_frozen hblk 2
  have HO := Aside0.mk hO
  have HB0 := Aside0.mk hB0
  have HBK := Aside0.mk hblk
  have HW := Aside0.mk hW
  have HG := Aside0.mk hg
  have HGW := Aside0.mk hgW
  have H0 := Aside0.mk h
  have HE := Aside0.mk hE
  have c0 := HO.out.c0
  have c37 := HO.out.c37
  clear h hO hB0 hblk hW hg hgW hE
  have hkk := hs.p0
  have hk2 := hs.p1
  obtain ⟨k, hk⟩ : ∃ k : Nat, s.pl = (k : Int) := ⟨s.pl.toNat, by omega⟩
  rw [hk] at c37 hk2 he
  have hkl : k < s.ws.length := by omega
  have hki : (k : Int) < (s.ws.length : Int) := by omega
  have hk0 : 0 ≤ (k : Int) := by omega
  have e1 : ((k : Int) == (s.ws.length : Int)) = false := by simpa using he
  have HK := Aside0.mk hk
  obtain ⟨ad, hA, x0, x1, x2, x3, x4, x5, x6, x7⟩ := at_T61 (Kd.R_reads' HO.out.own).2.2 (k : Int) (by omega) (by omega)
  subst hA
  have hrx : rd_T61 s.ws (k : Int) = x := by rw [← hx]; unfold insC; rw [hk]
  rw [Int.toNat_natCast, hrx] at x0 x1 x2 x3 x4 x5 x6 x7
  have HS := Aside0.mk hs
  clear hkk hk2 hk hs hrx he
  have n0 : (x.f0 == 0) = false := by simpa using h0
  have n19 : (x.f0 == 19) = false := by simpa using h19
  have n20 : (x.f0 == 20) = false := by simpa using h20
  have n29 : (x.f0 == 29) = true := by simp; omega
  have n30 : (x.f0 == 30) = false := by simp; omega
  have HGO := Aside0.mk hgo
  have HDI := Aside0.mk hdi
  have HOK := Aside0.mk o
  have HN := Aside0.mk (And.intro h0 (And.intro hn1 (And.intro h19 h20)))
  have HRE := Aside0.mk hre
  have H29 := Aside0.mk h29
  clear h29
  clear h0 hgo hdi o hn1 h19 h20 hre
  go_enter Try.func24, Try.ntmps24
  go_wp2_with fail
  rw [HW.out, HG.out]
  go_big_quiet (fail)
  have HO1 := Aside0.mk (HO.out.drewN nq)
  have HB1 := Aside0.mk (below_dN0 HB0.out nq)
  have HBK1 := Aside0.mk (blk_drewN HBK.out nq)
  have hz1 : (W.drewN nq).heap.size = g + 1 := HGW.out
  have y0 : (W.drewN nq).cell? _ = _ := x0
  have y1 : (W.drewN nq).cell? _ = _ := x1
  have y2 : (W.drewN nq).cell? _ = _ := x2
  have y3 : (W.drewN nq).cell? _ = _ := x3
  have y4 : (W.drewN nq).cell? _ = _ := x4
  have y5 : (W.drewN nq).cell? _ = _ := x5
  have y6 : (W.drewN nq).cell? _ = _ := x6
  have y7 : (W.drewN nq).cell? _ = _ := x7
  have d0 := HO1.out.c0
  have d37 := HO1.out.c37
  rw [HK.out] at d37
  clear q0 q1 q2 f0 f1 f2 c0 c37 x0 x1 x2 x3 x4 x5 x6 x7
  go_upto_region 3 with (fail)
  obtain ⟨W1, hW1⟩ : ∃ W1, W.drewN nq = W1 := ⟨_, rfl⟩
  rw [hW1] at HO1 HB1 HBK1 hz1 y0 y1 y2 y3 y4 y5 y6 y7 d0 d37 ⊢
  clear hW1
  have HZ1 := Aside0.mk hz1
  clear hz1
  have hp1 := HO1.out.lt
  have hp2 : p ≠ W1.heap.size := Nat.ne_of_lt hp1
  have ha1 := World.block_lt_of_cell? _ _ y0
  have ha2 : (ad.add (k * 8)).block ≠ W1.heap.size := Nat.ne_of_lt ha1
  go_region
  clear hp1 hp2 ha1 ha2
  go_upto_region 4 with (fail)
  have hb3 := below_drew (below_alloc (Below.refl W1.heap.size W1) (.cells #[.int .i64 x.f0, .int .i64 x.f1, .int .i64 x.f2, .int .i64 x.f3, .int .i64 x.f4, .int .i64 x.f5, .int .i64 x.f6, .int .i64 x.f7] 61))
  have hO3 := HO1.out.below hb3
  have hB3 := below_step HB1.out hb3
  have hg3 := blk_below HBK1.out hb3
  have hx3 := blk_drew (blk_new W1 (.cells #[.int .i64 x.f0, .int .i64 x.f1, .int .i64 x.f2, .int .i64 x.f3, .int .i64 x.f4, .int .i64 x.f5, .int .i64 x.f6, .int .i64 x.f7] 61))
  obtain ⟨W3, hW3⟩ : ∃ W3, (W1.alloc (.cells #[.int .i64 x.f0, .int .i64 x.f1, .int .i64 x.f2, .int .i64 x.f3, .int .i64 x.f4, .int .i64 x.f5, .int .i64 x.f6, .int .i64 x.f7] 61)).drew = W3 := ⟨_, rfl⟩
  obtain ⟨g3, hgg⟩ : ∃ g3, W1.heap.size = g3 := ⟨_, rfl⟩
  rw [hW3] at hb3 hO3 hB3 hg3 hx3 ⊢
  rw [hgg] at hx3 ⊢
  have HO3 := Aside0.mk hO3
  have HB3 := Aside0.mk hB3
  have HG3 := Aside0.mk hg3
  have HX3 := Aside0.mk hx3
  have HGE := Aside0.mk (show w.heap.size ≤ g3 by have h1 := HZ1.out; have h2 := HG.out; omega)
  have q0 : W3.cell? ⟨g, 0, none⟩ = some (.int .i64 0) := blk_cell hg3 0
  have q1 : W3.cell? ⟨g, 1, none⟩ = some (.int .i64 0) := blk_cell hg3 1
  have q2 : W3.cell? ⟨g, 2, none⟩ = some (.int .i64 0) := blk_cell hg3 2
  have f0 : W3.frozen? ⟨g, 0, none⟩ = false := blk_frozen hg3 0
  have f1 : W3.frozen? ⟨g, 1, none⟩ = false := blk_frozen hg3 1
  have f2 : W3.frozen? ⟨g, 2, none⟩ = false := blk_frozen hg3 2
  have x0 : W3.cell? ⟨g3, 0, none⟩ = some (.int .i64 x.f0) := blk_cell hx3 0
  have x1 : W3.cell? ⟨g3, 1, none⟩ = some (.int .i64 x.f1) := blk_cell hx3 1
  have x2 : W3.cell? ⟨g3, 2, none⟩ = some (.int .i64 x.f2) := blk_cell hx3 2
  have x3 : W3.cell? ⟨g3, 3, none⟩ = some (.int .i64 x.f3) := blk_cell hx3 3
  have x4 : W3.cell? ⟨g3, 4, none⟩ = some (.int .i64 x.f4) := blk_cell hx3 4
  have x5 : W3.cell? ⟨g3, 5, none⟩ = some (.int .i64 x.f5) := blk_cell hx3 5
  have x6 : W3.cell? ⟨g3, 6, none⟩ = some (.int .i64 x.f6) := blk_cell hx3 6
  have x7 : W3.cell? ⟨g3, 7, none⟩ = some (.int .i64 x.f7) := blk_cell hx3 7
  clear hW3 hgg hb3 hO3 hB3 hg3 hx3 y0 y1 y2 y3 y4 y5 y6 y7 d0 d37
  go_wp2_with fail
  have hgr := goal_run HO3.out x HOK.out
  unfold insA at hgr
  obtain ⟨to_, hto⟩ : ∃ t, t = (goalC s x).1 := ⟨_, rfl⟩
  rw [HGO.out, ← hto] at hgr
  refine hgr.mono ?_
  rintro e W4 ⟨rfl, hb4⟩
  have hg4 := blk_below HG3.out hb4
  have hx4 := blk_below HX3.out hb4
  have HO4 := Aside0.mk (HO3.out.below hb4)
  have HB4 := Aside0.mk (below_step HB3.out hb4)
  have HG4 := Aside0.mk hg4
  have HX4 := Aside0.mk hx4
  clear hgr hto hb4 hg4 hx4
  clear q0 q1 q2 f0 f1 f2 x0 x1 x2 x3 x4 x5 x6 x7
  have q0 : W4.cell? ⟨g, 0, none⟩ = some (.int .i64 0) := blk_cell (HG4.out) 0
  have f0 : W4.frozen? ⟨g, 0, none⟩ = false := blk_frozen (HG4.out) 0
  have q1 : W4.cell? ⟨g, 1, none⟩ = some (.int .i64 0) := blk_cell (HG4.out) 1
  have f1 : W4.frozen? ⟨g, 1, none⟩ = false := blk_frozen (HG4.out) 1
  have q2 : W4.cell? ⟨g, 2, none⟩ = some (.int .i64 0) := blk_cell (HG4.out) 2
  have f2 : W4.frozen? ⟨g, 2, none⟩ = false := blk_frozen (HG4.out) 2
  have x0 : W4.cell? ⟨g3, 0, none⟩ = some (.int .i64 x.f0) := blk_cell (HX4.out) 0
  have x1 : W4.cell? ⟨g3, 1, none⟩ = some (.int .i64 x.f1) := blk_cell (HX4.out) 1
  have x2 : W4.cell? ⟨g3, 2, none⟩ = some (.int .i64 x.f2) := blk_cell (HX4.out) 2
  have x3 : W4.cell? ⟨g3, 3, none⟩ = some (.int .i64 x.f3) := blk_cell (HX4.out) 3
  have x4 : W4.cell? ⟨g3, 4, none⟩ = some (.int .i64 x.f4) := blk_cell (HX4.out) 4
  have x5 : W4.cell? ⟨g3, 5, none⟩ = some (.int .i64 x.f5) := blk_cell (HX4.out) 5
  have x6 : W4.cell? ⟨g3, 6, none⟩ = some (.int .i64 x.f6) := blk_cell (HX4.out) 6
  have x7 : W4.cell? ⟨g3, 7, none⟩ = some (.int .i64 x.f7) := blk_cell (HX4.out) 7
  go_wp2_with fail
  have hdr := differ_run HO4.out x HOK.out
  unfold insA at hdr
  rw [HDI.out] at hdr
  refine hdr.mono ?_
  rintro e W5 ⟨rfl, hT⟩
  have HG5 := Aside0.mk (blk_kept HG4.out hT.2.1 (fun h => h.elim (fun h => by have h1 := H0.out.lt; have h2 := HG.out; omega) (fun h => by have h1 := H0.out.ltm; have h2 := HG.out; omega)))
  have HX5 := Aside0.mk (blk_kept HX4.out hT.2.1 (fun h => h.elim (fun h => by have h1 := H0.out.lt; have h2 := HGE.out; omega) (fun h => by have h1 := H0.out.ltm; have h2 := HGE.out; omega)))
  have HT5 := Aside0.mk (CTo.start HB4.out H0.out.le hT)
  clear hT hdr
  clear q0 q1 q2 f0 f1 f2 x0 x1 x2 x3 x4 x5 x6 x7
  have q0 : W5.cell? ⟨g, 0, none⟩ = some (.int .i64 0) := blk_cell (HG5.out) 0
  have f0 : W5.frozen? ⟨g, 0, none⟩ = false := blk_frozen (HG5.out) 0
  have q1 : W5.cell? ⟨g, 1, none⟩ = some (.int .i64 0) := blk_cell (HG5.out) 1
  have f1 : W5.frozen? ⟨g, 1, none⟩ = false := blk_frozen (HG5.out) 1
  have q2 : W5.cell? ⟨g, 2, none⟩ = some (.int .i64 0) := blk_cell (HG5.out) 2
  have f2 : W5.frozen? ⟨g, 2, none⟩ = false := blk_frozen (HG5.out) 2
  have x0 : W5.cell? ⟨g3, 0, none⟩ = some (.int .i64 x.f0) := blk_cell (HX5.out) 0
  have x1 : W5.cell? ⟨g3, 1, none⟩ = some (.int .i64 x.f1) := blk_cell (HX5.out) 1
  have x2 : W5.cell? ⟨g3, 2, none⟩ = some (.int .i64 x.f2) := blk_cell (HX5.out) 2
  have x3 : W5.cell? ⟨g3, 3, none⟩ = some (.int .i64 x.f3) := blk_cell (HX5.out) 3
  have x4 : W5.cell? ⟨g3, 4, none⟩ = some (.int .i64 x.f4) := blk_cell (HX5.out) 4
  have x5 : W5.cell? ⟨g3, 5, none⟩ = some (.int .i64 x.f5) := blk_cell (HX5.out) 5
  have x6 : W5.cell? ⟨g3, 6, none⟩ = some (.int .i64 x.f6) := blk_cell (HX5.out) 6
  have x7 : W5.cell? ⟨g3, 7, none⟩ = some (.int .i64 x.f7) := blk_cell (HX5.out) 7
  have hds : difC s x = s := by
    have h := HDI.out
    unfold isDif at h
    rw [Bool.and_eq_false_iff, decide_eq_false_iff_not, decide_eq_false_iff_not] at h
    unfold difC
    rw [if_neg (by omega), if_neg (by omega), if_neg (by omega), if_neg (by omega)]
  rw [hds] at HT5
  clear hds
  go_wp2_with fail
  have hrr := reckon_run HT5.out.1 x HOK.out HN.out.1 HN.out.2.1 HN.out.2.2.1 HN.out.2.2.2 HDI.out
  unfold insA at hrr
  obtain ⟨v, hv⟩ : ∃ v, v = (reckC s x).1 := ⟨_, rfl⟩
  rw [HRE.out, ← hv] at hrr
  have HV := Aside0.mk hv
  refine hrr.mono ?_
  rintro e W6 ⟨rfl, hb6⟩
  have HT6 := Aside0.mk (HT5.out.below (Nat.le_trans H0.out.le (keep_le HT5.out)) hb6)
  have HG6 := Aside0.mk (blk_below HG5.out hb6)
  have HX6 := Aside0.mk (blk_below HX5.out hb6)
  clear hrr hv hb6
  clear q0 q1 q2 f0 f1 f2 x0 x1 x2 x3 x4 x5 x6 x7
  have q0 : W6.cell? ⟨g, 0, none⟩ = some (.int .i64 0) := blk_cell (HG6.out) 0
  have f0 : W6.frozen? ⟨g, 0, none⟩ = false := blk_frozen (HG6.out) 0
  have q1 : W6.cell? ⟨g, 1, none⟩ = some (.int .i64 0) := blk_cell (HG6.out) 1
  have f1 : W6.frozen? ⟨g, 1, none⟩ = false := blk_frozen (HG6.out) 1
  have q2 : W6.cell? ⟨g, 2, none⟩ = some (.int .i64 0) := blk_cell (HG6.out) 2
  have f2 : W6.frozen? ⟨g, 2, none⟩ = false := blk_frozen (HG6.out) 2
  have x0 : W6.cell? ⟨g3, 0, none⟩ = some (.int .i64 x.f0) := blk_cell (HX6.out) 0
  have x1 : W6.cell? ⟨g3, 1, none⟩ = some (.int .i64 x.f1) := blk_cell (HX6.out) 1
  have x2 : W6.cell? ⟨g3, 2, none⟩ = some (.int .i64 x.f2) := blk_cell (HX6.out) 2
  have x3 : W6.cell? ⟨g3, 3, none⟩ = some (.int .i64 x.f3) := blk_cell (HX6.out) 3
  have x4 : W6.cell? ⟨g3, 4, none⟩ = some (.int .i64 x.f4) := blk_cell (HX6.out) 4
  have x5 : W6.cell? ⟨g3, 5, none⟩ = some (.int .i64 x.f5) := blk_cell (HX6.out) 5
  have x6 : W6.cell? ⟨g3, 6, none⟩ = some (.int .i64 x.f6) := blk_cell (HX6.out) 6
  have x7 : W6.cell? ⟨g3, 7, none⟩ = some (.int .i64 x.f7) := blk_cell (HX6.out) 7

  clear q0 q1 q2 f0 f1 f2 x0 x1 x2 x3 x4 x5 x6 x7
  have c37 := HT6.out.1.c37
  have f37 := HT6.out.1.fr 37
  obtain ⟨pl5, hpl5⟩ : ∃ q, q = (s).pl := ⟨_, rfl⟩
  rw [← hpl5] at c37
  have HPL5 := Aside0.mk hpl5
  clear hpl5
  have q0 : W6.cell? ⟨g, 0, none⟩ = some (.int .i64 0) := blk_cell (HG6.out) 0
  have f0 : W6.frozen? ⟨g, 0, none⟩ = false := blk_frozen (HG6.out) 0
  have q1 : W6.cell? ⟨g, 1, none⟩ = some (.int .i64 0) := blk_cell (HG6.out) 1
  have f1 : W6.frozen? ⟨g, 1, none⟩ = false := blk_frozen (HG6.out) 1
  have q2 : W6.cell? ⟨g, 2, none⟩ = some (.int .i64 0) := blk_cell (HG6.out) 2
  have f2 : W6.frozen? ⟨g, 2, none⟩ = false := blk_frozen (HG6.out) 2
  have x0 : W6.cell? ⟨g3, 0, none⟩ = some (.int .i64 x.f0) := blk_cell (HX6.out) 0
  have x1 : W6.cell? ⟨g3, 1, none⟩ = some (.int .i64 x.f1) := blk_cell (HX6.out) 1
  have x2 : W6.cell? ⟨g3, 2, none⟩ = some (.int .i64 x.f2) := blk_cell (HX6.out) 2
  have x3 : W6.cell? ⟨g3, 3, none⟩ = some (.int .i64 x.f3) := blk_cell (HX6.out) 3
  have x4 : W6.cell? ⟨g3, 4, none⟩ = some (.int .i64 x.f4) := blk_cell (HX6.out) 4
  have x5 : W6.cell? ⟨g3, 5, none⟩ = some (.int .i64 x.f5) := blk_cell (HX6.out) 5
  have x6 : W6.cell? ⟨g3, 6, none⟩ = some (.int .i64 x.f6) := blk_cell (HX6.out) 6
  have x7 : W6.cell? ⟨g3, 7, none⟩ = some (.int .i64 x.f7) := blk_cell (HX6.out) 7
  go_wp2_with fail
  have hgp : g ≠ p := by have h1 := H0.out.lt; have h2 := HG.out; omega
  refine bodyPost_ret (results_cell_row rfl _ _ g 53 #[.int .i64 2, .int .i64 x.f5, .int .i64 1] (0, 0) _ rfl (blk_three (blk_far (HG6.out) (p := ⟨p, 37, none⟩) hgp _) _ _ _) Try.underlying53 rfl (by kernel_rfl)) rfl ?_
  rw [show recC s x = s by unfold recC; rw [HRE.out, if_neg (by simp)]]
  rw [show nextC (s) = { s with pl := wrap64 (pl5 + 1) } by unfold nextC; rw [← HPL5.out]]
  exact ⟨rfl, (((HT6.out.trans ⟨HT6.out.1.setpl _, setCell_kept _ p bm 37 p (.inl rfl) _, (Below.refl _ _).setCell (p := ⟨p, 37, none⟩) H0.out.lp _⟩).far HE.out H0.out.le (Nat.le_of_eq HG.out) 0 _).far HE.out H0.out.le (Nat.le_of_eq HG.out) 1 _).far HE.out H0.out.le (Nat.le_of_eq HG.out) 2 _⟩
set_option maxRecDepth 100000 in
set_option maxHeartbeats 2000000 in
theorem step_brk (h : COK w 69 B E p A c bm s) (hE : E ≤ w.heap.size) (hs : SOK s) (x : Ins) (hx : insC s = x) (he : ¬ s.pl = (s.ws.length : Int)) (h0 : ¬ x.f0 = 0) (o : okI x) (hgo : (goalC s x).2 = false) (hn1 : x.f0 < 23 ∨ 28 < x.f0) (h19 : ¬ x.f0 = 19) (h20 : ¬ x.f0 = 20) (hdi : isDif x = false) (h30 : x.f0 = 30) (hre : (reckC s x).2 = false) :
    Calls Try.prog 24 #[.pointer (some ⟨p, 0, none⟩)] w fun e w' => e = .returned (.agg #[.int .i64 3, .int .i64 x.f5, .int .i64 1]) ∧ CTo w 69 B E p A c bm (nextC (recC s x)) w' := by
  have hu := Try.underlying53
  have hux := Try.underlying61
  have hB0 := below_alloc (Below.refl w.heap.size w) (.cells #[.int .i64 0, .int .i64 0, .int .i64 0] 53)
  have hblk := blk_new w (.cells #[.int .i64 0, .int .i64 0, .int .i64 0] 53)
  have hO := h.below hB0
  obtain ⟨W, hW⟩ : ∃ W, w.alloc (.cells #[.int .i64 0, .int .i64 0, .int .i64 0] 53) = W := ⟨_, rfl⟩
  obtain ⟨g, hg⟩ : ∃ g, w.heap.size = g := ⟨_, rfl⟩
  have hgW : W.heap.size = g + 1 := by rw [← hW, ← hg, World.size_alloc]
  rw [hW] at hB0 hblk hO
  rw [hg] at hblk
  have q0 : W.cell? ⟨g, 0, none⟩ = some (.int .i64 0) := blk_cell hblk 0
  have q1 : W.cell? ⟨g, 1, none⟩ = some (.int .i64 0) := blk_cell hblk 1
  have q2 : W.cell? ⟨g, 2, none⟩ = some (.int .i64 0) := blk_cell hblk 2
  have f0 : W.frozen? ⟨g, 0, none⟩ = false := blk_frozen hblk 0
  have f1 : W.frozen? ⟨g, 1, none⟩ = false := blk_frozen hblk 1
  have f2 : W.frozen? ⟨g, 2, none⟩ = false := blk_frozen hblk 2
  have HO := Aside0.mk hO
  have HB0 := Aside0.mk hB0
  have HBK := Aside0.mk hblk
  have HW := Aside0.mk hW
  have HG := Aside0.mk hg
  have HGW := Aside0.mk hgW
  have H0 := Aside0.mk h
  have HE := Aside0.mk hE
  have c0 := HO.out.c0
  have c37 := HO.out.c37
  clear h hO hB0 hblk hW hg hgW hE
  have hkk := hs.p0
  have hk2 := hs.p1
  obtain ⟨k, hk⟩ : ∃ k : Nat, s.pl = (k : Int) := ⟨s.pl.toNat, by omega⟩
  rw [hk] at c37 hk2 he
  have hkl : k < s.ws.length := by omega
  have hki : (k : Int) < (s.ws.length : Int) := by omega
  have hk0 : 0 ≤ (k : Int) := by omega
  have e1 : ((k : Int) == (s.ws.length : Int)) = false := by simpa using he
  have HK := Aside0.mk hk
  obtain ⟨ad, hA, x0, x1, x2, x3, x4, x5, x6, x7⟩ := at_T61 (Kd.R_reads' HO.out.own).2.2 (k : Int) (by omega) (by omega)
  subst hA
  have hrx : rd_T61 s.ws (k : Int) = x := by rw [← hx]; unfold insC; rw [hk]
  rw [Int.toNat_natCast, hrx] at x0 x1 x2 x3 x4 x5 x6 x7
  have HS := Aside0.mk hs
  clear hkk hk2 hk hs hrx he
  have n0 : (x.f0 == 0) = false := by simpa using h0
  have n19 : (x.f0 == 19) = false := by simpa using h19
  have n20 : (x.f0 == 20) = false := by simpa using h20
  have n29 : (x.f0 == 29) = false := by simp; omega
  have n30 : (x.f0 == 30) = true := by simp; omega
  have HGO := Aside0.mk hgo
  have HDI := Aside0.mk hdi
  have HOK := Aside0.mk o
  have HN := Aside0.mk (And.intro h0 (And.intro hn1 (And.intro h19 h20)))
  have HRE := Aside0.mk hre
  have H30 := Aside0.mk h30
  clear h30
  clear h0 hgo hdi o hn1 h19 h20 hre
  go_enter Try.func24, Try.ntmps24
  go_wp2_with fail
  rw [HW.out, HG.out]
  go_big_quiet (fail)
  have HO1 := Aside0.mk (HO.out.drewN nq)
  have HB1 := Aside0.mk (below_dN0 HB0.out nq)
  have HBK1 := Aside0.mk (blk_drewN HBK.out nq)
  have hz1 : (W.drewN nq).heap.size = g + 1 := HGW.out
  have y0 : (W.drewN nq).cell? _ = _ := x0
  have y1 : (W.drewN nq).cell? _ = _ := x1
  have y2 : (W.drewN nq).cell? _ = _ := x2
  have y3 : (W.drewN nq).cell? _ = _ := x3
  have y4 : (W.drewN nq).cell? _ = _ := x4
  have y5 : (W.drewN nq).cell? _ = _ := x5
  have y6 : (W.drewN nq).cell? _ = _ := x6
  have y7 : (W.drewN nq).cell? _ = _ := x7
  have d0 := HO1.out.c0
  have d37 := HO1.out.c37
  rw [HK.out] at d37
  clear q0 q1 q2 f0 f1 f2 c0 c37 x0 x1 x2 x3 x4 x5 x6 x7
  go_upto_region 3 with (fail)
  obtain ⟨W1, hW1⟩ : ∃ W1, W.drewN nq = W1 := ⟨_, rfl⟩
  rw [hW1] at HO1 HB1 HBK1 hz1 y0 y1 y2 y3 y4 y5 y6 y7 d0 d37 ⊢
  clear hW1
  have HZ1 := Aside0.mk hz1
  clear hz1
  have hp1 := HO1.out.lt
  have hp2 : p ≠ W1.heap.size := Nat.ne_of_lt hp1
  have ha1 := World.block_lt_of_cell? _ _ y0
  have ha2 : (ad.add (k * 8)).block ≠ W1.heap.size := Nat.ne_of_lt ha1
  go_region
  clear hp1 hp2 ha1 ha2
  go_upto_region 4 with (fail)
  have hb3 := below_drew (below_alloc (Below.refl W1.heap.size W1) (.cells #[.int .i64 x.f0, .int .i64 x.f1, .int .i64 x.f2, .int .i64 x.f3, .int .i64 x.f4, .int .i64 x.f5, .int .i64 x.f6, .int .i64 x.f7] 61))
  have hO3 := HO1.out.below hb3
  have hB3 := below_step HB1.out hb3
  have hg3 := blk_below HBK1.out hb3
  have hx3 := blk_drew (blk_new W1 (.cells #[.int .i64 x.f0, .int .i64 x.f1, .int .i64 x.f2, .int .i64 x.f3, .int .i64 x.f4, .int .i64 x.f5, .int .i64 x.f6, .int .i64 x.f7] 61))
  obtain ⟨W3, hW3⟩ : ∃ W3, (W1.alloc (.cells #[.int .i64 x.f0, .int .i64 x.f1, .int .i64 x.f2, .int .i64 x.f3, .int .i64 x.f4, .int .i64 x.f5, .int .i64 x.f6, .int .i64 x.f7] 61)).drew = W3 := ⟨_, rfl⟩
  obtain ⟨g3, hgg⟩ : ∃ g3, W1.heap.size = g3 := ⟨_, rfl⟩
  rw [hW3] at hb3 hO3 hB3 hg3 hx3 ⊢
  rw [hgg] at hx3 ⊢
  have HO3 := Aside0.mk hO3
  have HB3 := Aside0.mk hB3
  have HG3 := Aside0.mk hg3
  have HX3 := Aside0.mk hx3
  have HGE := Aside0.mk (show w.heap.size ≤ g3 by have h1 := HZ1.out; have h2 := HG.out; omega)
  have q0 : W3.cell? ⟨g, 0, none⟩ = some (.int .i64 0) := blk_cell hg3 0
  have q1 : W3.cell? ⟨g, 1, none⟩ = some (.int .i64 0) := blk_cell hg3 1
  have q2 : W3.cell? ⟨g, 2, none⟩ = some (.int .i64 0) := blk_cell hg3 2
  have f0 : W3.frozen? ⟨g, 0, none⟩ = false := blk_frozen hg3 0
  have f1 : W3.frozen? ⟨g, 1, none⟩ = false := blk_frozen hg3 1
  have f2 : W3.frozen? ⟨g, 2, none⟩ = false := blk_frozen hg3 2
  have x0 : W3.cell? ⟨g3, 0, none⟩ = some (.int .i64 x.f0) := blk_cell hx3 0
  have x1 : W3.cell? ⟨g3, 1, none⟩ = some (.int .i64 x.f1) := blk_cell hx3 1
  have x2 : W3.cell? ⟨g3, 2, none⟩ = some (.int .i64 x.f2) := blk_cell hx3 2
  have x3 : W3.cell? ⟨g3, 3, none⟩ = some (.int .i64 x.f3) := blk_cell hx3 3
  have x4 : W3.cell? ⟨g3, 4, none⟩ = some (.int .i64 x.f4) := blk_cell hx3 4
  have x5 : W3.cell? ⟨g3, 5, none⟩ = some (.int .i64 x.f5) := blk_cell hx3 5
  have x6 : W3.cell? ⟨g3, 6, none⟩ = some (.int .i64 x.f6) := blk_cell hx3 6
  have x7 : W3.cell? ⟨g3, 7, none⟩ = some (.int .i64 x.f7) := blk_cell hx3 7
  clear hW3 hgg hb3 hO3 hB3 hg3 hx3 y0 y1 y2 y3 y4 y5 y6 y7 d0 d37
  go_wp2_with fail
  have hgr := goal_run HO3.out x HOK.out
  unfold insA at hgr
  obtain ⟨to_, hto⟩ : ∃ t, t = (goalC s x).1 := ⟨_, rfl⟩
  rw [HGO.out, ← hto] at hgr
  refine hgr.mono ?_
  rintro e W4 ⟨rfl, hb4⟩
  have hg4 := blk_below HG3.out hb4
  have hx4 := blk_below HX3.out hb4
  have HO4 := Aside0.mk (HO3.out.below hb4)
  have HB4 := Aside0.mk (below_step HB3.out hb4)
  have HG4 := Aside0.mk hg4
  have HX4 := Aside0.mk hx4
  clear hgr hto hb4 hg4 hx4
  clear q0 q1 q2 f0 f1 f2 x0 x1 x2 x3 x4 x5 x6 x7
  have q0 : W4.cell? ⟨g, 0, none⟩ = some (.int .i64 0) := blk_cell (HG4.out) 0
  have f0 : W4.frozen? ⟨g, 0, none⟩ = false := blk_frozen (HG4.out) 0
  have q1 : W4.cell? ⟨g, 1, none⟩ = some (.int .i64 0) := blk_cell (HG4.out) 1
  have f1 : W4.frozen? ⟨g, 1, none⟩ = false := blk_frozen (HG4.out) 1
  have q2 : W4.cell? ⟨g, 2, none⟩ = some (.int .i64 0) := blk_cell (HG4.out) 2
  have f2 : W4.frozen? ⟨g, 2, none⟩ = false := blk_frozen (HG4.out) 2
  have x0 : W4.cell? ⟨g3, 0, none⟩ = some (.int .i64 x.f0) := blk_cell (HX4.out) 0
  have x1 : W4.cell? ⟨g3, 1, none⟩ = some (.int .i64 x.f1) := blk_cell (HX4.out) 1
  have x2 : W4.cell? ⟨g3, 2, none⟩ = some (.int .i64 x.f2) := blk_cell (HX4.out) 2
  have x3 : W4.cell? ⟨g3, 3, none⟩ = some (.int .i64 x.f3) := blk_cell (HX4.out) 3
  have x4 : W4.cell? ⟨g3, 4, none⟩ = some (.int .i64 x.f4) := blk_cell (HX4.out) 4
  have x5 : W4.cell? ⟨g3, 5, none⟩ = some (.int .i64 x.f5) := blk_cell (HX4.out) 5
  have x6 : W4.cell? ⟨g3, 6, none⟩ = some (.int .i64 x.f6) := blk_cell (HX4.out) 6
  have x7 : W4.cell? ⟨g3, 7, none⟩ = some (.int .i64 x.f7) := blk_cell (HX4.out) 7
  go_wp2_with fail
  have hdr := differ_run HO4.out x HOK.out
  unfold insA at hdr
  rw [HDI.out] at hdr
  refine hdr.mono ?_
  rintro e W5 ⟨rfl, hT⟩
  have HG5 := Aside0.mk (blk_kept HG4.out hT.2.1 (fun h => h.elim (fun h => by have h1 := H0.out.lt; have h2 := HG.out; omega) (fun h => by have h1 := H0.out.ltm; have h2 := HG.out; omega)))
  have HX5 := Aside0.mk (blk_kept HX4.out hT.2.1 (fun h => h.elim (fun h => by have h1 := H0.out.lt; have h2 := HGE.out; omega) (fun h => by have h1 := H0.out.ltm; have h2 := HGE.out; omega)))
  have HT5 := Aside0.mk (CTo.start HB4.out H0.out.le hT)
  clear hT hdr
  clear q0 q1 q2 f0 f1 f2 x0 x1 x2 x3 x4 x5 x6 x7
  have q0 : W5.cell? ⟨g, 0, none⟩ = some (.int .i64 0) := blk_cell (HG5.out) 0
  have f0 : W5.frozen? ⟨g, 0, none⟩ = false := blk_frozen (HG5.out) 0
  have q1 : W5.cell? ⟨g, 1, none⟩ = some (.int .i64 0) := blk_cell (HG5.out) 1
  have f1 : W5.frozen? ⟨g, 1, none⟩ = false := blk_frozen (HG5.out) 1
  have q2 : W5.cell? ⟨g, 2, none⟩ = some (.int .i64 0) := blk_cell (HG5.out) 2
  have f2 : W5.frozen? ⟨g, 2, none⟩ = false := blk_frozen (HG5.out) 2
  have x0 : W5.cell? ⟨g3, 0, none⟩ = some (.int .i64 x.f0) := blk_cell (HX5.out) 0
  have x1 : W5.cell? ⟨g3, 1, none⟩ = some (.int .i64 x.f1) := blk_cell (HX5.out) 1
  have x2 : W5.cell? ⟨g3, 2, none⟩ = some (.int .i64 x.f2) := blk_cell (HX5.out) 2
  have x3 : W5.cell? ⟨g3, 3, none⟩ = some (.int .i64 x.f3) := blk_cell (HX5.out) 3
  have x4 : W5.cell? ⟨g3, 4, none⟩ = some (.int .i64 x.f4) := blk_cell (HX5.out) 4
  have x5 : W5.cell? ⟨g3, 5, none⟩ = some (.int .i64 x.f5) := blk_cell (HX5.out) 5
  have x6 : W5.cell? ⟨g3, 6, none⟩ = some (.int .i64 x.f6) := blk_cell (HX5.out) 6
  have x7 : W5.cell? ⟨g3, 7, none⟩ = some (.int .i64 x.f7) := blk_cell (HX5.out) 7
  have hds : difC s x = s := by
    have h := HDI.out
    unfold isDif at h
    rw [Bool.and_eq_false_iff, decide_eq_false_iff_not, decide_eq_false_iff_not] at h
    unfold difC
    rw [if_neg (by omega), if_neg (by omega), if_neg (by omega), if_neg (by omega)]
  rw [hds] at HT5
  clear hds
  go_wp2_with fail
  have hrr := reckon_run HT5.out.1 x HOK.out HN.out.1 HN.out.2.1 HN.out.2.2.1 HN.out.2.2.2 HDI.out
  unfold insA at hrr
  obtain ⟨v, hv⟩ : ∃ v, v = (reckC s x).1 := ⟨_, rfl⟩
  rw [HRE.out, ← hv] at hrr
  have HV := Aside0.mk hv
  refine hrr.mono ?_
  rintro e W6 ⟨rfl, hb6⟩
  have HT6 := Aside0.mk (HT5.out.below (Nat.le_trans H0.out.le (keep_le HT5.out)) hb6)
  have HG6 := Aside0.mk (blk_below HG5.out hb6)
  have HX6 := Aside0.mk (blk_below HX5.out hb6)
  clear hrr hv hb6
  clear q0 q1 q2 f0 f1 f2 x0 x1 x2 x3 x4 x5 x6 x7
  have q0 : W6.cell? ⟨g, 0, none⟩ = some (.int .i64 0) := blk_cell (HG6.out) 0
  have f0 : W6.frozen? ⟨g, 0, none⟩ = false := blk_frozen (HG6.out) 0
  have q1 : W6.cell? ⟨g, 1, none⟩ = some (.int .i64 0) := blk_cell (HG6.out) 1
  have f1 : W6.frozen? ⟨g, 1, none⟩ = false := blk_frozen (HG6.out) 1
  have q2 : W6.cell? ⟨g, 2, none⟩ = some (.int .i64 0) := blk_cell (HG6.out) 2
  have f2 : W6.frozen? ⟨g, 2, none⟩ = false := blk_frozen (HG6.out) 2
  have x0 : W6.cell? ⟨g3, 0, none⟩ = some (.int .i64 x.f0) := blk_cell (HX6.out) 0
  have x1 : W6.cell? ⟨g3, 1, none⟩ = some (.int .i64 x.f1) := blk_cell (HX6.out) 1
  have x2 : W6.cell? ⟨g3, 2, none⟩ = some (.int .i64 x.f2) := blk_cell (HX6.out) 2
  have x3 : W6.cell? ⟨g3, 3, none⟩ = some (.int .i64 x.f3) := blk_cell (HX6.out) 3
  have x4 : W6.cell? ⟨g3, 4, none⟩ = some (.int .i64 x.f4) := blk_cell (HX6.out) 4
  have x5 : W6.cell? ⟨g3, 5, none⟩ = some (.int .i64 x.f5) := blk_cell (HX6.out) 5
  have x6 : W6.cell? ⟨g3, 6, none⟩ = some (.int .i64 x.f6) := blk_cell (HX6.out) 6
  have x7 : W6.cell? ⟨g3, 7, none⟩ = some (.int .i64 x.f7) := blk_cell (HX6.out) 7

  clear q0 q1 q2 f0 f1 f2 x0 x1 x2 x3 x4 x5 x6 x7
  have c37 := HT6.out.1.c37
  have f37 := HT6.out.1.fr 37
  obtain ⟨pl5, hpl5⟩ : ∃ q, q = (s).pl := ⟨_, rfl⟩
  rw [← hpl5] at c37
  have HPL5 := Aside0.mk hpl5
  clear hpl5
  have q0 : W6.cell? ⟨g, 0, none⟩ = some (.int .i64 0) := blk_cell (HG6.out) 0
  have f0 : W6.frozen? ⟨g, 0, none⟩ = false := blk_frozen (HG6.out) 0
  have q1 : W6.cell? ⟨g, 1, none⟩ = some (.int .i64 0) := blk_cell (HG6.out) 1
  have f1 : W6.frozen? ⟨g, 1, none⟩ = false := blk_frozen (HG6.out) 1
  have q2 : W6.cell? ⟨g, 2, none⟩ = some (.int .i64 0) := blk_cell (HG6.out) 2
  have f2 : W6.frozen? ⟨g, 2, none⟩ = false := blk_frozen (HG6.out) 2
  have x0 : W6.cell? ⟨g3, 0, none⟩ = some (.int .i64 x.f0) := blk_cell (HX6.out) 0
  have x1 : W6.cell? ⟨g3, 1, none⟩ = some (.int .i64 x.f1) := blk_cell (HX6.out) 1
  have x2 : W6.cell? ⟨g3, 2, none⟩ = some (.int .i64 x.f2) := blk_cell (HX6.out) 2
  have x3 : W6.cell? ⟨g3, 3, none⟩ = some (.int .i64 x.f3) := blk_cell (HX6.out) 3
  have x4 : W6.cell? ⟨g3, 4, none⟩ = some (.int .i64 x.f4) := blk_cell (HX6.out) 4
  have x5 : W6.cell? ⟨g3, 5, none⟩ = some (.int .i64 x.f5) := blk_cell (HX6.out) 5
  have x6 : W6.cell? ⟨g3, 6, none⟩ = some (.int .i64 x.f6) := blk_cell (HX6.out) 6
  have x7 : W6.cell? ⟨g3, 7, none⟩ = some (.int .i64 x.f7) := blk_cell (HX6.out) 7
  go_wp2_with fail
  have hgp : g ≠ p := by have h1 := H0.out.lt; have h2 := HG.out; omega
  refine bodyPost_ret (results_cell_row rfl _ _ g 53 #[.int .i64 3, .int .i64 x.f5, .int .i64 1] (0, 0) _ rfl (blk_three (blk_far (HG6.out) (p := ⟨p, 37, none⟩) hgp _) _ _ _) Try.underlying53 rfl (by kernel_rfl)) rfl ?_
  rw [show recC s x = s by unfold recC; rw [HRE.out, if_neg (by simp)]]
  rw [show nextC (s) = { s with pl := wrap64 (pl5 + 1) } by unfold nextC; rw [← HPL5.out]]
  exact ⟨rfl, (((HT6.out.trans ⟨HT6.out.1.setpl _, setCell_kept _ p bm 37 p (.inl rfl) _, (Below.refl _ _).setCell (p := ⟨p, 37, none⟩) H0.out.lp _⟩).far HE.out H0.out.le (Nat.le_of_eq HG.out) 0 _).far HE.out H0.out.le (Nat.le_of_eq HG.out) 1 _).far HE.out H0.out.le (Nat.le_of_eq HG.out) 2 _⟩
end
end Go.Proofs.Ytjhgbddcenhkfaa.P

set_option linter.unusedVariables false
set_option linter.unusedSimpArgs false
namespace Go.Proofs.Ytjhgbddcenhkfaa.P
open Go.RowKit Go.Proofs.YtjhgbddcenhkfaaW.PrintWords Go.Proofs.YtjhgbddcenhkfaaW.PrintLast Go.Proofs.YtjhgbddcenhkfaaW.PrintMore
section
variable {w W : World} {T : TypeId} {B E p : Nat} {A : Option Addr} {c bm : Nat} {s : CS}
theorem goalC_op {s : CS} {x : Ins} (h : ¬ (goalC s x).2 = true) : x.f0 < 23 ∨ 28 < x.f0 := by
  by_cases hb : 23 ≤ x.f0 ∧ x.f0 ≤ 28
  · refine absurd ?_ h
    unfold goalC
    have : x.f0 = 23 ∨ x.f0 = 24 ∨ x.f0 = 25 ∨ x.f0 = 26 ∨ x.f0 = 27 ∨ x.f0 = 28 := by omega
    rcases this with h | h | h | h | h | h <;> simp [h]
  · omega
theorem reckC_29 {s : CS} {x : Ins} (h : x.f0 = 29 ∨ x.f0 = 30) : (reckC s x).2 = false := by
  unfold reckC
  rcases h with h | h <;> simp [h]
theorem insC_mem {s : CS} (hs : SOK s) (he : ¬ s.pl = (s.ws.length : Int)) : insC s ∈ s.ws := by
  unfold insC rd_T61
  have h0 := hs.p0
  have h1 := hs.p1
  rw [List.getD_eq_getElem?_getD, List.getElem?_eq_getElem (by omega)]
  exact List.getElem_mem _
theorem step_run (h : COK w 69 B E p A c bm s) (hE : E ≤ w.heap.size) (hs : SOK s) :
    Calls Try.prog 24 #[.pointer (some ⟨p, 0, none⟩)] w fun e w' => e = .returned (.agg #[.int .i64 (stepC s).1.1, .int .i64 (stepC s).1.2.1, .int .i64 (stepC s).1.2.2]) ∧ CTo w 69 B E p A c bm (stepC s).2 w' := by
  unfold stepC
  by_cases he : s.pl = (s.ws.length : Int)
  · rw [if_pos he]; exact step_end h hE hs he
  rw [if_neg he]
  have hmem := insC_mem hs he
  obtain ⟨x, hx⟩ : ∃ x, insC s = x := ⟨_, rfl⟩
  rw [hx] at hmem ⊢
  by_cases h0 : x.f0 = 0
  · rw [if_pos h0]; exact step_word h hE hs x hx he h0
  rw [if_neg h0]
  have o : okI x := (hs.wok x hmem).resolve_left h0
  by_cases hg : (goalC s x).2 = true
  · rw [if_pos hg]
    by_cases hm : mayGo s (goalC s x).1 = true
    · rw [if_pos hm]
      by_cases h24 : x.f0 = 24
      · exact step_link h hE hs x hx he h0 o hg hm h24
      · exact step_goal h hE hs x hx he h0 o hg hm h24
    · rw [if_neg hm]
      exact step_goal_no h hE hs x hx he h0 o hg (by simpa using hm)
  rw [if_neg hg]
  have hop := goalC_op hg
  have hg' : (goalC s x).2 = false := by simpa using hg
  by_cases hme : x.f0 = 19 ∨ x.f0 = 20
  · rw [if_pos hme]
    by_cases hm : mayM s (memA s x) = true
    · rw [if_pos hm]
      rcases hme with h1 | h1
      · exact step_ldr h hE hs x hx he h1 o hg' hm
      · exact step_str h hE hs x hx he h1 o hg' hm
    · rw [if_neg hm]
      have hm' : mayM s (memA s x) = false := by simpa using hm
      rcases hme with h1 | h1
      · exact step_ldr_no h hE hs x hx he h1 o hg' hm'
      · exact step_str_no h hE hs x hx he h1 o hg' hm'
  rw [if_neg hme]
  have h19 : ¬ x.f0 = 19 := fun e => hme (.inl e)
  have h20 : ¬ x.f0 = 20 := fun e => hme (.inr e)
  by_cases hd : isDif x = true
  · rw [if_pos hd]; exact step_dif h hE hs x hx he o hg' hd
  rw [if_neg hd]
  have hd' : isDif x = false := by simpa using hd
  unfold kindC
  by_cases h29 : x.f0 = 29
  · rw [if_pos h29]; exact step_svc h hE hs x hx he h0 o hg' hop h19 h20 hd' h29 (reckC_29 (.inl h29))
  rw [if_neg h29]
  by_cases h30 : x.f0 = 30
  · rw [if_pos h30]; exact step_brk h hE hs x hx he h0 o hg' hop h19 h20 hd' h30 (reckC_29 (.inr h30))
  rw [if_neg h30]
  by_cases hre : (reckC s x).2 = true
  · exact step_rec h hE hs x hx he h0 o hg' hop h19 h20 hd' h29 h30 hre
  · exact step_still h hE hs x hx he h0 o hg' hop h19 h20 hd' h29 h30 (by simpa using hre)
theorem step_nil (w : World) : Calls Try.prog 24 #[.pointer none] w fun e w' => e = .returned (.agg #[.int .i64 1, .int .i64 0, .int .i64 0]) ∧ Below w.heap.size w w' := by
  have hu := Try.underlying53
  go_enter Try.func24, Try.ntmps24
  go_wp2_with fail
  go_big_quiet (fail)
  go_wp2_with fail
  refine bodyPost_ret (results_cell_row rfl _ _ w.heap.size 53 #[.int .i64 1, .int .i64 0, .int .i64 0] (0, 0) _ rfl ?_ Try.underlying53 rfl (by kernel_rfl)) rfl ?_
  · exact blk_three (blk_drewN (blk_new w _) nq) _ _ _
  · exact ⟨rfl, (((below_dN0 (below_alloc (Below.refl _ _) _) nq).setCell (p := ⟨w.heap.size, 0, none⟩) (Nat.le_refl _) _).setCell (p := ⟨w.heap.size, 1, none⟩) (Nat.le_refl _) _).setCell (p := ⟨w.heap.size, 2, none⟩) (Nat.le_refl _) _⟩
/-! ### What a step keeps -/
theorem lay_ok {m : List Int} (h : okB m) (j : Nat) (v : Int) : ∀ n, okB (lay m j v n)
  | 0 => h
  | n + 1 => by
    intro y hy
    rw [lay] at hy
    rcases List.mem_or_eq_of_mem_set hy with h1 | h1
    · exact lay_ok h j v n y h1
    · subst h1; omega
theorem SOK.putC (hs : SOK s) (i v : Int) : SOK (putC s i v) := by
  unfold P.putC
  split
  · exact hs
  · exact ⟨hs.p0, hs.p1, hs.wl, hs.wok, hs.mok⟩
theorem SOK.setX (hs : SOK s) (i v : Int) : SOK (setX s i v) := ⟨hs.p0, hs.p1, hs.wl, hs.wok, hs.mok⟩
theorem SOK.flagS (hs : SOK s) (f : Bool × Bool × Bool × Bool) : SOK (flagS s f) := ⟨hs.p0, hs.p1, hs.wl, hs.wok, hs.mok⟩
theorem SOK.goS (hs : SOK s) (i : Int) : SOK (goS s i) := by
  unfold P.goS
  by_cases h : mayGo s i = true
  · rw [if_pos h]
    unfold mayGo at h
    rw [Bool.and_eq_true, decide_eq_true_eq, decide_eq_true_eq] at h
    exact ⟨h.1, h.2, hs.wl, hs.wok, hs.mok⟩
  · rw [if_neg h]; exact hs
theorem SOK.wrM (hs : SOK s) (i v : Int) : SOK (wrM s i v) := by
  unfold P.wrM
  split
  · exact ⟨hs.p0, hs.p1, hs.wl, hs.wok, lay_ok hs.mok _ _ _⟩
  · exact hs
theorem SOK.memC (hs : SOK s) (x : Ins) : SOK (memC s x) := by
  unfold P.memC
  split
  · exact hs.wrM _ _
  · unfold ldS
    split
    · exact hs.putC _ _
    · exact hs
theorem SOK.difC (hs : SOK s) (x : Ins) : SOK (difC s x) := by
  unfold P.difC
  split
  · exact (hs.putC _ _).flagS _
  split
  · exact hs.setX _ _
  split
  · exact hs.setX _ _
  split
  · exact (hs.putC _ _).flagS _
  · exact hs
theorem SOK.next (hs : SOK s) (h : s.pl < (s.ws.length : Int)) : SOK (nextC s) := by
  have h0 := hs.p0
  have h2 := hs.wl
  have hw : wrap64 (s.pl + 1) = s.pl + 1 := by unfold wrap64; omega
  refine ⟨?_, ?_, hs.wl, hs.wok, hs.mok⟩
  · show 0 ≤ wrap64 (s.pl + 1)
    rw [hw]; omega
  · show wrap64 (s.pl + 1) ≤ _
    rw [hw]; exact h
theorem putC_pl (s : CS) (i v : Int) : (putC s i v).pl = s.pl ∧ (putC s i v).ws = s.ws := by
  unfold putC
  split <;> exact ⟨rfl, rfl⟩
theorem memC_pl (s : CS) (x : Ins) : (memC s x).pl = s.pl ∧ (memC s x).ws = s.ws := by
  unfold memC wrM ldS
  split
  · split <;> exact ⟨rfl, rfl⟩
  · split
    · exact putC_pl s _ _
    · exact ⟨rfl, rfl⟩
theorem difC_pl (s : CS) (x : Ins) : (difC s x).pl = s.pl ∧ (difC s x).ws = s.ws := by
  unfold difC
  split
  · exact putC_pl s _ _
  split
  · exact ⟨rfl, rfl⟩
  split
  · exact ⟨rfl, rfl⟩
  split
  · exact putC_pl s _ _
  · exact ⟨rfl, rfl⟩
theorem SOK.step (hs : SOK s) : SOK (stepC s).2 := by
  unfold stepC
  by_cases he : s.pl = (s.ws.length : Int)
  · rw [if_pos he]; exact hs
  rw [if_neg he]
  have hlt : s.pl < (s.ws.length : Int) := by have := hs.p1; omega
  split
  · exact hs
  split
  · split
    · unfold goneC
      split
      · exact (hs.goS _).setX _ _
      · exact hs.goS _
    · exact hs
  split
  · split
    · exact (hs.memC _).next (by rw [(memC_pl s _).1, (memC_pl s _).2]; exact hlt)
    · exact hs.memC _
  split
  · exact (hs.difC _).next (by rw [(difC_pl s _).1, (difC_pl s _).2]; exact hlt)
  · unfold recC
    split
    · exact (hs.putC _ _).next (by rw [(putC_pl s _ _).1, (putC_pl s _ _).2]; exact hlt)
    · exact hs.next hlt
/-! ### Some steps at most -/
/-- So many rounds yet, k done. -/
def runN : Nat → Nat → CS → (Int × Int × Int) × CS
  | 0, k, s => ((0, 0, (k : Int)), s)
  | n + 1, k, s => if (stepC s).1.1 = 0 then runN n (k + 1) (stepC s).2 else (((stepC s).1.1, (stepC s).1.2.1, (k : Int) + (stepC s).1.2.2), (stepC s).2)
/-- How many steps are done at most. -/
def capN (n : Int) : Nat := (min (max n 0) 16777216).toNat
def runC (n : Int) (s : CS) : (Int × Int × Int) × CS := runN (capN n) 0 s
theorem stepC_steps (s : CS) : ((stepC s).1.1 = 0 → (stepC s).1.2.2 = 1) ∧ 0 ≤ (stepC s).1.2.2 ∧ (stepC s).1.2.2 ≤ 1 := by
  unfold stepC kindC
  repeat' split
  all_goals simp
theorem run_nil (n : Int) (w : World) : Calls Try.prog 27 #[.pointer none, .int .i64 n] w fun e w' => e = .returned (.agg #[.int .i64 1, .int .i64 0, .int .i64 0]) ∧ Below w.heap.size w w' := by
  have hu := Try.underlying53
  go_enter Try.func27, Try.ntmps27
  go_wp2_with fail
  refine bodyPost_ret (results_cell_row rfl _ _ w.heap.size 53 #[.int .i64 1, .int .i64 0, .int .i64 0] (0, 0) _ rfl (blk_new w _) Try.underlying53 rfl (by kernel_rfl)) rfl ?_
  exact ⟨rfl, below_alloc (Below.refl _ _) _⟩
attribute [local go_sem] max2_int min2_int max_two min_two
set_option maxRecDepth 100000 in
set_option maxHeartbeats 2000000 in
theorem run_run (h : COK w 69 B E p A c bm s) (hE : E ≤ w.heap.size) (hs : SOK s) (n : Int) :
    Calls Try.prog 27 #[.pointer (some ⟨p, 0, none⟩), .int .i64 n] w fun e w' => e = .returned (.agg #[.int .i64 (runC n s).1.1, .int .i64 (runC n s).1.2.1, .int .i64 (runC n s).1.2.2]) ∧ CTo w 69 B E p A c bm (runC n s).2 w' := by
  have hu := Try.underlying53
  obtain ⟨mx, hmx⟩ : ∃ mx, (if n < 0 then (0 : Int) else n) = mx := ⟨_, rfl⟩
  have hN0 : (if (16777216 : Int) < mx then (16777216 : Int) else mx) = (capN n : Int) := by
    rw [← hmx]
    unfold capN
    split <;> split at * <;> omega
  have hNle : capN n ≤ 16777216 := by unfold capN; omega
  unfold runC
  obtain ⟨N, hN⟩ : ∃ N, N = capN n := ⟨_, rfl⟩
  rw [← hN] at hN0 hNle ⊢
  clear hN
  have H0 := Aside0.mk h
  have HE := Aside0.mk hE
  have HS := Aside0.mk hs
  have HB0 := Aside0.mk (below_alloc (Below.refl w.heap.size w) (.cells #[.int .i64 0, .int .i64 0, .int .i64 0] 53))
  have HBK := Aside0.mk (blk_new w (.cells #[.int .i64 0, .int .i64 0, .int .i64 0] 53))
  clear h hE hs
  go_enter Try.func27, Try.ntmps27
  go_wp2_with fail
  go_loopw [5] (fun v5 wr => ∃ (k : Nat) (s' : CS), v5 = .int .i64 k ∧ k ≤ N ∧ runN (N - k) k s' = runN N 0 s ∧ SOK s' ∧ CTo w 69 B E p A c bm s' wr ∧ wr.heap[w.heap.size]? = some (.cells #[.int .i64 0, .int .i64 0, .int .i64 0] 53 (0, 0)))
    (fun v5 _ => N - (intOf v5).toNat)
  case atStart => exact ⟨0, s, rfl, Nat.zero_le _, rfl, HS.out, CTo.start HB0.out H0.out.le (CTo.refl (H0.out.below HB0.out)), HBK.out⟩
  case round =>
    obtain ⟨k, s', rfl, hk, hrun, hs', hT, hbk⟩ := hrel
    by_cases hlt : k < N
    · obtain ⟨m, hm⟩ : ∃ m, N - k = m + 1 := ⟨N - k - 1, by omega⟩
      rw [hm, runN] at hrun
      have hstp := stepC_steps s'
      have hok' := SOK.step hs'
      have hst := step_run hT.1 (Nat.le_trans HE.out hT.2.1.1) hs'
      obtain ⟨⟨⟨a, b, d⟩, s2⟩, hR⟩ : ∃ R, R = stepC s' := ⟨_, rfl⟩
      rw [← hR] at hrun hstp hst hok'
      dsimp only at hrun hstp hst hok'
      have HRUN := Aside0.mk hrun
      have HOK := Aside0.mk hok'
      have HST := Aside0.mk hst
      have HT := Aside0.mk hT
      have HBK2 := Aside0.mk hbk
      have hd0 := hstp.2.1
      have hd1 := hstp.2.2
      have hgl := blk_lt hbk
      clear hrun hst hT hbk hs' hok' hR
      have wk : IntKind.i64.wrap ((k : Int) + d) = (k : Int) + d := by rw [IntKind.wrap_i64]; omega
      by_cases ha : a = 0
      · obtain rfl : d = 1 := hstp.1 ha
        subst ha
        go_wp2_with fail
        refine HST.out.mono ?_
        rintro e w2 ⟨rfl, hT2⟩
        have HT2 := Aside0.mk hT2
        clear hT2
        go_wp2_with fail
        go_roundw
        case rel =>
          have hr := HRUN.out
          refine ⟨k + 1, s2, by go_num, by omega, by rw [show N - (k + 1) = m by omega]; simpa using hr, HOK.out, (HT.out.trans HT2.out).below (by have := HT.out.2.1.1; have := HT2.out.2.1.1; have := H0.out.le; omega) (below_alloc (Below.refl _ _) _), ?_⟩
          exact blk_alloc (blk_kept HBK2.out HT2.out.2.1 (fun h => h.elim (fun h => by have h1 := H0.out.lt; omega) (fun h => by have h1 := H0.out.ltm; omega))) _
        case measure => simp only [intOf]; omega
      · have na : (a != 0) = true := by simpa using ha
        have HA := Aside0.mk ha
        have hgb := blk_lt HBK2.out
        clear ha hstp
        go_wp2_with fail
        refine HST.out.mono ?_
        rintro e w2 ⟨rfl, hT2⟩
        have hb2 := blk_kept HBK2.out hT2.2.1 (fun h => h.elim (fun h => by have h1 := H0.out.lt; omega) (fun h => by have h1 := H0.out.ltm; omega))
        have HT2 := Aside0.mk hT2
        have HB2 := Aside0.mk hb2
        have hlt2 := blk_lt hb2
        have q0 : w2.cell? ⟨w.heap.size, 0, none⟩ = some (.int .i64 0) := blk_cell hb2 0
        have q1 : w2.cell? ⟨w.heap.size, 1, none⟩ = some (.int .i64 0) := blk_cell hb2 1
        have q2 : w2.cell? ⟨w.heap.size, 2, none⟩ = some (.int .i64 0) := blk_cell hb2 2
        have f0 : w2.frozen? ⟨w.heap.size, 0, none⟩ = false := blk_frozen hb2 0
        have f1 : w2.frozen? ⟨w.heap.size, 1, none⟩ = false := blk_frozen hb2 1
        have f2 : w2.frozen? ⟨w.heap.size, 2, none⟩ = false := blk_frozen hb2 2
        clear hT2 hb2
        go_wp2_with fail
        refine bodyPost_ret (results_cell_row rfl _ _ w.heap.size 53 #[.int .i64 a, .int .i64 b, .int .i64 ((k : Int) + d)] (0, 0) _ rfl (blk_alloc (blk_three HB2.out _ _ _) _) Try.underlying53 rfl (by kernel_rfl)) rfl ?_
        have hr := HRUN.out
        rw [if_neg HA.out] at hr
        rw [← hr]
        exact ⟨rfl, (((((HT.out.trans HT2.out).far HE.out H0.out.le (Nat.le_refl _) 0 _).far HE.out H0.out.le (Nat.le_refl _) 1 _).far HE.out H0.out.le (Nat.le_refl _) 2 _).below (by have := HT.out.2.1.1; have := HT2.out.2.1.1; have := H0.out.le; simp only [World.size_setCell]; omega) (below_alloc (Below.refl _ _) _))⟩
    · obtain rfl : k = N := by omega
      have HBK2 := Aside0.mk hbk
      have HT := Aside0.mk hT
      rw [Nat.sub_self, runN] at hrun
      have HRUN := Aside0.mk hrun
      have q0 : wr.cell? ⟨w.heap.size, 0, none⟩ = some (.int .i64 0) := blk_cell hbk 0
      have q1 : wr.cell? ⟨w.heap.size, 1, none⟩ = some (.int .i64 0) := blk_cell hbk 1
      have q2 : wr.cell? ⟨w.heap.size, 2, none⟩ = some (.int .i64 0) := blk_cell hbk 2
      have f0 : wr.frozen? ⟨w.heap.size, 0, none⟩ = false := blk_frozen hbk 0
      have f1 : wr.frozen? ⟨w.heap.size, 1, none⟩ = false := blk_frozen hbk 1
      have f2 : wr.frozen? ⟨w.heap.size, 2, none⟩ = false := blk_frozen hbk 2
      clear hT hrun hbk hs'
      go_wp2_with fail
      refine bodyPost_ret (results_cell_row rfl _ _ w.heap.size 53 #[.int .i64 0, .int .i64 0, .int .i64 k] (0, 0) _ rfl (blk_three HBK2.out _ _ _) Try.underlying53 rfl (by kernel_rfl)) rfl ?_
      rw [← HRUN.out]
      exact ⟨rfl, ((HT.out.far HE.out H0.out.le (Nat.le_refl _) 0 _).far HE.out H0.out.le (Nat.le_refl _) 1 _).far HE.out H0.out.le (Nat.le_refl _) 2 _⟩
end
end Go.Proofs.Ytjhgbddcenhkfaa.P
