import Derived.Test.YtjkjpmfenillcaaCodecM
import Derived.Deep.RegionHeld
import Derived.Deep.RegionHeld3
import Derived.Shelf.Abstract
/- codec.Both: two fields one behind the other, read, whatever the two; no statement of the seat. -/
set_option linter.unusedVariables false
set_option linter.unusedSimpArgs false
namespace Go.Proofs.Ytjkjpmfenillcaa.P
open Go.RowKit Go.Proofs.YtjkjpmfenillcaaW.PrintWords Go.Proofs.YtjkjpmfenillcaaW.PrintLast Go.Proofs.YtjkjpmfenillcaaW.PrintMore
set_option maxRecDepth 100000 in
set_option maxHeartbeats 4000000 in
theorem bII_get (w0 : World) (ba bb : Nat) {SA : List Int × Int → Int → List Int × Int} {SB : List Int × Int → Int → List Int × Int} {GA : List Int × Bool → Int × List Int × Bool} {GB : List Int × Bool → Int × List Int × Bool} {f1 f2 g1 g2 : FuncId} {ca cb cc cd : Array Value}
    (hA : FldC w0 ba 118 (Kd.int .i64) arg1 SA GA f1 f2 ca cb) (hB : FldC w0 bb 118 (Kd.int .i64) arg1 SB GB g1 g2 cc cd) :
    GetC w0 (Kd.pair (Kd.int .i64) (Kd.int .i64)) argN 82 #[.pointer (some ⟨ba, 0, none⟩), .pointer (some ⟨bb, 0, none⟩)] (bothG2 GA GB) := by
  intro w p A c bs bad h
  show Calls Try.prog 82 #[.pointer (some ⟨p, 0, none⟩), .pointer (some ⟨ba, 0, none⟩), .pointer (some ⟨bb, 0, none⟩)] w _
  have HI := Aside0.mk h
  have HI1 := Aside0.mk (h.alloc (.cells #[.int .i64 0, .int .i64 0] 74))
  have HA := Aside0.mk hA
  have HB := Aside0.mk hB
  have q0 : w.cell? ⟨ba, 1, none⟩ = some (.func (.func f2) #[] cb) := blk_cell (blk_below hA.blk h.lo) 1
  have hlt0 : ba < w.heap.size := blk_lt (blk_below hA.blk h.lo)
  have hp : p < w.heap.size := blk_lt h.blk
  have hB0 := h.lo.size
  have hga := hA.go2
  have hgb := hB.go2
  clear h hA hB
  go_enter Try.func82, Try.ntmps82
  go_wp2_with fail
  refine (HA.out.get _ p A c bs bad HI1.out).mono ?_
  rintro r w1 ⟨cs1, rfl, hM1, hT⟩
  have HM1 := Aside0.mk hM1
  obtain rfl : cs1 = [Value.int .i64 (GA (bs, bad)).1] := hM1
  simp only [arg1, argN, List.headD_cons]
  have HT := Aside0.mk hT
  obtain ⟨⟨A1, cc1, hI1⟩, hk1⟩ := hT
  have q1 : w1.cell? ⟨bb, 1, none⟩ = some (.func (.func g2) #[] cd) := blk_cell (blk_below HB.out.blk hI1.lo) 1
  have hx : w1.heap[w.heap.size]? = some (.cells #[.int .i64 0, .int .i64 0] 74 (0, 0)) := hk1.blk (blk_new w _) (by omega) (by simp)
  have HX := Aside0.mk (And.intro hx hI1)
  have hs1 := hk1.1
  rw [World.size_alloc] at hs1
  clear hI1 hk1 q0 hx
  go_wp2_with fail
  refine (HB.out.get w1 p A1 cc1 _ _ HX.out.2).mono ?_
  rintro r w2 ⟨cs2, rfl, hM2, hT2⟩
  have HM2 := Aside0.mk hM2
  obtain rfl : cs2 = [Value.int .i64 (GB (GA (bs, bad)).2).1] := hM2
  simp only [arg1, argN, List.headD_cons]
  obtain ⟨⟨A2, cc2, hI2⟩, hk2⟩ := hT2
  have hx2 := hk2.blk HX.out.1 (by omega) (by simp)
  have x0 : w2.cell? ⟨w.heap.size, 0, none⟩ = some (.int .i64 0) := blk_cell hx2 0
  have g0 := blkO_free hx2 0
  have x1 : w2.cell? ⟨w.heap.size, 1, none⟩ = some (.int .i64 0) := blk_cell hx2 1
  have g1 := blkO_free hx2 1
  have HY := Aside0.mk (And.intro hI2 (And.intro hk2 hx2))
  clear hI2 hk2 hx2 q1
  go_wp2_with fail
  obtain ⟨hI2, hk2, hx2⟩ := HY.out
  refine bodyPost_ret (v := .agg #[.int .i64 (GA (bs, bad)).1, .int .i64 (GB (GA (bs, bad)).2).1]) (cell_res (g := w.heap.size) rfl rfl (blk_set (blk_set hx2 0 _) 1 _) Try.underlying74 rfl (by kernel_rfl)) rfl ⟨[.int .i64 (GA (bs, bad)).1, .int .i64 (GB (GA (bs, bad)).2).1], rfl, ⟨[.int .i64 (GA (bs, bad)).1], [.int .i64 (GB (GA (bs, bad)).2).1], rfl, Kd.M_lower _ (by rw [World.size_alloc]; omega) (M_sets (M_sets (M_after HM1.out hk2 (by rw [World.size_alloc]; omega)) w.heap.size 0 _ (by rw [World.size_alloc]; omega)) w.heap.size 1 _ (by rw [World.size_alloc]; omega)), Kd.M_lower _ (by omega) (M_sets (M_sets (HM2.out) w.heap.size 0 _ (by omega)) w.heap.size 1 _ (by omega))⟩, ?_⟩
  have hb := InTo.bind HT.out ⟨⟨A2, cc2, hI2⟩, hk2⟩
  have h4 : InTo w0 w p (GB (GA (bs, bad)).2).2 w2 := ⟨hb.1, (keep_alloc_row (KeepBut.refl w p none) _).trans hb.2 (.inl rfl)⟩
  exact h4.past2 hp (Below.setCell (Below.setCell (Below.refl _ _) (p := ⟨w.heap.size, 0, none⟩) (Nat.le_refl _) _) (p := ⟨w.heap.size, 1, none⟩) (Nat.le_refl _) _) hB0
set_option maxRecDepth 100000 in
set_option maxHeartbeats 4000000 in
theorem bLF_get (w0 : World) (ba bb : Nat) {SA : List Int × Int → List Int → List Int × Int} {SB : List Int × Int → List Fn3 → List Int × Int} {GA : List Int × Bool → List Int × List Int × Bool} {GB : List Int × Bool → List Fn3 × List Int × Bool} {f1 f2 g1 g2 : FuncId} {ca cb cc cd : Array Value}
    (hA : FldC w0 ba 135 (Kd.slice 3 (Kd.int .i64)) arg1 SA GA f1 f2 ca cb) (hB : FldC w0 bb 140 (Kd.slice 76 kFn) arg1 SB GB g1 g2 cc cd) :
    GetC w0 (Kd.pair (Kd.slice 3 (Kd.int .i64)) (Kd.slice 76 kFn)) argN 94 #[.pointer (some ⟨ba, 0, none⟩), .pointer (some ⟨bb, 0, none⟩)] (bothG2 GA GB) := by
  intro w p A c bs bad h
  show Calls Try.prog 94 #[.pointer (some ⟨p, 0, none⟩), .pointer (some ⟨ba, 0, none⟩), .pointer (some ⟨bb, 0, none⟩)] w _
  have HI := Aside0.mk h
  have HI1 := Aside0.mk (h.alloc (.cells #[.slice none 0 0, .slice none 0 0] 63))
  have HA := Aside0.mk hA
  have HB := Aside0.mk hB
  have q0 : w.cell? ⟨ba, 1, none⟩ = some (.func (.func f2) #[] cb) := blk_cell (blk_below hA.blk h.lo) 1
  have hlt0 : ba < w.heap.size := blk_lt (blk_below hA.blk h.lo)
  have hp : p < w.heap.size := blk_lt h.blk
  have hB0 := h.lo.size
  have hga := hA.go2
  have hgb := hB.go2
  clear h hA hB
  go_enter Try.func94, Try.ntmps94
  go_wp2_with fail
  refine (HA.out.get _ p A c bs bad HI1.out).mono ?_
  rintro r w1 ⟨cs1, rfl, hM1, hT⟩
  have HM1 := Aside0.mk hM1
  obtain ⟨vA, rfl, hRvA⟩ := hM1; obtain ⟨AvA, cvA, rfl⟩ := Kd.R_slice hRvA
  simp only [arg1, argN, List.headD_cons]
  have HT := Aside0.mk hT
  obtain ⟨⟨A1, cc1, hI1⟩, hk1⟩ := hT
  have q1 : w1.cell? ⟨bb, 1, none⟩ = some (.func (.func g2) #[] cd) := blk_cell (blk_below HB.out.blk hI1.lo) 1
  have hx : w1.heap[w.heap.size]? = some (.cells #[.slice none 0 0, .slice none 0 0] 63 (0, 0)) := hk1.blk (blk_new w _) (by omega) (by simp)
  have HX := Aside0.mk (And.intro hx hI1)
  have hs1 := hk1.1
  rw [World.size_alloc] at hs1
  clear hI1 hk1 q0 hx
  go_wp2_with fail
  refine (HB.out.get w1 p A1 cc1 _ _ HX.out.2).mono ?_
  rintro r w2 ⟨cs2, rfl, hM2, hT2⟩
  have HM2 := Aside0.mk hM2
  obtain ⟨vB, rfl, hRvB⟩ := hM2; obtain ⟨AvB, cvB, rfl⟩ := Kd.R_slice hRvB
  simp only [arg1, argN, List.headD_cons]
  obtain ⟨⟨A2, cc2, hI2⟩, hk2⟩ := hT2
  have hx2 := hk2.blk HX.out.1 (by omega) (by simp)
  have x0 : w2.cell? ⟨w.heap.size, 0, none⟩ = some (.slice none 0 0) := blk_cell hx2 0
  have g0 := blkO_free hx2 0
  have x1 : w2.cell? ⟨w.heap.size, 1, none⟩ = some (.slice none 0 0) := blk_cell hx2 1
  have g1 := blkO_free hx2 1
  have HY := Aside0.mk (And.intro hI2 (And.intro hk2 hx2))
  clear hI2 hk2 hx2 q1
  go_wp2_with fail
  obtain ⟨hI2, hk2, hx2⟩ := HY.out
  refine bodyPost_ret (v := .agg #[.slice AvA (GA (bs, bad)).1.length cvA, .slice AvB (GB (GA (bs, bad)).2).1.length cvB]) (cell_res (g := w.heap.size) rfl rfl (blk_set (blk_set hx2 0 _) 1 _) Try.underlying63 rfl (by kernel_rfl)) rfl ⟨[.slice AvA (GA (bs, bad)).1.length cvA, .slice AvB (GB (GA (bs, bad)).2).1.length cvB], rfl, ⟨[.slice AvA (GA (bs, bad)).1.length cvA], [.slice AvB (GB (GA (bs, bad)).2).1.length cvB], rfl, Kd.M_lower _ (by rw [World.size_alloc]; omega) (M_sets (M_sets (M_after HM1.out hk2 (by rw [World.size_alloc]; omega)) w.heap.size 0 _ (by rw [World.size_alloc]; omega)) w.heap.size 1 _ (by rw [World.size_alloc]; omega)), Kd.M_lower _ (by omega) (M_sets (M_sets (HM2.out) w.heap.size 0 _ (by omega)) w.heap.size 1 _ (by omega))⟩, ?_⟩
  have hb := InTo.bind HT.out ⟨⟨A2, cc2, hI2⟩, hk2⟩
  have h4 : InTo w0 w p (GB (GA (bs, bad)).2).2 w2 := ⟨hb.1, (keep_alloc_row (KeepBut.refl w p none) _).trans hb.2 (.inl rfl)⟩
  exact h4.past2 hp (Below.setCell (Below.setCell (Below.refl _ _) (p := ⟨w.heap.size, 0, none⟩) (Nat.le_refl _) _) (p := ⟨w.heap.size, 1, none⟩) (Nat.le_refl _) _) hB0
set_option maxRecDepth 100000 in
set_option maxHeartbeats 4000000 in
theorem bW_get (w0 : World) (ba bb : Nat) {SA : List Int × Int → List Int → List Int × Int} {SB : List Int × Int → LFs → List Int × Int} {GA : List Int × Bool → List Int × List Int × Bool} {GB : List Int × Bool → LFs × List Int × Bool} {f1 f2 g1 g2 : FuncId} {ca cb cc cd : Array Value}
    (hA : FldC w0 ba 123 (Kd.slice 5 (Kd.int .u8)) arg1 SA GA f1 f2 ca cb) (hB : FldC w0 bb 130 kLF argN SB GB g1 g2 cc cd) :
    GetC w0 (Kd.pair (Kd.slice 5 (Kd.int .u8)) kLF) argN 90 #[.pointer (some ⟨ba, 0, none⟩), .pointer (some ⟨bb, 0, none⟩)] (bothG2 GA GB) := by
  intro w p A c bs bad h
  show Calls Try.prog 90 #[.pointer (some ⟨p, 0, none⟩), .pointer (some ⟨ba, 0, none⟩), .pointer (some ⟨bb, 0, none⟩)] w _
  have HI := Aside0.mk h
  have HI1 := Aside0.mk (h.alloc (.cells #[.slice none 0 0, .slice none 0 0, .slice none 0 0] 65))
  have HA := Aside0.mk hA
  have HB := Aside0.mk hB
  have q0 : w.cell? ⟨ba, 1, none⟩ = some (.func (.func f2) #[] cb) := blk_cell (blk_below hA.blk h.lo) 1
  have hlt0 : ba < w.heap.size := blk_lt (blk_below hA.blk h.lo)
  have hp : p < w.heap.size := blk_lt h.blk
  have hB0 := h.lo.size
  have hga := hA.go2
  have hgb := hB.go2
  clear h hA hB
  go_enter Try.func90, Try.ntmps90
  go_wp2_with fail
  refine (HA.out.get _ p A c bs bad HI1.out).mono ?_
  rintro r w1 ⟨cs1, rfl, hM1, hT⟩
  have HM1 := Aside0.mk hM1
  obtain ⟨vA, rfl, hRvA⟩ := hM1; obtain ⟨AvA, cvA, rfl⟩ := Kd.R_slice hRvA
  simp only [arg1, argN, List.headD_cons]
  have HT := Aside0.mk hT
  obtain ⟨⟨A1, cc1, hI1⟩, hk1⟩ := hT
  have q1 : w1.cell? ⟨bb, 1, none⟩ = some (.func (.func g2) #[] cd) := blk_cell (blk_below HB.out.blk hI1.lo) 1
  have hx : w1.heap[w.heap.size]? = some (.cells #[.slice none 0 0, .slice none 0 0, .slice none 0 0] 65 (0, 0)) := hk1.blk (blk_new w _) (by omega) (by simp)
  have HX := Aside0.mk (And.intro hx hI1)
  have hs1 := hk1.1
  rw [World.size_alloc] at hs1
  clear hI1 hk1 q0 hx
  go_wp2_with fail
  refine (HB.out.get w1 p A1 cc1 _ _ HX.out.2).mono ?_
  rintro r w2 ⟨cs2, rfl, hM2, hT2⟩
  have HM2 := Aside0.mk hM2
  obtain ⟨_, _, rfl, hM20, hM21⟩ := hM2; obtain ⟨vB, rfl, hRvB⟩ := hM20; obtain ⟨AvB, cvB, rfl⟩ := Kd.R_slice hRvB; obtain ⟨vC, rfl, hRvC⟩ := hM21; obtain ⟨AvC, cvC, rfl⟩ := Kd.R_slice hRvC
  simp only [arg1, argN, List.headD_cons]
  obtain ⟨⟨A2, cc2, hI2⟩, hk2⟩ := hT2
  have hx2 := hk2.blk HX.out.1 (by omega) (by simp)
  have x0 : w2.cell? ⟨w.heap.size, 0, none⟩ = some (.slice none 0 0) := blk_cell hx2 0
  have g0 := blkO_free hx2 0
  have x1 : w2.cell? ⟨w.heap.size, 1, none⟩ = some (.slice none 0 0) := blk_cell hx2 1
  have g1 := blkO_free hx2 1
  have x2 : w2.cell? ⟨w.heap.size, 2, none⟩ = some (.slice none 0 0) := blk_cell hx2 2
  have g2 := blkO_free hx2 2
  have HY := Aside0.mk (And.intro hI2 (And.intro hk2 hx2))
  clear hI2 hk2 hx2 q1
  go_wp2_with fail
  obtain ⟨hI2, hk2, hx2⟩ := HY.out
  refine bodyPost_ret (v := .agg #[.slice AvA (GA (bs, bad)).1.length cvA, .slice AvB (GB (GA (bs, bad)).2).1.1.length cvB, .slice AvC (GB (GA (bs, bad)).2).1.2.length cvC]) (cell_res (g := w.heap.size) rfl rfl (blk_set (blk_set (blk_set hx2 0 _) 1 _) 2 _) Try.underlying65 rfl (by kernel_rfl)) rfl ⟨[.slice AvA (GA (bs, bad)).1.length cvA, .slice AvB (GB (GA (bs, bad)).2).1.1.length cvB, .slice AvC (GB (GA (bs, bad)).2).1.2.length cvC], rfl, ⟨[.slice AvA (GA (bs, bad)).1.length cvA], [.slice AvB (GB (GA (bs, bad)).2).1.1.length cvB, .slice AvC (GB (GA (bs, bad)).2).1.2.length cvC], rfl, Kd.M_lower _ (by rw [World.size_alloc]; omega) (M_sets (M_sets (M_sets (M_after HM1.out hk2 (by rw [World.size_alloc]; omega)) w.heap.size 0 _ (by rw [World.size_alloc]; omega)) w.heap.size 1 _ (by rw [World.size_alloc]; omega)) w.heap.size 2 _ (by rw [World.size_alloc]; omega)), Kd.M_lower _ (by omega) (M_sets (M_sets (M_sets (HM2.out) w.heap.size 0 _ (by omega)) w.heap.size 1 _ (by omega)) w.heap.size 2 _ (by omega))⟩, ?_⟩
  have hb := InTo.bind HT.out ⟨⟨A2, cc2, hI2⟩, hk2⟩
  have h4 : InTo w0 w p (GB (GA (bs, bad)).2).2 w2 := ⟨hb.1, (keep_alloc_row (KeepBut.refl w p none) _).trans hb.2 (.inl rfl)⟩
  exact h4.past2 hp (Below.setCell (Below.setCell (Below.setCell (Below.refl _ _) (p := ⟨w.heap.size, 0, none⟩) (Nat.le_refl _) _) (p := ⟨w.heap.size, 1, none⟩) (Nat.le_refl _) _) (p := ⟨w.heap.size, 2, none⟩) (Nat.le_refl _) _) hB0
end Go.Proofs.Ytjkjpmfenillcaa.P
/- codec.Both: two fields one behind the other, read, whatever the two; no statement of the seat. -/
set_option linter.unusedVariables false
set_option linter.unusedSimpArgs false
namespace Go.Proofs.Ytjkjpmfenillcaa.P
open Go.RowKit Go.Proofs.YtjkjpmfenillcaaW.PrintWords Go.Proofs.YtjkjpmfenillcaaW.PrintLast Go.Proofs.YtjkjpmfenillcaaW.PrintMore
set_option maxRecDepth 100000 in
set_option maxHeartbeats 4000000 in
theorem bFn_get (w0 : World) (ba bb : Nat) {SA : List Int × Int → (Int × Int) → List Int × Int} {SB : List Int × Int → List Int → List Int × Int} {GA : List Int × Bool → (Int × Int) × List Int × Bool} {GB : List Int × Bool → List Int × List Int × Bool} {f1 f2 g1 g2 : FuncId} {ca cb cc cd : Array Value}
    (hA : FldC w0 ba 113 (Kd.pair (Kd.int .i64) (Kd.int .i64)) argN SA GA f1 f2 ca cb) (hB : FldC w0 bb 123 (Kd.slice 5 (Kd.int .u8)) arg1 SB GB g1 g2 cc cd) :
    GetC w0 kFn argN 80 #[.pointer (some ⟨ba, 0, none⟩), .pointer (some ⟨bb, 0, none⟩)] (bothG2 GA GB) := by
  intro w p A c bs bad h
  show Calls Try.prog 80 #[.pointer (some ⟨p, 0, none⟩), .pointer (some ⟨ba, 0, none⟩), .pointer (some ⟨bb, 0, none⟩)] w _
  have HI := Aside0.mk h
  have HI1 := Aside0.mk (h.alloc (.cells #[.int .i64 0, .int .i64 0, .slice none 0 0] 76))
  have HA := Aside0.mk hA
  have HB := Aside0.mk hB
  have q0 : w.cell? ⟨ba, 1, none⟩ = some (.func (.func f2) #[] cb) := blk_cell (blk_below hA.blk h.lo) 1
  have hlt0 : ba < w.heap.size := blk_lt (blk_below hA.blk h.lo)
  have hp : p < w.heap.size := blk_lt h.blk
  have hB0 := h.lo.size
  have hga := hA.go2
  clear h hA hB
  go_enter Try.func80, Try.ntmps80
  go_wp2_with fail
  refine (HA.out.get _ p A c bs bad HI1.out).mono ?_
  rintro r w1 ⟨cs1, rfl, hM1, hT⟩
  have HM1 := Aside0.mk hM1
  obtain ⟨_, _, rfl, hM10, hM11⟩ := hM1
  obtain rfl : _ = [Value.int .i64 (GA (bs, bad)).1.1] := hM10
  obtain rfl : _ = [Value.int .i64 (GA (bs, bad)).1.2] := hM11
  simp only [arg1, argN, List.cons_append, List.nil_append]
  have HT := Aside0.mk hT
  obtain ⟨⟨A1, cc1, hI1⟩, hk1⟩ := hT
  have hx : w1.heap[w.heap.size]? = some (.cells #[.int .i64 0, .int .i64 0, .slice none 0 0] 76 (0, 0)) := hk1.blk (blk_new w _) (by omega) (by simp)
  have HX := Aside0.mk (And.intro hx hI1)
  have hs1 := hk1.1
  rw [World.size_alloc] at hs1
  clear hI1 hk1 q0 hx hga
  go_upto_region 2 with (fail)
  obtain ⟨W2, hW2⟩ : ∃ W2, w1.alloc (.cells #[.int .i64 (GA (bs, bad)).1.1, .int .i64 (GA (bs, bad)).1.2] 74) = W2 := ⟨_, rfl⟩
  have hb2 : Below w1.heap.size w1 W2 := by rw [← hW2]; exact below_alloc (Below.refl _ w1) _
  have ha : W2.heap[w1.heap.size]? = some (.cells #[.int .i64 (GA (bs, bad)).1.1, .int .i64 (GA (bs, bad)).1.2] 74 (0, 0)) := by rw [← hW2]; exact blk_new w1 _
  have HKW := Aside0.mk (show KeepBut w1 W2 p none by rw [← hW2]; exact keep_alloc_row (KeepBut.refl _ _ _) _)
  rw [hW2]
  clear hW2
  have hz2 : w1.heap.size < W2.heap.size := blk_lt ha
  have hxd : W2.heap[w.heap.size]? = some (.cells #[.int .i64 0, .int .i64 0, .slice none 0 0] 76 (0, 0)) := blk_below HX.out.1 hb2
  have hbd : W2.heap[bb]? = some (.cells #[.func (.func g1) #[] cc, .func (.func g2) #[] cd] 123 (0, 0)) := blk_below HB.out.blk (HX.out.2.lo.trans (hb2.mono HX.out.2.lo.size))
  have hbl : bb < w0.heap.size := blk_lt HB.out.blk
  have q1 : W2.cell? ⟨bb, 1, none⟩ = some (.func (.func g2) #[] cd) := blk_cell hbd 1
  have a0 : W2.cell? ⟨w1.heap.size, 0, none⟩ = some (.int .i64 (GA (bs, bad)).1.1) := blk_cell ha 0
  have a1 : W2.cell? ⟨w1.heap.size, 1, none⟩ = some (.int .i64 (GA (bs, bad)).1.2) := blk_cell ha 1
  have hIp : p < w1.heap.size := blk_lt HX.out.2.blk
  have hle := HI.out.le
  have hI2d : InOK w0 W2.drew p A1 cc1 (GA (bs, bad)).2.1 (GA (bs, bad)).2.2 := ⟨HX.out.2.le, blk_drew (blk_below HX.out.2.blk hb2), HX.out.2.rd, HX.out.2.cap, HX.out.2.ok, below_drew (HX.out.2.lo.trans (hb2.mono HX.out.2.lo.size))⟩
  have HNR := Aside0.mk (show Calls Try.prog g2 (#[.pointer (some ⟨p, 0, none⟩)] ++ cd) W2.drew fun r w' => ∃ vB cB, r = .returned (.slice vB (GB (GA (bs, bad)).2).1.length cB) ∧ (Kd.int .u8).R 5 w' W2.heap.size (fun _ => True) (.slice vB (GB (GA (bs, bad)).2).1.length cB) (GB (GA (bs, bad)).2).1 ∧ InTo w0 W2 p (GB (GA (bs, bad)).2).2 w' ∧ w'.cell? ⟨w1.heap.size, 0, none⟩ = some (.int .i64 (GA (bs, bad)).1.1) ∧ w'.cell? ⟨w1.heap.size, 1, none⟩ = some (.int .i64 (GA (bs, bad)).1.2) ∧ w'.cell? ⟨bb, 1, none⟩ = some (.func (.func g2) #[] cd) ∧ w'.heap[w.heap.size]? = some (.cells #[.int .i64 0, .int .i64 0, .slice none 0 0] 76 (0, 0)) by
    refine (HB.out.get W2.drew p A1 cc1 _ _ hI2d).mono ?_
    rintro r w' ⟨cs2, rfl, ⟨v, rfl, hR⟩, hT⟩
    obtain ⟨vB, cB, rfl⟩ := Kd.R_slice hR
    exact ⟨vB, cB, rfl, hR, hT, blk_cell (hT.2.blk ha (by omega) (by simp)) 0, blk_cell (hT.2.blk ha (by omega) (by simp)) 1, blk_cell (hT.2.blk hbd (by omega) (by simp)) 1, hT.2.blk hxd (by omega) (by simp)⟩)
  have hgb := HB.out.go2
  have hn1 : w.heap.size ≠ w1.heap.size := by omega
  have hn2 : w.heap.size ≠ bb := by omega
  have hn3 : w1.heap.size ≠ w.heap.size := by omega
  have hn4 : bb ≠ w.heap.size := by omega
  have HZ := Aside0.mk (And.intro hb2 ha)
  clear hxd hbd hI2d ha hb2
  go_region_held3 (fun w' => w'.cell? ⟨w1.heap.size, 0, none⟩ = some (.int .i64 (GA (bs, bad)).1.1) ∧ w'.cell? ⟨w1.heap.size, 1, none⟩ = some (.int .i64 (GA (bs, bad)).1.2) ∧ w'.cell? ⟨bb, 1, none⟩ = some (.func (.func g2) #[] cd)) (go_keep) (first
    | (go_at_fn g2; go_loud ((with_reducible refine HNR.out.mono ?_); rintro r w2 ⟨vB, cB, rfl, hR, hT, k0, k1, k2, hx2⟩; have HR := Aside0.mk hR; have HT2 := Aside0.mk hT; have HX2 := Aside0.mk hx2; have x0 := blk_cell hx2 0; have x1 := blk_cell hx2 1; have x2 := blk_cell hx2 2; have y0 := blkO_free hx2 0; have y1 := blkO_free hx2 1; have y2 := blkO_free hx2 2; clear hR hT hx2)))
  go_wp2_with fail
  refine bodyPost_ret (v := .agg #[.int .i64 (GA (bs, bad)).1.1, .int .i64 (GA (bs, bad)).1.2, .slice vB (GB (GA (bs, bad)).2).1.length cB]) (cell_res (g := w.heap.size) rfl rfl (blk_set (blk_set (blk_set HX2.out 0 _) 1 _) 2 _) Try.underlying76 rfl (by kernel_rfl)) rfl ⟨[.int .i64 (GA (bs, bad)).1.1, .int .i64 (GA (bs, bad)).1.2, .slice vB (GB (GA (bs, bad)).2).1.length cB], rfl, ⟨[.int .i64 (GA (bs, bad)).1.1, .int .i64 (GA (bs, bad)).1.2], [.slice vB (GB (GA (bs, bad)).2).1.length cB], rfl, ⟨[_], [_], rfl, rfl, rfl⟩, Kd.M_lower _ (by omega) (M_sets (M_sets (M_sets (show (Kd.slice 5 (Kd.int .u8)).M w2 W2.heap.size (fun _ => True) (GB (GA (bs, bad)).2).1 [.slice vB (GB (GA (bs, bad)).2).1.length cB] from ⟨_, rfl, HR.out⟩) w.heap.size 0 _ (by omega)) w.heap.size 1 _ (by omega)) w.heap.size 2 _ (by omega))⟩, ?_⟩
  have h4 : InTo w0 w p (GB (GA (bs, bad)).2).2 w2 := ⟨HT2.out.1, (((keep_alloc_row (KeepBut.refl w p none) _).trans HT.out.2 (.inl rfl)).trans HKW.out (.inl rfl)).trans HT2.out.2 (.inl rfl)⟩
  exact h4.past2 hp (Below.setCell (Below.setCell (Below.setCell (Below.refl _ _) (p := ⟨w.heap.size, 0, none⟩) (Nat.le_refl _) _) (p := ⟨w.heap.size, 1, none⟩) (Nat.le_refl _) _) (p := ⟨w.heap.size, 2, none⟩) (Nat.le_refl _) _) hB0
end Go.Proofs.Ytjkjpmfenillcaa.P
