import Derived.Test.YtjkjpmfenillcaaCodecA
import Derived.Deep.RegionHeld
import Derived.Deep.RegionHeld3
import Derived.Shelf.Abstract
/- codec: what a field's two functions do, whatever the field; numbers, bytes and lists of numbers are such fields; no statement of the seat. -/
set_option linter.unusedVariables false
set_option linter.unusedSimpArgs false
namespace Go.Proofs.Ytjkjpmfenillcaa.P
open Go.RowKit Go.Proofs.YtjkjpmfenillcaaW.PrintWords Go.Proofs.YtjkjpmfenillcaaW.PrintLast Go.Proofs.YtjkjpmfenillcaaW.PrintMore
/-- How cells are handed over: one of them by itself, several together. -/
def arg1 (cs : List Value) : Value := cs.headD undef
def argN (cs : List Value) : Value := .agg cs.toArray
/-- A function that writes. -/
def PutC {α : Type} (w0 : World) (d : Kd α) (arg : List Value → Value) (f : FuncId) (ca : Array Value) (S : List Int × Int → α → List Int × Int) : Prop :=
  ∀ (w : World) (p : Nat) (v : Value) (bs : List Int) (e : Int) (x : α) (cs : List Value), Below w0.heap.size w0 w → d.K w0 x cs → OutOK w w0.heap.size p v bs e → bs.length ≤ 1048576 →
    Calls Try.prog f (#[.pointer (some ⟨p, 0, none⟩), arg cs] ++ ca) w fun r w' => r = .returned (.tuple #[]) ∧ OutTo w w0.heap.size p v (S (bs, e) x) w'
/-- A function that reads. -/
def GetC {α : Type} (w0 : World) (d : Kd α) (arg : List Value → Value) (f : FuncId) (ca : Array Value) (G : List Int × Bool → α × List Int × Bool) : Prop :=
  ∀ (w : World) (p : Nat) (A : Option Addr) (c : Nat) (bs : List Int) (bad : Bool), InOK w0 w p A c bs bad →
    Calls Try.prog f (#[.pointer (some ⟨p, 0, none⟩)] ++ ca) w fun r w' => ∃ cs, r = .returned (arg cs) ∧ d.M w' w.heap.size (fun _ => True) (G (bs, bad)).1 cs ∧ InTo w0 w p (G (bs, bad)).2 w'
/-- No more than a code may have. -/
def Short {α : Type} (S : List Int × Int → α → List Int × Int) : Prop := ∀ s x, s.1.length ≤ 1048576 → (S s x).1.length ≤ 1048576
theorem putC_num (w0 : World) (f1 f2 n : Nat) (most : Int) (hf : NumF w0 f1 f2 n most) : PutC w0 (Kd.int .i64) arg1 105 #[.pointer (some ⟨f1, 0, none⟩), .pointer (some ⟨f2, 0, none⟩)] (fun s x => numS s n most x) := by
  intro w p v bs e x cs hlo hK h hbs
  obtain rfl : cs = [.int .i64 x] := hK
  exact numput_run w0.heap.size p f1 f2 n most v bs e x w (hf.below hlo) h hlo.size hbs
theorem getC_num (w0 : World) (f1 f2 n : Nat) (most : Int) (hf : NumF w0 f1 f2 n most) : GetC w0 (Kd.int .i64) arg1 107 #[.pointer (some ⟨f1, 0, none⟩), .pointer (some ⟨f2, 0, none⟩)] (fun s => lowI s n most) := by
  intro w p A c bs bad h
  refine (numget_run w0 w p f1 f2 n most A c bs bad (hf.below h.lo) h).mono ?_
  rintro r w' ⟨rfl, hT⟩
  exact ⟨[_], rfl, rfl, hT⟩
theorem putC_blob (w0 : World) (bb c1 c2 : Nat) (hf : BlobF w0 bb c1 c2) : PutC w0 (Kd.slice 5 (Kd.int .u8)) arg1 84 #[.pointer (some ⟨bb, 0, none⟩)] blobS := by
  intro w p v bs e x cs hlo hK h hbs
  obtain ⟨A, c, rfl, hlc, hC⟩ := hK
  exact blob_put w0.heap.size p w v bs e A c x bb c1 c2 (hf.below hlo) (Kd.C_below hC hlo) (far_w0 hC h) h hlo.size hbs
theorem getC_blob (w0 : World) (bb c1 c2 : Nat) (hf : BlobF w0 bb c1 c2) : GetC w0 (Kd.slice 5 (Kd.int .u8)) arg1 86 #[.pointer (some ⟨bb, 0, none⟩)] blobG := by
  intro w p A c bs bad h
  refine (blob_get w0 w p A c bs bad bb c1 c2 (hf.below h.lo) h).mono ?_
  rintro r w' ⟨v, rfl, hR, hT⟩
  exact ⟨[v], rfl, ⟨v, rfl, hR⟩, hT⟩
theorem putC_fix (w0 : World) (bm bn : Nat) (n : Int) (hf : FixF w0 bm bn n) : PutC w0 (Kd.slice 5 (Kd.int .u8)) arg1 91 #[.pointer (some ⟨bm, 0, none⟩), .pointer (some ⟨bn, 0, none⟩)] (fixS n) := by
  intro w p v bs e x cs hlo hK h hbs
  obtain ⟨A, c, rfl, hlc, hC⟩ := hK
  exact fix_put w0.heap.size p w v bs e A c x bm bn n (hf.below hlo) (Kd.C_below hC hlo) (far_w0 hC h) h hlo.size hbs
theorem getC_fix (w0 : World) (bm bn : Nat) (n : Int) (hf : FixF w0 bm bn n) : GetC w0 (Kd.slice 5 (Kd.int .u8)) arg1 92 #[.pointer (some ⟨bm, 0, none⟩), .pointer (some ⟨bn, 0, none⟩)] (fixG n) := by
  intro w p A c bs bad h
  have h1 : bm < w0.heap.size := blk_lt hf.m
  have h2 : bn < w0.heap.size := blk_lt hf.n
  have h3 := h.le
  refine (fix_get w0 w p A c bs bad bm bn n (hf.below h.lo) (by omega) (by omega) h).mono ?_
  rintro r w' ⟨v, rfl, hR, hT⟩
  exact ⟨[v], rfl, ⟨v, rfl, hR⟩, hT⟩
theorem short_num (n : Nat) (most : Int) : Short (fun s x => numS s n most x) := fun s x h => numS_len s n most x h
theorem short_blob : Short blobS := fun s x h => putS_len _ _ (numS_len s 4 65536 _ h)
theorem short_fix (n : Int) : Short (fixS n) := fun s x h => putS_len _ _ (by split <;> exact h)
theorem putC_ints (w0 : World) (bc bf c1 c2 f1 f2 n : Nat) (most : Int) (hM : ManyF w0 bc bf c1 c2 118 (numV f1 f2)) (hf : NumF w0 f1 f2 n most) : PutC w0 (Kd.slice 3 (Kd.int .i64)) arg1 95 #[.pointer (some ⟨bc, 0, none⟩), .pointer (some ⟨bf, 0, none⟩)] (manyS (fun s x => numS s n most x)) := by
  intro w p v bs e x cs hlo hK h hbs
  obtain ⟨A, c, rfl, hlc, hC⟩ := hK
  exact manyI_put w0 w p v bs e A c x bc bf c1 c2 f1 f2 n most hM hf hC hlo h hbs
theorem getC_ints (w0 : World) (bc bf c1 c2 f1 f2 n : Nat) (most : Int) (hM : ManyF w0 bc bf c1 c2 118 (numV f1 f2)) (hf : NumF w0 f1 f2 n most) : GetC w0 (Kd.slice 3 (Kd.int .i64)) arg1 96 #[.pointer (some ⟨bc, 0, none⟩), .pointer (some ⟨bf, 0, none⟩)] (manyR (fun s => lowI s n most)) := by
  intro w p A c bs bad h
  refine (manyI_get w0 w p A c bs bad bc bf c1 c2 f1 f2 n most hM hf h).mono ?_
  rintro r w' ⟨v, rfl, hR, hT⟩
  exact ⟨[v], rfl, ⟨v, rfl, hR⟩, hT⟩
theorem manyGo_len {α : Type} (S : List Int × Int → α → List Int × Int) (hS : Short S) : ∀ (l : List α) (s : List Int × Int), s.1.length ≤ 1048576 → (manyGo S l s).1.length ≤ 1048576
  | [], _, h => h
  | x :: l, s, h => by
    rw [manyGo]
    split
    · exact manyGo_len S hS l _ (hS s x h)
    · exact h
theorem short_many {α : Type} {S : List Int × Int → α → List Int × Int} (hS : Short S) : Short (manyS S) := fun s l h => manyGo_len S hS l _ (numS_len s 2 4096 _ h)
/-- A field in a block. -/
structure FldC {α : Type} (w0 : World) (b : Nat) (tf : TypeId) (d : Kd α) (arg : List Value → Value) (S : List Int × Int → α → List Int × Int) (G : List Int × Bool → α × List Int × Bool) (f1 f2 : FuncId) (ca cb : Array Value) : Prop where
  blk : w0.heap[b]? = some (.cells #[.func (.func f1) #[] ca, .func (.func f2) #[] cb] tf (0, 0))
  put : PutC w0 d arg f1 ca S
  get : GetC w0 d arg f2 cb G
  len : Short S
  go1 : ∀ (args : Array Value) (W : World), (callFunc f1 args).run Try.prog W = .ok (.enter f1 args) W
  go2 : ∀ (args : Array Value) (W : World), (callFunc f2 args).run Try.prog W = .ok (.enter f2 args) W
/-- What was made stays where another block turns. -/
theorem M_after {α : Type} {d : Kd α} {w1 w2 : World} {base p : Nat} {x : α} {cs : List Value} (h : d.M w1 base (fun _ => True) x cs) (hk : KeepBut w1 w2 p none) (hp : p < base) : d.M w2 base (fun _ => True) x cs :=
  d.M_mono (fun _ _ => trivial) (Kd.M_keep (d.M_bound h) hk (fun k hk => by have := hk.2.1; omega))
theorem M_sets {α : Type} {d : Kd α} {w1 : World} {base : Nat} {x : α} {cs : List Value} (h : d.M w1 base (fun _ => True) x cs) (g j : Nat) (u : Value) (hg : g < base) : d.M (w1.setCell ⟨g, j, none⟩ u) base (fun _ => True) x cs :=
  d.M_mono (fun _ _ => trivial) (Kd.M_far (d.M_bound h) (p := ⟨g, j, none⟩) (fun k hk => by have := hk.2.1; show k ≠ g; omega) u)
end Go.Proofs.Ytjkjpmfenillcaa.P
/- codec.Both: two fields one behind the other, written and read, whatever the two; no statement of the seat. -/
set_option linter.unusedVariables false
set_option linter.unusedSimpArgs false
namespace Go.Proofs.Ytjkjpmfenillcaa.P
open Go.RowKit Go.Proofs.YtjkjpmfenillcaaW.PrintWords Go.Proofs.YtjkjpmfenillcaaW.PrintLast Go.Proofs.YtjkjpmfenillcaaW.PrintMore
abbrev Fn3 := (Int × Int) × List Int
def kFn : Kd Fn3 := Kd.pair (Kd.pair (Kd.int .i64) (Kd.int .i64)) (Kd.slice 5 (Kd.int .u8))
abbrev LFs := List Int × List Fn3
def kLF : Kd LFs := Kd.pair (Kd.slice 3 (Kd.int .i64)) (Kd.slice 76 kFn)
abbrev Whole := List Int × LFs
def kW : Kd Whole := Kd.pair (Kd.slice 5 (Kd.int .u8)) kLF
def bothS2 {α β : Type} (SA : List Int × Int → α → List Int × Int) (SB : List Int × Int → β → List Int × Int) (s : List Int × Int) (x : α × β) : List Int × Int := SB (SA s x.1) x.2
def bothG2 {α β : Type} (GA : List Int × Bool → α × List Int × Bool) (GB : List Int × Bool → β × List Int × Bool) (s : List Int × Bool) : (α × β) × List Int × Bool := (((GA s).1, (GB (GA s).2).1), (GB (GA s).2).2)
theorem short_both {α β : Type} {SA : List Int × Int → α → List Int × Int} {SB : List Int × Int → β → List Int × Int} (hA : Short SA) (hB : Short SB) : Short (bothS2 SA SB) := fun s x h => hB _ _ (hA s x.1 h)
set_option maxRecDepth 100000 in
set_option maxHeartbeats 4000000 in
theorem bII_put (w0 : World) (ba bb : Nat) {SA : List Int × Int → Int → List Int × Int} {SB : List Int × Int → Int → List Int × Int} {GA : List Int × Bool → Int × List Int × Bool} {GB : List Int × Bool → Int × List Int × Bool} {f1 f2 g1 g2 : FuncId} {ca cb cc cd : Array Value}
    (hA : FldC w0 ba 118 (Kd.int .i64) arg1 SA GA f1 f2 ca cb) (hB : FldC w0 bb 118 (Kd.int .i64) arg1 SB GB g1 g2 cc cd) :
    PutC w0 (Kd.pair (Kd.int .i64) (Kd.int .i64)) argN 81 #[.pointer (some ⟨ba, 0, none⟩), .pointer (some ⟨bb, 0, none⟩)] (bothS2 SA SB) := by
  intro w p v bs e x cs hlo hK h hbs
  obtain ⟨_, _, rfl, hKA, hKB⟩ := hK
  have HKA := Aside0.mk hKA
  have HKB := Aside0.mk hKB
  obtain rfl : _ = [Value.int .i64 x.1] := hKA
  obtain rfl : _ = [Value.int .i64 x.2] := hKB
  show Calls Try.prog 81 #[.pointer (some ⟨p, 0, none⟩), .agg #[.int .i64 x.1, .int .i64 x.2], .pointer (some ⟨ba, 0, none⟩), .pointer (some ⟨bb, 0, none⟩)] w _
  have HO := Aside0.mk (h.alloc (.cells #[.int .i64 x.1, .int .i64 x.2] 74))
  have HO0 := Aside0.mk h
  have HA := Aside0.mk hA
  have HB := Aside0.mk hB
  have HLO := Aside0.mk (hlo.alloc hlo.size (.cells #[.int .i64 x.1, .int .i64 x.2] 74))
  have HLO0 := Aside0.mk hlo
  have q0 : w.cell? ⟨ba, 0, none⟩ = some (.func (.func f1) #[] ca) := blk_cell (blk_below hA.blk hlo) 0
  have hlt0 : ba < w.heap.size := blk_lt (blk_below hA.blk hlo)
  have hB0 := hlo.size
  have hga := hA.go1
  have hgb := hB.go1
  clear h hA hB hlo
  go_enter Try.func81, Try.ntmps81
  go_wp2_with fail
  refine (HA.out.put _ p v bs e x.1 [.int .i64 x.1] HLO.out HKA.out HO.out hbs).mono ?_
  rintro r w1 ⟨rfl, hT⟩
  have HT := Aside0.mk hT
  obtain ⟨v1, hO1, hk1, ha1, hb1⟩ := hT
  have q1 : w1.cell? ⟨bb, 0, none⟩ = some (.func (.func g1) #[] cc) := blk_cell (blk_below HB.out.blk (HLO.out.trans hb1)) 0
  have hx : w1.heap[w.heap.size]? = some (.cells #[.int .i64 x.1, .int .i64 x.2] 74 (0, 0)) := by
    have hp := blk_lt HO0.out.blk
    refine hk1.blk (blk_new w _) (by omega) (fun e => ?_)
    have := Kd.R_lt HO0.out.own _ e.symm
    omega
  have x0 : w1.cell? ⟨w.heap.size, 0, none⟩ = some (.int .i64 x.1) := blk_cell hx 0
  have x1 : w1.cell? ⟨w.heap.size, 1, none⟩ = some (.int .i64 x.2) := blk_cell hx 1
  have HX := Aside0.mk (And.intro hO1 (And.intro hk1 (And.intro ha1 hb1)))
  have hs1 := hk1.1
  rw [World.size_alloc] at hs1
  clear hO1 hk1 ha1 hb1 q0 hx
  go_wp2_with fail
  refine (HB.out.put w1 p v1 _ _ x.2 [.int .i64 x.2] (HLO.out.trans HX.out.2.2.2) HKB.out HX.out.1 (HA.out.len (bs, e) x.1 hbs)).mono ?_
  rintro r w2 ⟨rfl, hT2⟩
  have HT2 := Aside0.mk hT2
  clear hT2
  go_wp2_with fail
  go_end0
  refine ⟨rfl, ?_⟩
  have h2 := OutTo.trans HX.out.2.1 HX.out.2.2.1 HX.out.2.2.2 (by omega) HT2.out
  exact OutTo.trans (keep_alloc_row (KeepBut.refl _ _ _) _) (.inl rfl) ((Below.refl _ _).alloc hB0 _) (by rw [World.size_alloc]; omega) h2
set_option maxRecDepth 100000 in
set_option maxHeartbeats 4000000 in
theorem bFn_put (w0 : World) (ba bb : Nat) {SA : List Int × Int → (Int × Int) → List Int × Int} {SB : List Int × Int → List Int → List Int × Int} {GA : List Int × Bool → (Int × Int) × List Int × Bool} {GB : List Int × Bool → List Int × List Int × Bool} {f1 f2 g1 g2 : FuncId} {ca cb cc cd : Array Value}
    (hA : FldC w0 ba 113 (Kd.pair (Kd.int .i64) (Kd.int .i64)) argN SA GA f1 f2 ca cb) (hB : FldC w0 bb 123 (Kd.slice 5 (Kd.int .u8)) arg1 SB GB g1 g2 cc cd) :
    PutC w0 (Kd.pair (Kd.pair (Kd.int .i64) (Kd.int .i64)) (Kd.slice 5 (Kd.int .u8))) argN 79 #[.pointer (some ⟨ba, 0, none⟩), .pointer (some ⟨bb, 0, none⟩)] (bothS2 SA SB) := by
  intro w p v bs e x cs hlo hK h hbs
  obtain ⟨_, _, rfl, hKA, hKB⟩ := hK
  have HKA := Aside0.mk hKA
  have HKB := Aside0.mk hKB
  obtain ⟨_, _, rfl, hKA0, hKA1⟩ := hKA; obtain rfl : _ = [Value.int .i64 x.1.1] := hKA0; obtain rfl : _ = [Value.int .i64 x.1.2] := hKA1
  obtain ⟨AB, cAB, rfl, lAB, CAB⟩ := hKB
  show Calls Try.prog 79 #[.pointer (some ⟨p, 0, none⟩), .agg #[.int .i64 x.1.1, .int .i64 x.1.2, .slice AB x.2.length cAB], .pointer (some ⟨ba, 0, none⟩), .pointer (some ⟨bb, 0, none⟩)] w _
  have HO := Aside0.mk (h.alloc (.cells #[.int .i64 x.1.1, .int .i64 x.1.2, .slice AB x.2.length cAB] 76))
  have HO0 := Aside0.mk h
  have HA := Aside0.mk hA
  have HB := Aside0.mk hB
  have HLO := Aside0.mk (hlo.alloc hlo.size (.cells #[.int .i64 x.1.1, .int .i64 x.1.2, .slice AB x.2.length cAB] 76))
  have HLO0 := Aside0.mk hlo
  have q0 : w.cell? ⟨ba, 0, none⟩ = some (.func (.func f1) #[] ca) := blk_cell (blk_below hA.blk hlo) 0
  have hlt0 : ba < w.heap.size := blk_lt (blk_below hA.blk hlo)
  have hB0 := hlo.size
  have hga := hA.go1
  have hgb := hB.go1
  clear h hA hB hlo
  go_enter Try.func79, Try.ntmps79
  go_wp2_with fail
  refine (HA.out.put _ p v bs e x.1 [.int .i64 x.1.1, .int .i64 x.1.2] HLO.out HKA.out HO.out hbs).mono ?_
  rintro r w1 ⟨rfl, hT⟩
  have HT := Aside0.mk hT
  obtain ⟨v1, hO1, hk1, ha1, hb1⟩ := hT
  have q1 : w1.cell? ⟨bb, 0, none⟩ = some (.func (.func g1) #[] cc) := blk_cell (blk_below HB.out.blk (HLO.out.trans hb1)) 0
  have hx : w1.heap[w.heap.size]? = some (.cells #[.int .i64 x.1.1, .int .i64 x.1.2, .slice AB x.2.length cAB] 76 (0, 0)) := by
    have hp := blk_lt HO0.out.blk
    refine hk1.blk (blk_new w _) (by omega) (fun e => ?_)
    have := Kd.R_lt HO0.out.own _ e.symm
    omega
  have x0 : w1.cell? ⟨w.heap.size, 0, none⟩ = some (.int .i64 x.1.1) := blk_cell hx 0
  have x1 : w1.cell? ⟨w.heap.size, 1, none⟩ = some (.int .i64 x.1.2) := blk_cell hx 1
  have x2 : w1.cell? ⟨w.heap.size, 2, none⟩ = some (.slice AB x.2.length cAB) := blk_cell hx 2
  have HX := Aside0.mk (And.intro hO1 (And.intro hk1 (And.intro ha1 hb1)))
  have hs1 := hk1.1
  rw [World.size_alloc] at hs1
  clear hO1 hk1 ha1 hb1 q0 hx
  go_wp2_with fail
  refine (HB.out.put w1 p v1 _ _ x.2 [.slice AB x.2.length cAB] (HLO.out.trans HX.out.2.2.2) HKB.out HX.out.1 (HA.out.len (bs, e) x.1 hbs)).mono ?_
  rintro r w2 ⟨rfl, hT2⟩
  have HT2 := Aside0.mk hT2
  clear hT2
  go_wp2_with fail
  go_end0
  refine ⟨rfl, ?_⟩
  have h2 := OutTo.trans HX.out.2.1 HX.out.2.2.1 HX.out.2.2.2 (by omega) HT2.out
  exact OutTo.trans (keep_alloc_row (KeepBut.refl _ _ _) _) (.inl rfl) ((Below.refl _ _).alloc hB0 _) (by rw [World.size_alloc]; omega) h2
set_option maxRecDepth 100000 in
set_option maxHeartbeats 4000000 in
theorem bLF_put (w0 : World) (ba bb : Nat) {SA : List Int × Int → List Int → List Int × Int} {SB : List Int × Int → List Fn3 → List Int × Int} {GA : List Int × Bool → List Int × List Int × Bool} {GB : List Int × Bool → List Fn3 × List Int × Bool} {f1 f2 g1 g2 : FuncId} {ca cb cc cd : Array Value}
    (hA : FldC w0 ba 135 (Kd.slice 3 (Kd.int .i64)) arg1 SA GA f1 f2 ca cb) (hB : FldC w0 bb 140 (Kd.slice 76 kFn) arg1 SB GB g1 g2 cc cd) :
    PutC w0 (Kd.pair (Kd.slice 3 (Kd.int .i64)) (Kd.slice 76 kFn)) argN 93 #[.pointer (some ⟨ba, 0, none⟩), .pointer (some ⟨bb, 0, none⟩)] (bothS2 SA SB) := by
  intro w p v bs e x cs hlo hK h hbs
  obtain ⟨_, _, rfl, hKA, hKB⟩ := hK
  have HKA := Aside0.mk hKA
  have HKB := Aside0.mk hKB
  obtain ⟨AA, cAA, rfl, lAA, CAA⟩ := hKA
  obtain ⟨AB, cAB, rfl, lAB, CAB⟩ := hKB
  show Calls Try.prog 93 #[.pointer (some ⟨p, 0, none⟩), .agg #[.slice AA x.1.length cAA, .slice AB x.2.length cAB], .pointer (some ⟨ba, 0, none⟩), .pointer (some ⟨bb, 0, none⟩)] w _
  have HO := Aside0.mk (h.alloc (.cells #[.slice AA x.1.length cAA, .slice AB x.2.length cAB] 63))
  have HO0 := Aside0.mk h
  have HA := Aside0.mk hA
  have HB := Aside0.mk hB
  have HLO := Aside0.mk (hlo.alloc hlo.size (.cells #[.slice AA x.1.length cAA, .slice AB x.2.length cAB] 63))
  have HLO0 := Aside0.mk hlo
  have q0 : w.cell? ⟨ba, 0, none⟩ = some (.func (.func f1) #[] ca) := blk_cell (blk_below hA.blk hlo) 0
  have hlt0 : ba < w.heap.size := blk_lt (blk_below hA.blk hlo)
  have hB0 := hlo.size
  have hga := hA.go1
  have hgb := hB.go1
  clear h hA hB hlo
  go_enter Try.func93, Try.ntmps93
  go_wp2_with fail
  refine (HA.out.put _ p v bs e x.1 [.slice AA x.1.length cAA] HLO.out HKA.out HO.out hbs).mono ?_
  rintro r w1 ⟨rfl, hT⟩
  have HT := Aside0.mk hT
  obtain ⟨v1, hO1, hk1, ha1, hb1⟩ := hT
  have q1 : w1.cell? ⟨bb, 0, none⟩ = some (.func (.func g1) #[] cc) := blk_cell (blk_below HB.out.blk (HLO.out.trans hb1)) 0
  have hx : w1.heap[w.heap.size]? = some (.cells #[.slice AA x.1.length cAA, .slice AB x.2.length cAB] 63 (0, 0)) := by
    have hp := blk_lt HO0.out.blk
    refine hk1.blk (blk_new w _) (by omega) (fun e => ?_)
    have := Kd.R_lt HO0.out.own _ e.symm
    omega
  have x0 : w1.cell? ⟨w.heap.size, 0, none⟩ = some (.slice AA x.1.length cAA) := blk_cell hx 0
  have x1 : w1.cell? ⟨w.heap.size, 1, none⟩ = some (.slice AB x.2.length cAB) := blk_cell hx 1
  have HX := Aside0.mk (And.intro hO1 (And.intro hk1 (And.intro ha1 hb1)))
  have hs1 := hk1.1
  rw [World.size_alloc] at hs1
  clear hO1 hk1 ha1 hb1 q0 hx
  go_wp2_with fail
  refine (HB.out.put w1 p v1 _ _ x.2 [.slice AB x.2.length cAB] (HLO.out.trans HX.out.2.2.2) HKB.out HX.out.1 (HA.out.len (bs, e) x.1 hbs)).mono ?_
  rintro r w2 ⟨rfl, hT2⟩
  have HT2 := Aside0.mk hT2
  clear hT2
  go_wp2_with fail
  go_end0
  refine ⟨rfl, ?_⟩
  have h2 := OutTo.trans HX.out.2.1 HX.out.2.2.1 HX.out.2.2.2 (by omega) HT2.out
  exact OutTo.trans (keep_alloc_row (KeepBut.refl _ _ _) _) (.inl rfl) ((Below.refl _ _).alloc hB0 _) (by rw [World.size_alloc]; omega) h2
set_option maxRecDepth 100000 in
set_option maxHeartbeats 4000000 in
theorem bW_put (w0 : World) (ba bb : Nat) {SA : List Int × Int → List Int → List Int × Int} {SB : List Int × Int → LFs → List Int × Int} {GA : List Int × Bool → List Int × List Int × Bool} {GB : List Int × Bool → LFs × List Int × Bool} {f1 f2 g1 g2 : FuncId} {ca cb cc cd : Array Value}
    (hA : FldC w0 ba 123 (Kd.slice 5 (Kd.int .u8)) arg1 SA GA f1 f2 ca cb) (hB : FldC w0 bb 130 kLF argN SB GB g1 g2 cc cd) :
    PutC w0 (Kd.pair (Kd.slice 5 (Kd.int .u8)) kLF) argN 89 #[.pointer (some ⟨ba, 0, none⟩), .pointer (some ⟨bb, 0, none⟩)] (bothS2 SA SB) := by
  intro w p v bs e x cs hlo hK h hbs
  obtain ⟨_, _, rfl, hKA, hKB⟩ := hK
  have HKA := Aside0.mk hKA
  have HKB := Aside0.mk hKB
  obtain ⟨AA, cAA, rfl, lAA, CAA⟩ := hKA
  obtain ⟨_, _, rfl, hKB0, hKB1⟩ := hKB; obtain ⟨AB, cAB, rfl, lAB, CAB⟩ := hKB0; obtain ⟨AC, cAC, rfl, lAC, CAC⟩ := hKB1
  show Calls Try.prog 89 #[.pointer (some ⟨p, 0, none⟩), .agg #[.slice AA x.1.length cAA, .slice AB x.2.1.length cAB, .slice AC x.2.2.length cAC], .pointer (some ⟨ba, 0, none⟩), .pointer (some ⟨bb, 0, none⟩)] w _
  have HO := Aside0.mk (h.alloc (.cells #[.slice AA x.1.length cAA, .slice AB x.2.1.length cAB, .slice AC x.2.2.length cAC] 65))
  have HO0 := Aside0.mk h
  have HA := Aside0.mk hA
  have HB := Aside0.mk hB
  have HLO := Aside0.mk (hlo.alloc hlo.size (.cells #[.slice AA x.1.length cAA, .slice AB x.2.1.length cAB, .slice AC x.2.2.length cAC] 65))
  have HLO0 := Aside0.mk hlo
  have q0 : w.cell? ⟨ba, 0, none⟩ = some (.func (.func f1) #[] ca) := blk_cell (blk_below hA.blk hlo) 0
  have hlt0 : ba < w.heap.size := blk_lt (blk_below hA.blk hlo)
  have hB0 := hlo.size
  have hga := hA.go1
  have hgb := hB.go1
  clear h hA hB hlo
  go_enter Try.func89, Try.ntmps89
  go_wp2_with fail
  refine (HA.out.put _ p v bs e x.1 [.slice AA x.1.length cAA] HLO.out HKA.out HO.out hbs).mono ?_
  rintro r w1 ⟨rfl, hT⟩
  have HT := Aside0.mk hT
  obtain ⟨v1, hO1, hk1, ha1, hb1⟩ := hT
  have q1 : w1.cell? ⟨bb, 0, none⟩ = some (.func (.func g1) #[] cc) := blk_cell (blk_below HB.out.blk (HLO.out.trans hb1)) 0
  have hx : w1.heap[w.heap.size]? = some (.cells #[.slice AA x.1.length cAA, .slice AB x.2.1.length cAB, .slice AC x.2.2.length cAC] 65 (0, 0)) := by
    have hp := blk_lt HO0.out.blk
    refine hk1.blk (blk_new w _) (by omega) (fun e => ?_)
    have := Kd.R_lt HO0.out.own _ e.symm
    omega
  have x0 : w1.cell? ⟨w.heap.size, 0, none⟩ = some (.slice AA x.1.length cAA) := blk_cell hx 0
  have x1 : w1.cell? ⟨w.heap.size, 1, none⟩ = some (.slice AB x.2.1.length cAB) := blk_cell hx 1
  have x2 : w1.cell? ⟨w.heap.size, 2, none⟩ = some (.slice AC x.2.2.length cAC) := blk_cell hx 2
  have HX := Aside0.mk (And.intro hO1 (And.intro hk1 (And.intro ha1 hb1)))
  have hs1 := hk1.1
  rw [World.size_alloc] at hs1
  clear hO1 hk1 ha1 hb1 q0 hx
  go_wp2_with fail
  refine (HB.out.put w1 p v1 _ _ x.2 [.slice AB x.2.1.length cAB, .slice AC x.2.2.length cAC] (HLO.out.trans HX.out.2.2.2) HKB.out HX.out.1 (HA.out.len (bs, e) x.1 hbs)).mono ?_
  rintro r w2 ⟨rfl, hT2⟩
  have HT2 := Aside0.mk hT2
  clear hT2
  go_wp2_with fail
  go_end0
  refine ⟨rfl, ?_⟩
  have h2 := OutTo.trans HX.out.2.1 HX.out.2.2.1 HX.out.2.2.2 (by omega) HT2.out
  exact OutTo.trans (keep_alloc_row (KeepBut.refl _ _ _) _) (.inl rfl) ((Below.refl _ _).alloc hB0 _) (by rw [World.size_alloc]; omega) h2
end Go.Proofs.Ytjkjpmfenillcaa.P
/- codec.Both: two fields one behind the other, read, whatever the two; no statement of the seat. -/
set_option linter.unusedVariables false
set_option linter.unusedSimpArgs false
namespace Go.Proofs.Ytjkjpmfenillcaa.P
open Go.RowKit Go.Proofs.YtjkjpmfenillcaaW.PrintWords Go.Proofs.YtjkjpmfenillcaaW.PrintLast Go.Proofs.YtjkjpmfenillcaaW.PrintMore
set_option maxRecDepth 100000 in
set_option maxHeartbeats 4000000 in
theorem bII_get (w0 : World) (ba bb : Nat) {SA : List Int × Int → Int → List Int × Int} {SB : List Int × Int → Int → List Int × Int} {GA : List Int × Bool → Int × List Int × Bool} {GB : List Int × Bool → Int × List Int × Bool} {f1 f2 g1 g2 : FuncId} {ca cb cc cd : Array Value}
    (hA : FldC w0 ba 118 (Kd.int .i64) arg1 SA GA f1 f2 ca cb) (hB : FldC w0 bb 118 (Kd.int .i64) arg1 SB GB g1 g2 cc cd) :
    GetC w0 (Kd.pair (Kd.int .i64) (Kd.int .i64)) argN 82 #[.pointer (some ⟨ba, 0, none⟩), .pointer (some ⟨bb, 0, none⟩)] (bothG2 GA GB) := by
  intro w p A c bs bad h
  show Calls Try.prog 82 #[.pointer (some ⟨p, 0, none⟩), .pointer (some ⟨ba, 0, none⟩), .pointer (some ⟨bb, 0, none⟩)] w _
  have HI := Aside0.mk h
  have HI1 := Aside0.mk (h.alloc (.cells #[.int .i64 0, .int .i64 0] 74))
  have HA := Aside0.mk hA
  have HB := Aside0.mk hB
  have q0 : w.cell? ⟨ba, 1, none⟩ = some (.func (.func f2) #[] cb) := blk_cell (blk_below hA.blk h.lo) 1
  have hlt0 : ba < w.heap.size := blk_lt (blk_below hA.blk h.lo)
  have hp : p < w.heap.size := blk_lt h.blk
  have hB0 := h.lo.size
  have hga := hA.go2
  have hgb := hB.go2
  clear h hA hB
  go_enter Try.func82, Try.ntmps82
  go_wp2_with fail
  refine (HA.out.get _ p A c bs bad HI1.out).mono ?_
  rintro r w1 ⟨cs1, rfl, hM1, hT⟩
  have HM1 := Aside0.mk hM1
  obtain rfl : cs1 = [Value.int .i64 (GA (bs, bad)).1] := hM1
  simp only [arg1, argN, List.headD_cons]
  have HT := Aside0.mk hT
  obtain ⟨⟨A1, cc1, hI1⟩, hk1⟩ := hT
  have q1 : w1.cell? ⟨bb, 1, none⟩ = some (.func (.func g2) #[] cd) := blk_cell (blk_below HB.out.blk hI1.lo) 1
  have hx : w1.heap[w.heap.size]? = some (.cells #[.int .i64 0, .int .i64 0] 74 (0, 0)) := hk1.blk (blk_new w _) (by omega) (by simp)
  have HX := Aside0.mk (And.intro hx hI1)
  have hs1 := hk1.1
  rw [World.size_alloc] at hs1
  clear hI1 hk1 q0 hx
  go_wp2_with fail
  refine (HB.out.get w1 p A1 cc1 _ _ HX.out.2).mono ?_
  rintro r w2 ⟨cs2, rfl, hM2, hT2⟩
  have HM2 := Aside0.mk hM2
  obtain rfl : cs2 = [Value.int .i64 (GB (GA (bs, bad)).2).1] := hM2
  simp only [arg1, argN, List.headD_cons]
  obtain ⟨⟨A2, cc2, hI2⟩, hk2⟩ := hT2
  have hx2 := hk2.blk HX.out.1 (by omega) (by simp)
  have x0 : w2.cell? ⟨w.heap.size, 0, none⟩ = some (.int .i64 0) := blk_cell hx2 0
  have g0 := blkO_free hx2 0
  have x1 : w2.cell? ⟨w.heap.size, 1, none⟩ = some (.int .i64 0) := blk_cell hx2 1
  have g1 := blkO_free hx2 1
  have HY := Aside0.mk (And.intro hI2 (And.intro hk2 hx2))
  clear hI2 hk2 hx2 q1
  go_wp2_with fail
  obtain ⟨hI2, hk2, hx2⟩ := HY.out
  refine bodyPost_ret (v := .agg #[.int .i64 (GA (bs, bad)).1, .int .i64 (GB (GA (bs, bad)).2).1]) (cell_res (g := w.heap.size) rfl rfl (blk_set (blk_set hx2 0 _) 1 _) Try.underlying74 rfl (by kernel_rfl)) rfl ⟨[.int .i64 (GA (bs, bad)).1, .int .i64 (GB (GA (bs, bad)).2).1], rfl, ⟨[.int .i64 (GA (bs, bad)).1], [.int .i64 (GB (GA (bs, bad)).2).1], rfl, Kd.M_lower _ (by rw [World.size_alloc]; omega) (M_sets (M_sets (M_after HM1.out hk2 (by rw [World.size_alloc]; omega)) w.heap.size 0 _ (by rw [World.size_alloc]; omega)) w.heap.size 1 _ (by rw [World.size_alloc]; omega)), Kd.M_lower _ (by omega) (M_sets (M_sets (HM2.out) w.heap.size 0 _ (by omega)) w.heap.size 1 _ (by omega))⟩, ?_⟩
  have hb := InTo.bind HT.out ⟨⟨A2, cc2, hI2⟩, hk2⟩
  have h4 : InTo w0 w p (GB (GA (bs, bad)).2).2 w2 := ⟨hb.1, (keep_alloc_row (KeepBut.refl w p none) _).trans hb.2 (.inl rfl)⟩
  exact h4.past2 hp (Below.setCell (Below.setCell (Below.refl _ _) (p := ⟨w.heap.size, 0, none⟩) (Nat.le_refl _) _) (p := ⟨w.heap.size, 1, none⟩) (Nat.le_refl _) _) hB0
set_option maxRecDepth 100000 in
set_option maxHeartbeats 4000000 in
theorem bLF_get (w0 : World) (ba bb : Nat) {SA : List Int × Int → List Int → List Int × Int} {SB : List Int × Int → List Fn3 → List Int × Int} {GA : List Int × Bool → List Int × List Int × Bool} {GB : List Int × Bool → List Fn3 × List Int × Bool} {f1 f2 g1 g2 : FuncId} {ca cb cc cd : Array Value}
    (hA : FldC w0 ba 135 (Kd.slice 3 (Kd.int .i64)) arg1 SA GA f1 f2 ca cb) (hB : FldC w0 bb 140 (Kd.slice 76 kFn) arg1 SB GB g1 g2 cc cd) :
    GetC w0 (Kd.pair (Kd.slice 3 (Kd.int .i64)) (Kd.slice 76 kFn)) argN 94 #[.pointer (some ⟨ba, 0, none⟩), .pointer (some ⟨bb, 0, none⟩)] (bothG2 GA GB) := by
  intro w p A c bs bad h
  show Calls Try.prog 94 #[.pointer (some ⟨p, 0, none⟩), .pointer (some ⟨ba, 0, none⟩), .pointer (some ⟨bb, 0, none⟩)] w _
  have HI := Aside0.mk h
  have HI1 := Aside0.mk (h.alloc (.cells #[.slice none 0 0, .slice none 0 0] 63))
  have HA := Aside0.mk hA
  have HB := Aside0.mk hB
  have q0 : w.cell? ⟨ba, 1, none⟩ = some (.func (.func f2) #[] cb) := blk_cell (blk_below hA.blk h.lo) 1
  have hlt0 : ba < w.heap.size := blk_lt (blk_below hA.blk h.lo)
  have hp : p < w.heap.size := blk_lt h.blk
  have hB0 := h.lo.size
  have hga := hA.go2
  have hgb := hB.go2
  clear h hA hB
  go_enter Try.func94, Try.ntmps94
  go_wp2_with fail
  refine (HA.out.get _ p A c bs bad HI1.out).mono ?_
  rintro r w1 ⟨cs1, rfl, hM1, hT⟩
  have HM1 := Aside0.mk hM1
  obtain ⟨vA, rfl, hRvA⟩ := hM1; obtain ⟨AvA, cvA, rfl⟩ := Kd.R_slice hRvA
  simp only [arg1, argN, List.headD_cons]
  have HT := Aside0.mk hT
  obtain ⟨⟨A1, cc1, hI1⟩, hk1⟩ := hT
  have q1 : w1.cell? ⟨bb, 1, none⟩ = some (.func (.func g2) #[] cd) := blk_cell (blk_below HB.out.blk hI1.lo) 1
  have hx : w1.heap[w.heap.size]? = some (.cells #[.slice none 0 0, .slice none 0 0] 63 (0, 0)) := hk1.blk (blk_new w _) (by omega) (by simp)
  have HX := Aside0.mk (And.intro hx hI1)
  have hs1 := hk1.1
  rw [World.size_alloc] at hs1
  clear hI1 hk1 q0 hx
  go_wp2_with fail
  refine (HB.out.get w1 p A1 cc1 _ _ HX.out.2).mono ?_
  rintro r w2 ⟨cs2, rfl, hM2, hT2⟩
  have HM2 := Aside0.mk hM2
  obtain ⟨vB, rfl, hRvB⟩ := hM2; obtain ⟨AvB, cvB, rfl⟩ := Kd.R_slice hRvB
  simp only [arg1, argN, List.headD_cons]
  obtain ⟨⟨A2, cc2, hI2⟩, hk2⟩ := hT2
  have hx2 := hk2.blk HX.out.1 (by omega) (by simp)
  have x0 : w2.cell? ⟨w.heap.size, 0, none⟩ = some (.slice none 0 0) := blk_cell hx2 0
  have g0 := blkO_free hx2 0
  have x1 : w2.cell? ⟨w.heap.size, 1, none⟩ = some (.slice none 0 0) := blk_cell hx2 1
  have g1 := blkO_free hx2 1
  have HY := Aside0.mk (And.intro hI2 (And.intro hk2 hx2))
  clear hI2 hk2 hx2 q1
  go_wp2_with fail
  obtain ⟨hI2, hk2, hx2⟩ := HY.out
  refine bodyPost_ret (v := .agg #[.slice AvA (GA (bs, bad)).1.length cvA, .slice AvB (GB (GA (bs, bad)).2).1.length cvB]) (cell_res (g := w.heap.size) rfl rfl (blk_set (blk_set hx2 0 _) 1 _) Try.underlying63 rfl (by kernel_rfl)) rfl ⟨[.slice AvA (GA (bs, bad)).1.length cvA, .slice AvB (GB (GA (bs, bad)).2).1.length cvB], rfl, ⟨[.slice AvA (GA (bs, bad)).1.length cvA], [.slice AvB (GB (GA (bs, bad)).2).1.length cvB], rfl, Kd.M_lower _ (by rw [World.size_alloc]; omega) (M_sets (M_sets (M_after HM1.out hk2 (by rw [World.size_alloc]; omega)) w.heap.size 0 _ (by rw [World.size_alloc]; omega)) w.heap.size 1 _ (by rw [World.size_alloc]; omega)), Kd.M_lower _ (by omega) (M_sets (M_sets (HM2.out) w.heap.size 0 _ (by omega)) w.heap.size 1 _ (by omega))⟩, ?_⟩
  have hb := InTo.bind HT.out ⟨⟨A2, cc2, hI2⟩, hk2⟩
  have h4 : InTo w0 w p (GB (GA (bs, bad)).2).2 w2 := ⟨hb.1, (keep_alloc_row (KeepBut.refl w p none) _).trans hb.2 (.inl rfl)⟩
  exact h4.past2 hp (Below.setCell (Below.setCell (Below.refl _ _) (p := ⟨w.heap.size, 0, none⟩) (Nat.le_refl _) _) (p := ⟨w.heap.size, 1, none⟩) (Nat.le_refl _) _) hB0
set_option maxRecDepth 100000 in
set_option maxHeartbeats 4000000 in
theorem bW_get (w0 : World) (ba bb : Nat) {SA : List Int × Int → List Int → List Int × Int} {SB : List Int × Int → LFs → List Int × Int} {GA : List Int × Bool → List Int × List Int × Bool} {GB : List Int × Bool → LFs × List Int × Bool} {f1 f2 g1 g2 : FuncId} {ca cb cc cd : Array Value}
    (hA : FldC w0 ba 123 (Kd.slice 5 (Kd.int .u8)) arg1 SA GA f1 f2 ca cb) (hB : FldC w0 bb 130 kLF argN SB GB g1 g2 cc cd) :
    GetC w0 (Kd.pair (Kd.slice 5 (Kd.int .u8)) kLF) argN 90 #[.pointer (some ⟨ba, 0, none⟩), .pointer (some ⟨bb, 0, none⟩)] (bothG2 GA GB) := by
  intro w p A c bs bad h
  show Calls Try.prog 90 #[.pointer (some ⟨p, 0, none⟩), .pointer (some ⟨ba, 0, none⟩), .pointer (some ⟨bb, 0, none⟩)] w _
  have HI := Aside0.mk h
  have HI1 := Aside0.mk (h.alloc (.cells #[.slice none 0 0, .slice none 0 0, .slice none 0 0] 65))
  have HA := Aside0.mk hA
  have HB := Aside0.mk hB
  have q0 : w.cell? ⟨ba, 1, none⟩ = some (.func (.func f2) #[] cb) := blk_cell (blk_below hA.blk h.lo) 1
  have hlt0 : ba < w.heap.size := blk_lt (blk_below hA.blk h.lo)
  have hp : p < w.heap.size := blk_lt h.blk
  have hB0 := h.lo.size
  have hga := hA.go2
  have hgb := hB.go2
  clear h hA hB
  go_enter Try.func90, Try.ntmps90
  go_wp2_with fail
  refine (HA.out.get _ p A c bs bad HI1.out).mono ?_
  rintro r w1 ⟨cs1, rfl, hM1, hT⟩
  have HM1 := Aside0.mk hM1
  obtain ⟨vA, rfl, hRvA⟩ := hM1; obtain ⟨AvA, cvA, rfl⟩ := Kd.R_slice hRvA
  simp only [arg1, argN, List.headD_cons]
  have HT := Aside0.mk hT
  obtain ⟨⟨A1, cc1, hI1⟩, hk1⟩ := hT
  have q1 : w1.cell? ⟨bb, 1, none⟩ = some (.func (.func g2) #[] cd) := blk_cell (blk_below HB.out.blk hI1.lo) 1
  have hx : w1.heap[w.heap.size]? = some (.cells #[.slice none 0 0, .slice none 0 0, .slice none 0 0] 65 (0, 0)) := hk1.blk (blk_new w _) (by omega) (by simp)
  have HX := Aside0.mk (And.intro hx hI1)
  have hs1 := hk1.1
  rw [World.size_alloc] at hs1
  clear hI1 hk1 q0 hx
  go_wp2_with fail
  refine (HB.out.get w1 p A1 cc1 _ _ HX.out.2).mono ?_
  rintro r w2 ⟨cs2, rfl, hM2, hT2⟩
  have HM2 := Aside0.mk hM2
  obtain ⟨_, _, rfl, hM20, hM21⟩ := hM2; obtain ⟨vB, rfl, hRvB⟩ := hM20; obtain ⟨AvB, cvB, rfl⟩ := Kd.R_slice hRvB; obtain ⟨vC, rfl, hRvC⟩ := hM21; obtain ⟨AvC, cvC, rfl⟩ := Kd.R_slice hRvC
  simp only [arg1, argN, List.headD_cons]
  obtain ⟨⟨A2, cc2, hI2⟩, hk2⟩ := hT2
  have hx2 := hk2.blk HX.out.1 (by omega) (by simp)
  have x0 : w2.cell? ⟨w.heap.size, 0, none⟩ = some (.slice none 0 0) := blk_cell hx2 0
  have g0 := blkO_free hx2 0
  have x1 : w2.cell? ⟨w.heap.size, 1, none⟩ = some (.slice none 0 0) := blk_cell hx2 1
  have g1 := blkO_free hx2 1
  have x2 : w2.cell? ⟨w.heap.size, 2, none⟩ = some (.slice none 0 0) := blk_cell hx2 2
  have g2 := blkO_free hx2 2
  have HY := Aside0.mk (And.intro hI2 (And.intro hk2 hx2))
  clear hI2 hk2 hx2 q1
  go_wp2_with fail
  obtain ⟨hI2, hk2, hx2⟩ := HY.out
  refine bodyPost_ret (v := .agg #[.slice AvA (GA (bs, bad)).1.length cvA, .slice AvB (GB (GA (bs, bad)).2).1.1.length cvB, .slice AvC (GB (GA (bs, bad)).2).1.2.length cvC]) (cell_res (g := w.heap.size) rfl rfl (blk_set (blk_set (blk_set hx2 0 _) 1 _) 2 _) Try.underlying65 rfl (by kernel_rfl)) rfl ⟨[.slice AvA (GA (bs, bad)).1.length cvA, .slice AvB (GB (GA (bs, bad)).2).1.1.length cvB, .slice AvC (GB (GA (bs, bad)).2).1.2.length cvC], rfl, ⟨[.slice AvA (GA (bs, bad)).1.length cvA], [.slice AvB (GB (GA (bs, bad)).2).1.1.length cvB, .slice AvC (GB (GA (bs, bad)).2).1.2.length cvC], rfl, Kd.M_lower _ (by rw [World.size_alloc]; omega) (M_sets (M_sets (M_sets (M_after HM1.out hk2 (by rw [World.size_alloc]; omega)) w.heap.size 0 _ (by rw [World.size_alloc]; omega)) w.heap.size 1 _ (by rw [World.size_alloc]; omega)) w.heap.size 2 _ (by rw [World.size_alloc]; omega)), Kd.M_lower _ (by omega) (M_sets (M_sets (M_sets (HM2.out) w.heap.size 0 _ (by omega)) w.heap.size 1 _ (by omega)) w.heap.size 2 _ (by omega))⟩, ?_⟩
  have hb := InTo.bind HT.out ⟨⟨A2, cc2, hI2⟩, hk2⟩
  have h4 : InTo w0 w p (GB (GA (bs, bad)).2).2 w2 := ⟨hb.1, (keep_alloc_row (KeepBut.refl w p none) _).trans hb.2 (.inl rfl)⟩
  exact h4.past2 hp (Below.setCell (Below.setCell (Below.setCell (Below.refl _ _) (p := ⟨w.heap.size, 0, none⟩) (Nat.le_refl _) _) (p := ⟨w.heap.size, 1, none⟩) (Nat.le_refl _) _) (p := ⟨w.heap.size, 2, none⟩) (Nat.le_refl _) _) hB0
end Go.Proofs.Ytjkjpmfenillcaa.P
/- codec.Both: two fields one behind the other, read, whatever the two; no statement of the seat. -/
set_option linter.unusedVariables false
set_option linter.unusedSimpArgs false
namespace Go.Proofs.Ytjkjpmfenillcaa.P
open Go.RowKit Go.Proofs.YtjkjpmfenillcaaW.PrintWords Go.Proofs.YtjkjpmfenillcaaW.PrintLast Go.Proofs.YtjkjpmfenillcaaW.PrintMore
set_option maxRecDepth 100000 in
set_option maxHeartbeats 4000000 in
theorem bFn_get (w0 : World) (ba bb : Nat) {SA : List Int × Int → (Int × Int) → List Int × Int} {SB : List Int × Int → List Int → List Int × Int} {GA : List Int × Bool → (Int × Int) × List Int × Bool} {GB : List Int × Bool → List Int × List Int × Bool} {f1 f2 g1 g2 : FuncId} {ca cb cc cd : Array Value}
    (hA : FldC w0 ba 113 (Kd.pair (Kd.int .i64) (Kd.int .i64)) argN SA GA f1 f2 ca cb) (hB : FldC w0 bb 123 (Kd.slice 5 (Kd.int .u8)) arg1 SB GB g1 g2 cc cd) :
    GetC w0 kFn argN 80 #[.pointer (some ⟨ba, 0, none⟩), .pointer (some ⟨bb, 0, none⟩)] (bothG2 GA GB) := by
  intro w p A c bs bad h
  show Calls Try.prog 80 #[.pointer (some ⟨p, 0, none⟩), .pointer (some ⟨ba, 0, none⟩), .pointer (some ⟨bb, 0, none⟩)] w _
  have HI := Aside0.mk h
  have HI1 := Aside0.mk (h.alloc (.cells #[.int .i64 0, .int .i64 0, .slice none 0 0] 76))
  have HA := Aside0.mk hA
  have HB := Aside0.mk hB
  have q0 : w.cell? ⟨ba, 1, none⟩ = some (.func (.func f2) #[] cb) := blk_cell (blk_below hA.blk h.lo) 1
  have hlt0 : ba < w.heap.size := blk_lt (blk_below hA.blk h.lo)
  have hp : p < w.heap.size := blk_lt h.blk
  have hB0 := h.lo.size
  have hga := hA.go2
  clear h hA hB
  go_enter Try.func80, Try.ntmps80
  go_wp2_with fail
  refine (HA.out.get _ p A c bs bad HI1.out).mono ?_
  rintro r w1 ⟨cs1, rfl, hM1, hT⟩
  have HM1 := Aside0.mk hM1
  obtain ⟨_, _, rfl, hM10, hM11⟩ := hM1
  obtain rfl : _ = [Value.int .i64 (GA (bs, bad)).1.1] := hM10
  obtain rfl : _ = [Value.int .i64 (GA (bs, bad)).1.2] := hM11
  simp only [arg1, argN, List.cons_append, List.nil_append]
  have HT := Aside0.mk hT
  obtain ⟨⟨A1, cc1, hI1⟩, hk1⟩ := hT
  have hx : w1.heap[w.heap.size]? = some (.cells #[.int .i64 0, .int .i64 0, .slice none 0 0] 76 (0, 0)) := hk1.blk (blk_new w _) (by omega) (by simp)
  have HX := Aside0.mk (And.intro hx hI1)
  have hs1 := hk1.1
  rw [World.size_alloc] at hs1
  clear hI1 hk1 q0 hx hga
  go_upto_region 2 with (fail)
  obtain ⟨W2, hW2⟩ : ∃ W2, w1.alloc (.cells #[.int .i64 (GA (bs, bad)).1.1, .int .i64 (GA (bs, bad)).1.2] 74) = W2 := ⟨_, rfl⟩
  have hb2 : Below w1.heap.size w1 W2 := by rw [← hW2]; exact below_alloc (Below.refl _ w1) _
  have ha : W2.heap[w1.heap.size]? = some (.cells #[.int .i64 (GA (bs, bad)).1.1, .int .i64 (GA (bs, bad)).1.2] 74 (0, 0)) := by rw [← hW2]; exact blk_new w1 _
  have HKW := Aside0.mk (show KeepBut w1 W2 p none by rw [← hW2]; exact keep_alloc_row (KeepBut.refl _ _ _) _)
  rw [hW2]
  clear hW2
  have hz2 : w1.heap.size < W2.heap.size := blk_lt ha
  have hxd : W2.heap[w.heap.size]? = some (.cells #[.int .i64 0, .int .i64 0, .slice none 0 0] 76 (0, 0)) := blk_below HX.out.1 hb2
  have hbd : W2.heap[bb]? = some (.cells #[.func (.func g1) #[] cc, .func (.func g2) #[] cd] 123 (0, 0)) := blk_below HB.out.blk (HX.out.2.lo.trans (hb2.mono HX.out.2.lo.size))
  have hbl : bb < w0.heap.size := blk_lt HB.out.blk
  have q1 : W2.cell? ⟨bb, 1, none⟩ = some (.func (.func g2) #[] cd) := blk_cell hbd 1
  have a0 : W2.cell? ⟨w1.heap.size, 0, none⟩ = some (.int .i64 (GA (bs, bad)).1.1) := blk_cell ha 0
  have a1 : W2.cell? ⟨w1.heap.size, 1, none⟩ = some (.int .i64 (GA (bs, bad)).1.2) := blk_cell ha 1
  have hIp : p < w1.heap.size := blk_lt HX.out.2.blk
  have hle := HI.out.le
  have hI2d : InOK w0 W2.drew p A1 cc1 (GA (bs, bad)).2.1 (GA (bs, bad)).2.2 := ⟨HX.out.2.le, blk_drew (blk_below HX.out.2.blk hb2), HX.out.2.rd, HX.out.2.cap, HX.out.2.ok, below_drew (HX.out.2.lo.trans (hb2.mono HX.out.2.lo.size))⟩
  have HNR := Aside0.mk (show Calls Try.prog g2 (#[.pointer (some ⟨p, 0, none⟩)] ++ cd) W2.drew fun r w' => ∃ vB cB, r = .returned (.slice vB (GB (GA (bs, bad)).2).1.length cB) ∧ (Kd.int .u8).R 5 w' W2.heap.size (fun _ => True) (.slice vB (GB (GA (bs, bad)).2).1.length cB) (GB (GA (bs, bad)).2).1 ∧ InTo w0 W2 p (GB (GA (bs, bad)).2).2 w' ∧ w'.cell? ⟨w1.heap.size, 0, none⟩ = some (.int .i64 (GA (bs, bad)).1.1) ∧ w'.cell? ⟨w1.heap.size, 1, none⟩ = some (.int .i64 (GA (bs, bad)).1.2) ∧ w'.cell? ⟨bb, 1, none⟩ = some (.func (.func g2) #[] cd) ∧ w'.heap[w.heap.size]? = some (.cells #[.int .i64 0, .int .i64 0, .slice none 0 0] 76 (0, 0)) by
    refine (HB.out.get W2.drew p A1 cc1 _ _ hI2d).mono ?_
    rintro r w' ⟨cs2, rfl, ⟨v, rfl, hR⟩, hT⟩
    obtain ⟨vB, cB, rfl⟩ := Kd.R_slice hR
    exact ⟨vB, cB, rfl, hR, hT, blk_cell (hT.2.blk ha (by omega) (by simp)) 0, blk_cell (hT.2.blk ha (by omega) (by simp)) 1, blk_cell (hT.2.blk hbd (by omega) (by simp)) 1, hT.2.blk hxd (by omega) (by simp)⟩)
  have hgb := HB.out.go2
  have hn1 : w.heap.size ≠ w1.heap.size := by omega
  have hn2 : w.heap.size ≠ bb := by omega
  have hn3 : w1.heap.size ≠ w.heap.size := by omega
  have hn4 : bb ≠ w.heap.size := by omega
  have HZ := Aside0.mk (And.intro hb2 ha)
  clear hxd hbd hI2d ha hb2
  go_region_held3 (fun w' => w'.cell? ⟨w1.heap.size, 0, none⟩ = some (.int .i64 (GA (bs, bad)).1.1) ∧ w'.cell? ⟨w1.heap.size, 1, none⟩ = some (.int .i64 (GA (bs, bad)).1.2) ∧ w'.cell? ⟨bb, 1, none⟩ = some (.func (.func g2) #[] cd)) (go_keep) (first
    | (go_at_fn g2; go_loud ((with_reducible refine HNR.out.mono ?_); rintro r w2 ⟨vB, cB, rfl, hR, hT, k0, k1, k2, hx2⟩; have HR := Aside0.mk hR; have HT2 := Aside0.mk hT; have HX2 := Aside0.mk hx2; have x0 := blk_cell hx2 0; have x1 := blk_cell hx2 1; have x2 := blk_cell hx2 2; have y0 := blkO_free hx2 0; have y1 := blkO_free hx2 1; have y2 := blkO_free hx2 2; clear hR hT hx2)))
  go_wp2_with fail
  refine bodyPost_ret (v := .agg #[.int .i64 (GA (bs, bad)).1.1, .int .i64 (GA (bs, bad)).1.2, .slice vB (GB (GA (bs, bad)).2).1.length cB]) (cell_res (g := w.heap.size) rfl rfl (blk_set (blk_set (blk_set HX2.out 0 _) 1 _) 2 _) Try.underlying76 rfl (by kernel_rfl)) rfl ⟨[.int .i64 (GA (bs, bad)).1.1, .int .i64 (GA (bs, bad)).1.2, .slice vB (GB (GA (bs, bad)).2).1.length cB], rfl, ⟨[.int .i64 (GA (bs, bad)).1.1, .int .i64 (GA (bs, bad)).1.2], [.slice vB (GB (GA (bs, bad)).2).1.length cB], rfl, ⟨[_], [_], rfl, rfl, rfl⟩, Kd.M_lower _ (by omega) (M_sets (M_sets (M_sets (show (Kd.slice 5 (Kd.int .u8)).M w2 W2.heap.size (fun _ => True) (GB (GA (bs, bad)).2).1 [.slice vB (GB (GA (bs, bad)).2).1.length cB] from ⟨_, rfl, HR.out⟩) w.heap.size 0 _ (by omega)) w.heap.size 1 _ (by omega)) w.heap.size 2 _ (by omega))⟩, ?_⟩
  have h4 : InTo w0 w p (GB (GA (bs, bad)).2).2 w2 := ⟨HT2.out.1, (((keep_alloc_row (KeepBut.refl w p none) _).trans HT.out.2 (.inl rfl)).trans HKW.out (.inl rfl)).trans HT2.out.2 (.inl rfl)⟩
  exact h4.past2 hp (Below.setCell (Below.setCell (Below.setCell (Below.refl _ _) (p := ⟨w.heap.size, 0, none⟩) (Nat.le_refl _) _) (p := ⟨w.heap.size, 1, none⟩) (Nat.le_refl _) _) (p := ⟨w.heap.size, 2, none⟩) (Nat.le_refl _) _) hB0
end Go.Proofs.Ytjkjpmfenillcaa.P
