import Derived.Test.YtjkjpmfenillcaaP0
import Derived.Outline
import Derived.Laws.BitsLemmas
import Derived.Laws.EntriesVeiled
import Derived.StillTailTactics
import Derived.WalkSpells
import Derived.Lib.SliceRun
/- codec: what is written, what is read: the inner functions' contracts; no statement of the seat. -/
set_option linter.unusedVariables false
set_option linter.unusedSimpArgs false
namespace Go.Proofs.Ytjkjpmfenillcaa.P
open Go.RowKit Go.Proofs.YtjkjpmfenillcaaW.PrintWords Go.Proofs.YtjkjpmfenillcaaW.PrintLast Go.Proofs.YtjkjpmfenillcaaW.PrintMore
/-- A block 'out' with what it owns. -/
structure OutOK (w : World) (B p : Nat) (v : Value) (bs : List Int) (e : Int) : Prop where
  le : B ≤ p
  blk : w.heap[p]? = some (.cells #[v, .int .i64 e] 147 (0, 0))
  own : Kd.R (Kd.int .u8) 5 w B (fun _ => True) v bs
/-- It has turned, and nothing else but it and what it owns. -/
def OutTo (w : World) (B p : Nat) (v : Value) (s : List Int × Int) (w' : World) : Prop :=
  ∃ v', OutOK w' B p v' s.1 s.2 ∧ KeepBut w w' p v.ownBlock ∧ (v'.ownBlock = v.ownBlock ∨ ∃ b, v'.ownBlock = some b ∧ w.heap.size ≤ b) ∧ Below B w w'
theorem OutTo.refl {w : World} {B p : Nat} {v : Value} {bs : List Int} {e : Int} (h : OutOK w B p v bs e) : OutTo w B p v (bs, e) w :=
  ⟨v, h, KeepBut.refl _ _ _, .inl rfl, Below.refl _ _⟩
theorem OutOK.set {w : World} {B p : Nat} {v : Value} {bs : List Int} {e : Int} (h : OutOK w B p v bs e) (e' : Int) : OutTo w B p v (bs, e') (w.setCell ⟨p, 1, none⟩ (.int .i64 e')) := by
  have hs := blk_set h.blk 1 (.int .i64 e')
  refine ⟨v, ⟨h.le, hs, Kd.R_set h.own h.blk (by intro q hq; simp [Kd.int, Kd.scalar] at hq; subst hq; decide) 1 _⟩, (KeepBut.refl _ _ _).set_ 1 _, .inl rfl, (Below.refl _ _).setCell (p := ⟨p, 1, none⟩) h.le _⟩
theorem blkO_free {t : TypeId} {w : World} {g : Nat} {cs : Array Value} (h : w.heap[g]? = some (.cells cs t (0, 0))) (j : Nat) : w.frozen? ⟨g, j, none⟩ = false := by simp [World.frozen?, h]
/-- What 'put' makes of it. -/
def putS (s : List Int × Int) (ys : List Int) : List Int × Int := if s.2 ≠ 0 then s else if (ys.length : Int) > 1048576 - s.1.length then (s.1, 3) else (s.1 ++ ys, 0)
set_option maxRecDepth 100000 in
set_option maxHeartbeats 2000000 in
theorem put_run (B p : Nat) (v : Value) (bs : List Int) (e : Int) (A : Option Addr) (c : Nat) (ys : List Int) (w : World) (h : OutOK w B p v bs e) (hC : Kd.C (Kd.int .u8) w A ys.length ys) (hB : B ≤ w.heap.size) (hbs : bs.length ≤ 1048576) :
    Calls Try.prog 85 #[.pointer (some ⟨p, 0, none⟩), .slice A ys.length c] w fun r w' => r = .returned (.tuple #[]) ∧ OutTo w B p v (putS (bs, e) ys) w' := by
  have HO := Aside0.mk h
  have c1 : w.cell? ⟨p, 1, none⟩ = some (.int .i64 e) := blk_cell h.blk 1
  have c0 : w.cell? ⟨p, 0, none⟩ = some v := blk_cell h.blk 0
  have f1 := blkO_free h.blk 1
  have f0 := blkO_free h.blk 0
  have HC := Aside0.mk hC
  have hm := Kd.C_max hC
  obtain ⟨A0, c0', hv⟩ := Kd.R_slice h.own
  subst hv
  clear h hC
  by_cases he : e = 0
  · subst he
    by_cases hl : (ys.length : Int) > 1048576 - bs.length
    · have hs : putS (bs, 0) ys = (bs, 3) := by unfold putS; rw [if_neg (by simp), if_pos hl]
      rw [hs]
      clear hs
      have hl' : (1048576 - (bs.length : Int)) < ys.length := hl
      go_enter Try.func85, Try.ntmps85
      go_wp2_with fail
      go_end0
      exact ⟨rfl, HO.out.set 3⟩
    · have hs : putS (bs, 0) ys = (bs ++ ys, 0) := by unfold putS; rw [if_neg (by simp), if_neg hl]
      rw [hs]
      clear hs
      have hl' : (ys.length : Int) ≤ 1048576 - (bs.length : Int) := by omega
      go_enter Try.func85, Try.ntmps85
      go_wp2_with (refine Kd.R_append_rows (Kd.int .u8) (Rr := fun x cs => cs = [.int .u8 x]) (w0 := w) B rfl (.tmp 8) (.tmp 9) 22 5 (.int .u8 0) 1 rfl Try.underlying22 (by kernel_rfl) rfl (by decide) (by decide) (.slice A0 bs.length c0') bs ys A ys.length c (fun _ => True) (fun _ => False) rfl rfl HO.out.own HC.out (fun _ _ h => h) (fun _ hk => hk.elim) (fun _ _ => trivial) (Below.refl _ _) hB (by omega) ?_; intro v1 w1 ho hb1 hg hat; obtain ⟨A1, c1', hv1⟩ := Kd.R_slice ho; subst hv1; simp only [List.length_append] at ho hat; have hblk := blk_grown HO.out.blk hg (Kd.R_ne HO.out.own HO.out.blk (by decide)); have d0 : w1.cell? ⟨p, 0, none⟩ = some (.slice A0 bs.length c0') := blk_cell hblk 0; have g0 := blkO_free hblk 0; have HX := Aside0.mk (And.intro ho (And.intro hb1 (And.intro hg (And.intro hat hblk)))); clear ho hb1 hg hat hblk)
      go_end0
      obtain ⟨ho, hb1, hg, hat, hblk⟩ := HX.out
      exact ⟨rfl, _, ⟨HO.out.le, blk_set hblk 0 _, Kd.R_set ho hblk (by intro q hq; simp [Kd.int, Kd.scalar] at hq; subst hq; decide) 0 _⟩, (KeepBut.of_grown hg p).set_ 0 _, hat, hb1.setCell (p := ⟨p, 0, none⟩) HO.out.le _⟩
  · have hs : putS (bs, e) ys = (bs, e) := by unfold putS; rw [if_pos (by simpa using he)]
    rw [hs]
    clear hs
    have he1 : (e == 0) = false := by simpa using he
    have he2 : (e != 0) = true := by simpa using he
    go_enter Try.func85, Try.ntmps85
    go_wp2_with fail
    go_end0
    exact ⟨rfl, OutTo.refl HO.out⟩
theorem OutTo.trans {w w1 w2 : World} {B p : Nat} {v v1 : Value} {s : List Int × Int} (h1 : KeepBut w w1 p v.ownBlock) (ha : v1.ownBlock = v.ownBlock ∨ ∃ b, v1.ownBlock = some b ∧ w.heap.size ≤ b) (hb : Below B w w1) (hs : B ≤ w1.heap.size) (h2 : OutTo w1 B p v1 s w2) : OutTo w B p v s w2 := by
  obtain ⟨v2, ho, hk, hat, hb2⟩ := h2
  refine ⟨v2, ho, h1.trans hk ?_, ?_, hb.trans hb2⟩
  · rcases ha with ha | ⟨b, hb1, hb2⟩
    · exact .inl ha
    · exact .inr ⟨b, hb1, hb2⟩
  · rcases hat with hat | ⟨b, hb1, hb2⟩
    · rcases ha with ha | ⟨b, hb1, hb2⟩
      · exact .inl (hat.trans ha)
      · exact .inr ⟨b, hat.trans hb1, hb2⟩
    · exact .inr ⟨b, hb1, Nat.le_trans h1.1 hb2⟩
theorem OutTo.bind {w w1 w2 : World} {B p : Nat} {v : Value} {s s' : List Int × Int} (hs : B ≤ w.heap.size) (h1 : OutTo w B p v s w1) (h2 : ∀ v1, OutOK w1 B p v1 s.1 s.2 → OutTo w1 B p v1 s' w2) : OutTo w B p v s' w2 := by
  obtain ⟨v1, ho, hk, hat, hb⟩ := h1
  exact OutTo.trans hk hat hb (Nat.le_trans hs hk.1) (h2 v1 ho)
/-- A number's lowest bytes. -/
def leB (x : Int) (n : Nat) : List Int := (List.range n).map fun i => x % 18446744073709551616 / 2 ^ (8 * i) % 256
theorem leB_length (x : Int) (n : Nat) : (leB x n).length = n := by simp [leB]
theorem leB_succ (x : Int) (n : Nat) : leB x (n + 1) = leB x n ++ [x % 18446744073709551616 / 2 ^ (8 * n) % 256] := by simp [leB, List.range_succ]
/-- An array of eight bytes, filled from its beginning. -/
def arr8 (xs : List Int) : Array Value := ((xs ++ List.replicate (8 - xs.length) 0).map (Value.int .u8)).toArray
theorem arr8_set (xs : List Int) (y : Int) (h : xs.length < 8) : (arr8 xs).setIfInBounds xs.length (.int .u8 y) = arr8 (xs ++ [y]) := by
  unfold arr8
  rw [List.setIfInBounds_toArray]
  congr 1
  obtain ⟨m, hm⟩ : ∃ m, 8 - xs.length = m + 1 := ⟨8 - xs.length - 1, by omega⟩
  rw [hm, List.replicate_succ, List.map_append, List.set_append, if_neg (by simp)]
  simp only [List.length_map, Nat.sub_self, List.map_cons, List.set_cons_zero, List.length_append, List.length_singleton, List.map_append, List.append_assoc, List.map_nil, List.singleton_append]
  rw [show 8 - (xs.length + 1) = m by omega]
theorem arr8_C (w : World) (g : Nat) (t : TypeId) (xs : List Int) (h : w.heap[g]? = some (.cells (arr8 xs) t (0, 0))) (hn : xs.length ≤ 8) : Kd.C (Kd.int .u8) w (some ⟨g, 0, none⟩) xs.length xs := by
  refine Kd.C_of_reads (h1 := fun _ => rfl) (d := (0 : Int)) ⟨rfl, by omega, fun _ => ⟨_, rfl, fun j hj => ?_⟩⟩
  rw [add_plain, blk_cell h j]
  unfold arr8
  rw [List.getElem?_toArray, List.getElem?_map, List.getElem?_append_left hj, List.getD_eq_getElem?_getD, List.getElem?_eq_getElem hj]
  rfl
def lowS (s : List Int × Int) (ok : Bool) (x : Int) (n : Nat) : List Int × Int := putS (if s.2 = 0 ∧ ok = false then (s.1, 1) else s) (leB x n)
theorem OutOK.set' {w : World} {B p : Nat} {v : Value} {bs : List Int} {e : Int} (h : OutOK w B p v bs e) (e' : Int) : OutOK (w.setCell ⟨p, 1, none⟩ (.int .i64 e')) B p v bs e' :=
  ⟨h.le, blk_set h.blk 1 (.int .i64 e'), Kd.R_set h.own h.blk (by intro q hq; simp [Kd.int, Kd.scalar] at hq; subst hq; decide) 1 _⟩
theorem OutOK.keep {w w1 : World} {B p g : Nat} {v : Value} {bs : List Int} {e : Int} (h : OutOK w B p v bs e) (hk : KeepBut w w1 g none) (hg : w.heap.size ≤ g) : OutOK w1 B p v bs e :=
  ⟨h.le, hk.blk h.blk (by have := blk_lt h.blk; omega) (by simp), Kd.R_mono (Kd.R_keep (Kd.R_bound h.own) hk (fun k hk => by have := hk.2.2.1; omega)) (fun _ hk => hk.1)⟩
theorem arr8_len : Try.prog.arrayLen 194 = 8 := by kernel_rfl
theorem arr8_cut (g : Nat) (k : Nat) (hk : k ≤ 8) (W : World) : (Instr.sliceAt 194 (.pointer (some ⟨g, 0, none⟩)) none (some (.int .i64 (k : Int))) none).run Try.prog W = .ok (.slice (some ⟨g, 0, none⟩) k 8) W := by
  have hu : Try.prog.underlying 194 = some (.array (Try.prog.arrayLen 194) (Try.prog.elem 194)) := by kernel_rfl
  rw [run_sliceAt_array_h W 194 ⟨g, 0, none⟩ hu .i64 (k : Int) (by omega) (by rw [arr8_len]; omega)]
  have hz : (sizeOf (Try.prog.elem 194)).run Try.prog W = .ok 1 W := by kernel_rfl
  rw [hz, arr8_len]
  simp [slicedAt, Result.andThen, Addr.add]
theorem keep_past {w w1 w2 : World} {p g : Nat} {row : Option Nat} (h : KeepBut w w1 p row) (k : KeepBut w1 w2 g none) (hg : w.heap.size ≤ g) : KeepBut w w2 p row :=
  ⟨Nat.le_trans h.1 k.1, fun i hi h1 h2 => (k.2 i (Nat.lt_of_lt_of_le hi h.1) (by omega) (by simp)).trans (h.2 i hi h1 h2)⟩
theorem OutOK.alloc {w : World} {B p : Nat} {v : Value} {bs : List Int} {e : Int} (h : OutOK w B p v bs e) (o : Obj) : OutOK (w.alloc o) B p v bs e :=
  ⟨h.le, blk_alloc h.blk o, Kd.R_alloc h.own o⟩
set_option maxRecDepth 100000 in
set_option maxHeartbeats 4000000 in
theorem low_run (B p : Nat) (v : Value) (bs : List Int) (e : Int) (ok : Bool) (x : Int) (n : Nat) (hn : n ≤ 8) (w : World) (h : OutOK w B p v bs e) (hB : B ≤ w.heap.size) (hbs : bs.length ≤ 1048576) :
    Calls Try.prog 106 #[.pointer (some ⟨p, 0, none⟩), .bool ok, .int .i64 x, .int .i64 n] w fun r w' => r = .returned (.tuple #[]) ∧ OutTo w B p v (lowS (bs, e) ok x n) w' := by
  have HO := Aside0.mk h
  have c1 : w.cell? ⟨p, 1, none⟩ = some (.int .i64 e) := blk_cell h.blk 1
  have f1 := blkO_free h.blk 1
  clear h
  by_cases hc : e = 0 ∧ ok = false
  · obtain ⟨rfl, rfl⟩ := hc
    go_enter Try.func106, Try.ntmps106
    go_wp2_with fail
    obtain ⟨W1, hW1⟩ : ∃ W1, W1 = w.setCell ⟨p, 1, none⟩ (.int .i64 1) := ⟨_, rfl⟩
    rw [← hW1]
    have HO1 := Aside0.mk (show OutOK W1 B p v bs 1 by rw [hW1]; exact HO.out.set' 1)
    have HK1 := Aside0.mk (show KeepBut w W1 p v.ownBlock ∧ Below B w W1 by rw [hW1]; exact ⟨(KeepBut.refl _ _ _).set_ 1 _, (Below.refl _ _).setCell (p := ⟨p, 1, none⟩) HO.out.le _⟩)
    have hz1 : W1.heap.size = w.heap.size := by rw [hW1]; simp
    clear hW1 c1 f1
    obtain ⟨W2, hW2⟩ : ∃ W2, W2 = W1.alloc (.cells #[.int .u8 0, .int .u8 0, .int .u8 0, .int .u8 0, .int .u8 0, .int .u8 0, .int .u8 0, .int .u8 0] 194) := ⟨_, rfl⟩
    rw [← hW2]
    have hb2 : W2.heap[w.heap.size]? = some (.cells (arr8 (leB x 0)) 194 (0, 0)) := by rw [hW2, ← hz1]; exact blk_new W1 _
    have hz2 : W2.heap.size = w.heap.size + 1 := by rw [hW2, World.size_alloc, hz1]
    have HO2 := Aside0.mk (show OutOK W2 B p v bs 1 by rw [hW2]; exact OutOK.alloc HO1.out _)
    have HK2 := Aside0.mk (show KeepBut W1 W2 w.heap.size none ∧ Below B W1 W2 by rw [hW2]; exact ⟨keep_alloc (KeepBut.refl _ _ _) _, (Below.refl _ _).alloc (by omega) _⟩)
    have HB2 := Aside0.mk hb2
    have HZ2 := Aside0.mk hz2
    clear hW2 hb2 hz2
    go_loopw [23] (fun v23 wr => ∃ k : Nat, v23 = .int .i64 k ∧ k ≤ n ∧ wr.heap[w.heap.size]? = some (.cells (arr8 (leB x k)) 194 (0, 0)) ∧ KeepBut W2 wr w.heap.size none ∧ Below (w.heap.size) W2 wr) (fun v23 _ => n - (intOf v23).toNat)
    case atStart => exact ⟨0, rfl, Nat.zero_le _, HB2.out, KeepBut.refl _ _ _, Below.refl _ _⟩
    case round =>
      obtain ⟨k, rfl, hk, hbk, hkk, hbw⟩ := hrel
      have HBK := Aside0.mk hbk
      have HKK := Aside0.mk (And.intro hkk hbw)
      have fk := blkO_free hbk k
      clear hbk hkk hbw
      by_cases hlt : k < n
      · have ck : wr.cell? ⟨w.heap.size, k, none⟩ = some (.int .u8 0) := by
          rw [blk_cell HBK.out k]
          unfold arr8
          rw [List.getElem?_toArray, List.getElem?_map, List.getElem?_append_right (by rw [leB_length]; omega), leB_length, Nat.sub_self, List.getElem?_replicate, if_pos (by omega)]
          rfl
        go_wp2_with fail
        go_roundw
        case rel =>
          refine ⟨k + 1, by go_num, by omega, ?_, HKK.out.1.set_ k _, HKK.out.2.setCell (p := ⟨w.heap.size, k, none⟩) (Nat.le_refl _) _⟩
          have h := blk_set HBK.out k (.int .u8 (x % 18446744073709551616 / 2 ^ (8 * k) % 256))
          have h8 := arr8_set (leB x k) (x % 18446744073709551616 / 2 ^ (8 * k) % 256) (by rw [leB_length]; omega)
          rw [leB_length] at h8
          rw [h8, ← leB_succ] at h
          exact h
        case measure => simp [intOf]; omega
      · obtain rfl : k = n := by omega
        have hC := arr8_C wr w.heap.size _ _ HBK.out (by rw [leB_length]; omega)
        have hK3 : KeepBut W1 wr w.heap.size none := HK2.out.1.trans HKK.out.1 (.inl rfl)
        have hO3 := HO1.out.keep hK3 (by omega)
        have hB3 : Below B w wr := (HK1.out.2.trans HK2.out.2).trans (HKK.out.2.mono hB)
        have HF := Aside0.mk (And.intro hO3 (And.intro hC (And.intro hK3 hB3)))
        have hs3 : w.heap.size ≤ wr.heap.size := by have h1 := HK1.out.1.1; have h2 := hK3.1; omega
        clear hC hK3 hO3 hB3
        have hcut := arr8_cut w.heap.size k hn
        go_wp2_with fail
        have hll := leB_length x k
        have hput := put_run B p v bs 1 (some ⟨w.heap.size, 0, none⟩) 8 (leB x k) wr HF.out.1 HF.out.2.1 (by omega) hbs
        rw [hll] at hput
        refine hput.mono ?_
        rintro r w' ⟨rfl, hT⟩
        have HT := Aside0.mk hT
        clear hput hT hll
        go_wp2_with fail
        go_end0
        refine ⟨rfl, ?_⟩
        have he : lowS (bs, 0) false x k = putS (bs, 1) (leB x k) := by unfold lowS; rw [if_pos ⟨rfl, rfl⟩]
        rw [he]
        exact OutTo.trans (keep_past HK1.out.1 HF.out.2.2.1 (Nat.le_refl _)) (.inl rfl) HF.out.2.2.2 (by omega) HT.out
  · have HCC := Aside0.mk hc
    obtain ⟨W1, hW1⟩ : ∃ W1, W1 = w := ⟨_, rfl⟩
    have HO1 := Aside0.mk (show OutOK W1 B p v bs e by rw [hW1]; exact HO.out)
    have HK1 := Aside0.mk (show KeepBut w W1 p v.ownBlock ∧ Below B w W1 by rw [hW1]; exact ⟨KeepBut.refl _ _ _, Below.refl _ _⟩)
    have hz1 : W1.heap.size = w.heap.size := by rw [hW1]
    go_enter Try.func106, Try.ntmps106
    by_cases he : e = 0
    · have hok : ok = true := by cases ok <;> simp_all
      subst he hok
      go_wp2_with fail
      rw [← hW1]
      obtain ⟨W2, hW2⟩ : ∃ W2, W2 = W1.alloc (.cells #[.int .u8 0, .int .u8 0, .int .u8 0, .int .u8 0, .int .u8 0, .int .u8 0, .int .u8 0, .int .u8 0] 194) := ⟨_, rfl⟩
      rw [← hW2]
      have hb2 : W2.heap[w.heap.size]? = some (.cells (arr8 (leB x 0)) 194 (0, 0)) := by rw [hW2, ← hz1]; exact blk_new W1 _
      have hz2 : W2.heap.size = w.heap.size + 1 := by rw [hW2, World.size_alloc, hz1]
      have HO2 := Aside0.mk (show OutOK W2 B p v bs 0 by rw [hW2]; exact OutOK.alloc HO1.out _)
      have HK2 := Aside0.mk (show KeepBut W1 W2 w.heap.size none ∧ Below B W1 W2 by rw [hW2]; exact ⟨keep_alloc (KeepBut.refl _ _ _) _, (Below.refl _ _).alloc (by omega) _⟩)
      have HB2 := Aside0.mk hb2
      have HZ2 := Aside0.mk hz2
      clear hW2 hb2 hz2
      go_loopw [23] (fun v23 wr => ∃ k : Nat, v23 = .int .i64 k ∧ k ≤ n ∧ wr.heap[w.heap.size]? = some (.cells (arr8 (leB x k)) 194 (0, 0)) ∧ KeepBut W2 wr w.heap.size none ∧ Below (w.heap.size) W2 wr) (fun v23 _ => n - (intOf v23).toNat)
      case atStart => exact ⟨0, rfl, Nat.zero_le _, HB2.out, KeepBut.refl _ _ _, Below.refl _ _⟩
      case round =>
        obtain ⟨k, rfl, hk, hbk, hkk, hbw⟩ := hrel
        have HBK := Aside0.mk hbk
        have HKK := Aside0.mk (And.intro hkk hbw)
        have fk := blkO_free hbk k
        clear hbk hkk hbw
        by_cases hlt : k < n
        · have ck : wr.cell? ⟨w.heap.size, k, none⟩ = some (.int .u8 0) := by
            rw [blk_cell HBK.out k]
            unfold arr8
            rw [List.getElem?_toArray, List.getElem?_map, List.getElem?_append_right (by rw [leB_length]; omega), leB_length, Nat.sub_self, List.getElem?_replicate, if_pos (by omega)]
            rfl
          go_wp2_with fail
          go_roundw
          case rel =>
            refine ⟨k + 1, by go_num, by omega, ?_, HKK.out.1.set_ k _, HKK.out.2.setCell (p := ⟨w.heap.size, k, none⟩) (Nat.le_refl _) _⟩
            have h := blk_set HBK.out k (.int .u8 (x % 18446744073709551616 / 2 ^ (8 * k) % 256))
            have h8 := arr8_set (leB x k) (x % 18446744073709551616 / 2 ^ (8 * k) % 256) (by rw [leB_length]; omega)
            rw [leB_length] at h8
            rw [h8, ← leB_succ] at h
            exact h
          case measure => simp [intOf]; omega
        · obtain rfl : k = n := by omega
          have hC := arr8_C wr w.heap.size _ _ HBK.out (by rw [leB_length]; omega)
          have hK3 : KeepBut W1 wr w.heap.size none := HK2.out.1.trans HKK.out.1 (.inl rfl)
          have hO3 := HO1.out.keep hK3 (by omega)
          have hB3 : Below B w wr := (HK1.out.2.trans HK2.out.2).trans (HKK.out.2.mono hB)
          have HF := Aside0.mk (And.intro hO3 (And.intro hC (And.intro hK3 hB3)))
          have hs3 : w.heap.size ≤ wr.heap.size := by have h1 := HK1.out.1.1; have h2 := hK3.1; omega
          clear hC hK3 hO3 hB3
          have hcut := arr8_cut w.heap.size k hn
          go_wp2_with fail
          have hll := leB_length x k
          have hput := put_run B p v bs 0 (some ⟨w.heap.size, 0, none⟩) 8 (leB x k) wr HF.out.1 HF.out.2.1 (by omega) hbs
          rw [hll] at hput
          refine hput.mono ?_
          rintro r w' ⟨rfl, hT⟩
          have HT := Aside0.mk hT
          clear hput hT hll
          go_wp2_with fail
          go_end0
          refine ⟨rfl, ?_⟩
          have he : lowS (bs, 0) true x k = putS (bs, 0) (leB x k) := by unfold lowS; rw [if_neg (by simp)]
          rw [he]
          exact OutTo.trans (keep_past HK1.out.1 HF.out.2.2.1 (Nat.le_refl _)) (.inl rfl) HF.out.2.2.2 (by omega) HT.out
    · have he1 : (e == 0) = false := by simpa using he
      go_wp2_with fail
      rw [← hW1]
      obtain ⟨W2, hW2⟩ : ∃ W2, W2 = W1.alloc (.cells #[.int .u8 0, .int .u8 0, .int .u8 0, .int .u8 0, .int .u8 0, .int .u8 0, .int .u8 0, .int .u8 0] 194) := ⟨_, rfl⟩
      rw [← hW2]
      have hb2 : W2.heap[w.heap.size]? = some (.cells (arr8 (leB x 0)) 194 (0, 0)) := by rw [hW2, ← hz1]; exact blk_new W1 _
      have hz2 : W2.heap.size = w.heap.size + 1 := by rw [hW2, World.size_alloc, hz1]
      have HO2 := Aside0.mk (show OutOK W2 B p v bs e by rw [hW2]; exact OutOK.alloc HO1.out _)
      have HK2 := Aside0.mk (show KeepBut W1 W2 w.heap.size none ∧ Below B W1 W2 by rw [hW2]; exact ⟨keep_alloc (KeepBut.refl _ _ _) _, (Below.refl _ _).alloc (by omega) _⟩)
      have HB2 := Aside0.mk hb2
      have HZ2 := Aside0.mk hz2
      clear hW2 hb2 hz2
      go_loopw [23] (fun v23 wr => ∃ k : Nat, v23 = .int .i64 k ∧ k ≤ n ∧ wr.heap[w.heap.size]? = some (.cells (arr8 (leB x k)) 194 (0, 0)) ∧ KeepBut W2 wr w.heap.size none ∧ Below (w.heap.size) W2 wr) (fun v23 _ => n - (intOf v23).toNat)
      case atStart => exact ⟨0, rfl, Nat.zero_le _, HB2.out, KeepBut.refl _ _ _, Below.refl _ _⟩
      case round =>
        obtain ⟨k, rfl, hk, hbk, hkk, hbw⟩ := hrel
        have HBK := Aside0.mk hbk
        have HKK := Aside0.mk (And.intro hkk hbw)
        have fk := blkO_free hbk k
        clear hbk hkk hbw
        by_cases hlt : k < n
        · have ck : wr.cell? ⟨w.heap.size, k, none⟩ = some (.int .u8 0) := by
            rw [blk_cell HBK.out k]
            unfold arr8
            rw [List.getElem?_toArray, List.getElem?_map, List.getElem?_append_right (by rw [leB_length]; omega), leB_length, Nat.sub_self, List.getElem?_replicate, if_pos (by omega)]
            rfl
          go_wp2_with fail
          go_roundw
          case rel =>
            refine ⟨k + 1, by go_num, by omega, ?_, HKK.out.1.set_ k _, HKK.out.2.setCell (p := ⟨w.heap.size, k, none⟩) (Nat.le_refl _) _⟩
            have h := blk_set HBK.out k (.int .u8 (x % 18446744073709551616 / 2 ^ (8 * k) % 256))
            have h8 := arr8_set (leB x k) (x % 18446744073709551616 / 2 ^ (8 * k) % 256) (by rw [leB_length]; omega)
            rw [leB_length] at h8
            rw [h8, ← leB_succ] at h
            exact h
          case measure => simp [intOf]; omega
        · obtain rfl : k = n := by omega
          have hC := arr8_C wr w.heap.size _ _ HBK.out (by rw [leB_length]; omega)
          have hK3 : KeepBut W1 wr w.heap.size none := HK2.out.1.trans HKK.out.1 (.inl rfl)
          have hO3 := HO1.out.keep hK3 (by omega)
          have hB3 : Below B w wr := (HK1.out.2.trans HK2.out.2).trans (HKK.out.2.mono hB)
          have HF := Aside0.mk (And.intro hO3 (And.intro hC (And.intro hK3 hB3)))
          have hs3 : w.heap.size ≤ wr.heap.size := by have h1 := HK1.out.1.1; have h2 := hK3.1; omega
          clear hC hK3 hO3 hB3
          have hcut := arr8_cut w.heap.size k hn
          go_wp2_with fail
          have hll := leB_length x k
          have hput := put_run B p v bs e (some ⟨w.heap.size, 0, none⟩) 8 (leB x k) wr HF.out.1 HF.out.2.1 (by omega) hbs
          rw [hll] at hput
          refine hput.mono ?_
          rintro r w' ⟨rfl, hT⟩
          have HT := Aside0.mk hT
          clear hput hT hll
          go_wp2_with fail
          go_end0
          refine ⟨rfl, ?_⟩
          have he : lowS (bs, e) ok x k = putS (bs, e) (leB x k) := by unfold lowS; rw [if_neg (by simp [he])]
          rw [he]
          exact OutTo.trans (keep_past HK1.out.1 HF.out.2.2.1 (Nat.le_refl _)) (.inl rfl) HF.out.2.2.2 (by omega) HT.out

end Go.Proofs.Ytjkjpmfenillcaa.P
/- codec: what is read: the inner functions' contracts; no statement of the seat. -/
set_option linter.unusedVariables false
set_option linter.unusedSimpArgs false
namespace Go.Proofs.Ytjkjpmfenillcaa.P
open Go.RowKit Go.Proofs.YtjkjpmfenillcaaW.PrintWords Go.Proofs.YtjkjpmfenillcaaW.PrintLast Go.Proofs.YtjkjpmfenillcaaW.PrintMore
/-- Bytes. -/
def okB (b : List Int) : Prop := ∀ x ∈ b, 0 ≤ x ∧ x < 256
theorem okB.drop {b : List Int} (h : okB b) (i : Nat) : okB (b.drop i) := fun y hy => h y (List.mem_of_mem_drop hy)
theorem okB.take {b : List Int} (h : okB b) (i : Nat) : okB (b.take i) := fun y hy => h y (List.mem_of_mem_take hy)
def okL (b : List Int) : Prop := okB b ∧ b.length ≤ 140737488355328
theorem okL.drop {b : List Int} (h : okL b) (i : Nat) : okL (b.drop i) := ⟨h.1.drop i, by rw [List.length_drop]; have := h.2; omega⟩
theorem okL.take {b : List Int} (h : okL b) (i : Nat) : okL (b.take i) := ⟨h.1.take i, by rw [List.length_take]; have := h.2; omega⟩
/-- A block 'in'; what it reads lay ahead of it. -/
structure InOK (w0 w : World) (p : Nat) (A : Option Addr) (c : Nat) (bs : List Int) (bad : Bool) : Prop where
  le : w0.heap.size ≤ p
  blk : w.heap[p]? = some (.cells #[.slice A bs.length c, .bool bad] 165 (0, 0))
  rd : Kd.C (Kd.int .u8) w0 A bs.length bs
  cap : bs.length ≤ c
  ok : okL bs
  lo : Below w0.heap.size w0 w
def InTo (w0 w : World) (p : Nat) (s : List Int × Bool) (w' : World) : Prop := (∃ A c, InOK w0 w' p A c s.1 s.2) ∧ KeepBut w w' p none
theorem InOK.setBad {w0 w : World} {p : Nat} {A : Option Addr} {c : Nat} {bs : List Int} {bad : Bool} (h : InOK w0 w p A c bs bad) (b' : Bool) : InTo w0 w p (bs, b') (w.setCell ⟨p, 1, none⟩ (.bool b')) :=
  ⟨⟨A, c, h.le, blk_set h.blk 1 _, h.rd, h.cap, h.ok, h.lo.setCell (p := ⟨p, 1, none⟩) h.le _⟩, (KeepBut.refl _ _ _).set_ 1 _⟩
theorem InTo.refl {w0 w : World} {p : Nat} {A : Option Addr} {c : Nat} {bs : List Int} {bad : Bool} (h : InOK w0 w p A c bs bad) : InTo w0 w p (bs, bad) w := ⟨⟨A, c, h⟩, KeepBut.refl _ _ _⟩
theorem InTo.bind {w0 w w1 w2 : World} {p : Nat} {s s' : List Int × Bool} (h1 : InTo w0 w p s w1) (h2 : InTo w0 w1 p s' w2) : InTo w0 w p s' w2 := ⟨h2.1, h1.2.trans h2.2 (.inl rfl)⟩
def takeS (s : List Int × Bool) (n : Int) : List Int × List Int × Bool := if s.2 = true ∨ n < 0 ∨ n > s.1.length then ([], s.1, true) else (s.1.take n.toNat, s.1.drop n.toNat, false)
set_option maxRecDepth 100000 in
set_option maxHeartbeats 4000000 in
theorem take_run (w0 w : World) (p : Nat) (A : Option Addr) (c : Nat) (bs : List Int) (bad : Bool) (n : Int) (h : InOK w0 w p A c bs bad) :
    Calls Try.prog 88 #[.pointer (some ⟨p, 0, none⟩), .int .i64 n] w fun r w' => ∃ A1 c1, r = .returned (.slice A1 (takeS (bs, bad) n).1.length c1) ∧ Kd.C (Kd.int .u8) w0 A1 (takeS (bs, bad) n).1.length (takeS (bs, bad) n).1 ∧ (takeS (bs, bad) n).1.length ≤ c1 ∧ InTo w0 w p (takeS (bs, bad) n).2 w' := by
  have HI := Aside0.mk h
  have c0 : w.cell? ⟨p, 0, none⟩ = some (.slice A bs.length c) := blk_cell h.blk 0
  have c1 : w.cell? ⟨p, 1, none⟩ = some (.bool bad) := blk_cell h.blk 1
  have f0 := blkO_free h.blk 0
  have f1 := blkO_free h.blk 1
  have hmx := Kd.C_max h.rd
  clear h
  by_cases hb : bad = true
  · subst hb
    have hs : takeS (bs, true) n = ([], bs, true) := by unfold takeS; rw [if_pos (.inl rfl)]
    rw [hs]
    clear hs
    go_enter Try.func88, Try.ntmps88
    go_wp2_with fail
    go_ret
    exact ⟨none, 0, rfl, Kd.C_nil _ _, by simp, HI.out.setBad true⟩
  · obtain rfl : bad = false := by cases bad <;> simp_all
    clear hb
    by_cases h0 : n < 0
    · have hs : takeS (bs, false) n = ([], bs, true) := by unfold takeS; rw [if_pos (.inr (.inl h0))]
      rw [hs]
      clear hs
      go_enter Try.func88, Try.ntmps88
      go_wp2_with fail
      go_ret
      exact ⟨none, 0, rfl, Kd.C_nil _ _, by simp, HI.out.setBad true⟩
    · by_cases h1 : n > bs.length
      · have hs : takeS (bs, false) n = ([], bs, true) := by unfold takeS; rw [if_pos (.inr (.inr h1))]
        rw [hs]
        clear hs
        have h1' : (bs.length : Int) < n := h1
        have h0' : 0 ≤ n := by omega
        clear h0 h1
        go_enter Try.func88, Try.ntmps88
        go_wp2_with fail
        go_ret
        exact ⟨none, 0, rfl, Kd.C_nil _ _, by simp, HI.out.setBad true⟩
      · have hs : takeS (bs, false) n = (bs.take n.toNat, bs.drop n.toNat, false) := by unfold takeS; rw [if_neg (by simp only [Bool.false_eq_true, false_or, not_or]; omega)]
        rw [hs]
        clear hs
        have h1' : n ≤ (bs.length : Int) := by omega
        have h0' : 0 ≤ n := by omega
        obtain ⟨i0, hi0, _, hs0, _⟩ := info_parts (show (Try.prog.info? 5).map (fun i => (i.zero, i.size, i.bytes)) = some (some (.int .u8 0), 1, 1) by kernel_rfl)
        obtain ⟨ht, htr, htl⟩ := print_take_of (P := Try.prog) (Value.int .u8) 0 22 5 .i64 Try.underlying22 hi0 hs0 A c bs n h0' h1' HI.out.cap
        obtain ⟨A', hd, hdr, hdl⟩ := print_drop_of (P := Try.prog) (Value.int .u8) 0 22 5 .i64 Try.underlying22 hi0 hs0 A c bs n h0' h1' HI.out.cap
        have HT := Aside0.mk (htr w0 (Kd.reads_of_C HI.out.rd))
        have HD := Aside0.mk (hdr w0 (Kd.reads_of_C HI.out.rd))
        have HL := Aside0.mk htl
        have HDL := Aside0.mk hdl
        clear hi0 hs0 htr hdr h0 h1 htl hdl
        go_enter Try.func88, Try.ntmps88
        go_wp2_with fail
        go_ret
        have e1 : (bs.take n.toNat).length = n.toNat := by rw [List.length_take]; omega
        refine ⟨A, c, by rw [show (List.take n.toNat bs, List.drop n.toNat bs, false).1.length = n.toNat from e1]; rfl, Kd.C_of_reads (h1 := fun _ => rfl) HT.out, HL.out, ⟨A', c - n.toNat, HI.out.le, ?_, Kd.C_of_reads (h1 := fun _ => rfl) HD.out, HDL.out, HI.out.ok.drop _, HI.out.lo.setCell (p := ⟨p, 0, none⟩) HI.out.le _⟩, (KeepBut.refl _ _ _).set_ 0 _⟩
        have hb := blk_set HI.out.blk 0 (.slice A' (bs.length - n.toNat) (c - n.toNat))
        rw [← List.length_drop] at hb
        rw [← List.length_drop]
        exact hb
/-- What bytes are, the lowest first. -/
def leN : List Int → Int
  | [] => 0
  | b :: l => b + 256 * leN l
theorem leN_range : ∀ (l : List Int), okB l → 0 ≤ leN l ∧ leN l < 256 ^ l.length
  | [], _ => by simp [leN]
  | b :: l, h => by
    have h1 := leN_range l (fun y hy => h y (List.mem_cons_of_mem _ hy))
    have h2 := h b List.mem_cons_self
    rw [leN, List.length_cons, Int.pow_succ]
    omega
theorem leN_snoc : ∀ (l : List Int) (b : Int), leN (l ++ [b]) = leN l + b * 256 ^ l.length
  | [], b => by simp [leN]
  | a :: l, b => by
    rw [List.cons_append, leN, leN_snoc l b, leN, List.length_cons, Int.pow_succ]
    rw [Int.mul_add, Int.mul_comm (256 ^ l.length) 256, ← Int.mul_assoc, ← Int.mul_assoc, Int.mul_comm b 256]
    omega
theorem pow8 (k : Nat) : (256 : Int) ^ k = 2 ^ (8 * k) := by rw [Int.pow_mul]; rfl
/-- A byte more, or-ed in. -/
theorem leN_or (l : List Int) (b : Int) (hl : okB l) (h0 : 0 ≤ b) (h1 : b < 256) (hk : l.length < 8) : Go.bits .or .u64 (leN l) (b * 2 ^ (8 * l.length) % 18446744073709551616) = leN (l ++ [b]) := by
  have hr := leN_range l hl
  rw [pow8] at hr
  have hp : (0 : Int) < 2 ^ (8 * l.length) := Int.pow_pos (by decide)
  have hm : (2 : Int) ^ (8 * l.length) ≤ 2 ^ 56 := by exact_mod_cast Nat.pow_le_pow_right (n := 2) (by decide) (show 8 * l.length ≤ 56 by omega)
  have hb : b * 2 ^ (8 * l.length) < 2 ^ 64 := by
    have : b * 2 ^ (8 * l.length) ≤ 255 * 2 ^ 56 := Int.mul_le_mul (by omega) hm (by omega) (by decide)
    omega
  have hb0 : 0 ≤ b * 2 ^ (8 * l.length) := Int.mul_nonneg h0 (by omega)
  rw [leN_snoc, pow8, show b * 2 ^ (8 * l.length) % 18446744073709551616 = b * 2 ^ (8 * l.length) from Int.emod_eq_of_lt hb0 hb]
  have hw : ∀ n : Int, 0 ≤ n → n < 2 ^ 64 → IntKind.u64.wrap n = n := fun n h0 h1 => by rw [IntKind.wrap_u64]; omega
  have hc := bits_join .u64 64 (by decide) hw (8 * l.length) (b * 2 ^ (8 * l.length)) (leN l) hb0 (Int.mul_emod_left _ _) hb hr.1 hr.2 (by omega)
  have hcomm : bits .or .u64 (leN l) (b * 2 ^ (8 * l.length)) = bits .or .u64 (b * 2 ^ (8 * l.length)) (leN l) := by simp only [bits, BitVec.or_comm]
  rw [hcomm, hc]
  omega
/-- What 'low' reads. -/
def lowI (s : List Int × Bool) (size most : Int) : Int × List Int × Bool :=
  let r := takeS s size
  let x := wrap64 (leN r.1)
  let bad := r.2.2 || (decide (size < 8) && decide (x > most))
  (if bad = true then 0 else x, r.2.1, bad)
set_option maxRecDepth 100000 in
set_option maxHeartbeats 4000000 in
theorem inlow_run (w0 w : World) (p : Nat) (A : Option Addr) (c : Nat) (bs : List Int) (bad : Bool) (size most : Int) (h8 : size ≤ 8) (h : InOK w0 w p A c bs bad) :
    Calls Try.prog 108 #[.pointer (some ⟨p, 0, none⟩), .int .i64 size, .int .i64 most] w fun r w' => r = .returned (.int .i64 (lowI (bs, bad) size most).1) ∧ InTo w0 w p (lowI (bs, bad) size most).2 w' := by
  have HI := Aside0.mk h
  clear h
  go_enter Try.func108, Try.ntmps108
  go_wp2_with fail
  refine (take_run w0 w p A c bs bad size HI.out).mono ?_
  rintro r w1 ⟨A1, c1, rfl, hC, hcap, hT⟩
  have HT := Aside0.mk hT
  have HLI := Aside0.mk (show lowI (bs, bad) size most = (if ((takeS (bs, bad) size).2.2 || (decide (size < 8) && decide (wrap64 (leN (takeS (bs, bad) size).1) > most))) = true then 0 else wrap64 (leN (takeS (bs, bad) size).1), (takeS (bs, bad) size).2.1, (takeS (bs, bad) size).2.2 || (decide (size < 8) && decide (wrap64 (leN (takeS (bs, bad) size).1) > most))) from rfl)
  have hok : okB (takeS (bs, bad) size).1 ∧ (takeS (bs, bad) size).1.length ≤ 8 := by
    unfold takeS
    split
    · exact ⟨by intro y hy; simp at hy, by simp⟩
    · exact ⟨HI.out.ok.1.take _, by simp only [List.length_take]; omega⟩
  have hT2 := hT.1
  generalize takeS (bs, bad) size = T at *
  obtain ⟨o, b1, bd⟩ := T
  dsimp only at *
  obtain ⟨⟨A2, c2, hI2⟩, hk2⟩ := hT
  have HC := Aside0.mk (Kd.C_below hC hI2.lo)
  have HI2 := Aside0.mk hI2
  have HOK := Aside0.mk hok
  have d1 : w1.cell? ⟨p, 1, none⟩ = some (.bool bd) := blk_cell hI2.blk 1
  have g1 := blkO_free hI2.blk 1
  have hmx : o.length ≤ 8 := hok.2
  clear hT2 hI2 hk2 hC hok hcap
  go_wp2_with fail
  go_loop [7, 14] (fun v7 v14 => ∃ k : Nat, v14 = .int .i64 k ∧ k ≤ o.length ∧ v7 = .int .u64 (leN (o.take k))) (fun _ v14 => o.length - (intOf v14).toNat)
  case atStart => exact ⟨0, rfl, Nat.zero_le _, rfl⟩
  case round =>
    obtain ⟨k, rfl, hk, rfl⟩ := hrel
    by_cases hlt : k < o.length
    · obtain ⟨ad, rfl, hc⟩ := Kd.at_int HC.out (k : Int) (by omega) (by omega)
      rw [Int.toNat_natCast] at hc
      have hb : 0 ≤ rd o k ∧ rd o k < 256 := by
        unfold rd
        rw [Int.toNat_natCast, List.getD_eq_getElem?_getD, List.getElem?_eq_getElem hlt]
        exact HOK.out.1 _ (List.getElem_mem hlt)
      obtain ⟨hb0, hb1⟩ := hb
      obtain ⟨y, hy⟩ : ∃ y, y = rd o k := ⟨_, rfl⟩
      rw [← hy] at hc hb0 hb1
      have HY := Aside0.mk hy
      clear hy
      obtain ⟨z, hz⟩ : ∃ z, z = leN (o.take k) := ⟨_, rfl⟩
      rw [← hz]
      have HZ := Aside0.mk hz
      clear hz
      go_wp2_with fail
      go_round
      case rel =>
        refine ⟨k + 1, by go_num, by omega, ?_⟩
        have hn := leN_or (o.take k) y (HOK.out.1.take k) hb0 hb1 (by rw [List.length_take]; omega)
        rw [← HZ.out, List.length_take, Nat.min_eq_left (by omega)] at hn
        have he : o.take (k + 1) = o.take k ++ [y] := by
          rw [List.take_succ_eq_append_getElem hlt, HY.out]
          unfold rd
          rw [Int.toNat_natCast, List.getD_eq_getElem?_getD, List.getElem?_eq_getElem hlt]
          rfl
        rw [he, ← hn]
        rfl
      case measure => simp [intOf]; omega
    · obtain rfl : k = o.length := by omega
      rw [List.take_length]
      obtain ⟨z, hz⟩ : ∃ z, z = leN o := ⟨_, rfl⟩
      rw [← hz]
      have HLI2 := Aside0.mk (show lowI (bs, bad) size most = (if (bd || (decide (size < 8) && decide (wrap64 z > most))) = true then 0 else wrap64 z, b1, bd || (decide (size < 8) && decide (wrap64 z > most))) by rw [hz]; exact HLI.out)
      clear hz hk hlt
      by_cases hs : size < 8
      · by_cases hm : wrap64 z > most
        · have hm' : most < wrap64 z := hm
          have he : lowI (bs, bad) size most = (0, b1, true) := by rw [HLI2.out, decide_eq_true hs, decide_eq_true hm, Bool.true_and, Bool.or_true, if_pos rfl]
          have HE := Aside0.mk he
          clear he hm
          go_wp2_with fail
          go_ret
          rw [HE.out]
          exact ⟨rfl, HT.out.bind (HI2.out.setBad true)⟩
        · have hm' : wrap64 z ≤ most := by omega
          have he : lowI (bs, bad) size most = (if bd = true then 0 else wrap64 z, b1, bd) := by rw [HLI2.out, decide_eq_false hm, Bool.and_false, Bool.or_false]
          have HE := Aside0.mk he
          clear he hm
          cases bd
          · go_wp2_with fail
            go_ret
            rw [HE.out, if_neg (by decide)]
            exact ⟨rfl, HT.out⟩
          · go_wp2_with fail
            go_ret
            rw [HE.out]
            exact ⟨rfl, HT.out⟩
      · have he : lowI (bs, bad) size most = (if bd = true then 0 else wrap64 z, b1, bd) := by rw [HLI2.out, decide_eq_false hs, Bool.false_and, Bool.or_false]
        have hs' : 8 ≤ size := by omega
        have HE := Aside0.mk he
        clear he hs
        cases bd
        · go_wp2_with fail
          go_ret
          rw [HE.out, if_neg (by decide)]
          exact ⟨rfl, HT.out⟩
        · go_wp2_with fail
          go_ret
          rw [HE.out]
          exact ⟨rfl, HT.out⟩
/-- A closure over two boxes. -/
def Two (w : World) (b1 b2 : Nat) (t1 t2 : TypeId) (x1 x2 : Array Value) : Prop := w.heap[b1]? = some (.cells x1 t1 (0, 0)) ∧ w.heap[b2]? = some (.cells x2 t2 (0, 0))
/-- A field of numbers: its two functions, over boxes with its size and the most that it may be. -/
def numV (b1 b2 : Nat) : Array Value := #[.func (.func 105) #[] #[.pointer (some ⟨b1, 0, none⟩), .pointer (some ⟨b2, 0, none⟩)], .func (.func 107) #[] #[.pointer (some ⟨b1, 0, none⟩), .pointer (some ⟨b2, 0, none⟩)]]
structure NumF (w : World) (b1 b2 : Nat) (n : Nat) (most : Int) : Prop where
  s : w.heap[b1]? = some (.cells #[.int .i64 n] 3 (0, 0))
  m : w.heap[b2]? = some (.cells #[.int .i64 most] 3 (0, 0))
  hn : n ≤ 8
theorem NumF.below {w w1 : World} {b1 b2 n : Nat} {most : Int} (h : NumF w b1 b2 n most) (hb : Below w.heap.size w w1) : NumF w1 b1 b2 n most := ⟨blk_below h.s hb, blk_below h.m hb, h.hn⟩
/-- What a field of numbers writes. -/
def numS (s : List Int × Int) (n : Nat) (most x : Int) : List Int × Int := lowS s (decide (n = 8) || (decide (0 ≤ x) && decide (x ≤ most))) x n
set_option maxRecDepth 100000 in
set_option maxHeartbeats 400000 in
theorem numput_run (B p b1 b2 n : Nat) (most : Int) (v : Value) (bs : List Int) (e : Int) (x : Int) (w : World) (hf : NumF w b1 b2 n most) (h : OutOK w B p v bs e) (hB : B ≤ w.heap.size) (hbs : bs.length ≤ 1048576) :
    Calls Try.prog 105 #[.pointer (some ⟨p, 0, none⟩), .int .i64 x, .pointer (some ⟨b1, 0, none⟩), .pointer (some ⟨b2, 0, none⟩)] w fun r w' => r = .returned (.tuple #[]) ∧ OutTo w B p v (numS (bs, e) n most x) w' := by
  have HO := Aside0.mk h
  have cs : w.cell? ⟨b1, 0, none⟩ = some (.int .i64 n) := blk_cell hf.s 0
  have cm : w.cell? ⟨b2, 0, none⟩ = some (.int .i64 most) := blk_cell hf.m 0
  have hn := hf.hn
  clear h hf
  by_cases h8 : n = 8
  · subst h8
    have he : numS (bs, e) 8 most x = lowS (bs, e) true x 8 := by simp [numS]
    rw [he]
    clear he
    go_enter Try.func105, Try.ntmps105
    go_wp2_with fail
    have hl := low_run B p v bs e true x 8 (by decide) w HO.out hB hbs
    rw [show ((8 : Nat) : Int) = 8 from rfl] at hl
    with_reducible refine hl.mono ?_
    rintro r w' ⟨rfl, hT⟩
    have HT := Aside0.mk hT
    clear hT
    go_wp2_with fail
    go_end0
    exact ⟨rfl, HT.out⟩
  · have h8' : ((n : Int) == 8) = false := beq_eq_false_iff_ne.mpr (by omega)
    by_cases h0 : 0 ≤ x
    · by_cases hm : x ≤ most
      · have he : numS (bs, e) n most x = lowS (bs, e) true x n := by unfold numS; rw [decide_eq_true h0, decide_eq_true hm, Bool.true_and, Bool.or_true]
        rw [he]
        clear he h8
        go_enter Try.func105, Try.ntmps105
        go_wp2_with fail
        with_reducible refine (low_run B p v bs e true x n hn w HO.out hB hbs).mono ?_
        rintro r w' ⟨rfl, hT⟩
        have HT := Aside0.mk hT
        clear hT
        go_wp2_with fail
        go_end0
        exact ⟨rfl, HT.out⟩
      · have he : numS (bs, e) n most x = lowS (bs, e) false x n := by unfold numS; rw [decide_eq_true h0, decide_eq_false hm, Bool.true_and, Bool.or_false, decide_eq_false h8]
        rw [he]
        have hm' : decide (x ≤ most) = false := decide_eq_false hm
        clear he h8 hm
        go_enter Try.func105, Try.ntmps105
        go_wp2_with fail
        with_reducible refine (low_run B p v bs e false x n hn w HO.out hB hbs).mono ?_
        rintro r w' ⟨rfl, hT⟩
        have HT := Aside0.mk hT
        clear hT
        go_wp2_with fail
        go_end0
        exact ⟨rfl, HT.out⟩
    · have he : numS (bs, e) n most x = lowS (bs, e) false x n := by unfold numS; rw [decide_eq_false h0, Bool.false_and, Bool.or_false, decide_eq_false h8]
      rw [he]
      have h0' : decide (0 ≤ x) = false := decide_eq_false h0
      have h0'' : x < 0 := by omega
      clear he h8 h0
      go_enter Try.func105, Try.ntmps105
      go_wp2_with fail
      with_reducible refine (low_run B p v bs e false x n hn w HO.out hB hbs).mono ?_
      rintro r w' ⟨rfl, hT⟩
      have HT := Aside0.mk hT
      clear hT
      go_wp2_with fail
      go_end0
      exact ⟨rfl, HT.out⟩
set_option maxRecDepth 100000 in
set_option maxHeartbeats 4000000 in
theorem numget_run (w0 w : World) (p b1 b2 n : Nat) (most : Int) (A : Option Addr) (c : Nat) (bs : List Int) (bad : Bool) (hf : NumF w b1 b2 n most) (h : InOK w0 w p A c bs bad) :
    Calls Try.prog 107 #[.pointer (some ⟨p, 0, none⟩), .pointer (some ⟨b1, 0, none⟩), .pointer (some ⟨b2, 0, none⟩)] w fun r w' => r = .returned (.int .i64 (lowI (bs, bad) n most).1) ∧ InTo w0 w p (lowI (bs, bad) n most).2 w' := by
  have HI := Aside0.mk h
  have cs : w.cell? ⟨b1, 0, none⟩ = some (.int .i64 n) := blk_cell hf.s 0
  have cm : w.cell? ⟨b2, 0, none⟩ = some (.int .i64 most) := blk_cell hf.m 0
  have hn := hf.hn
  clear h hf
  go_enter Try.func107, Try.ntmps107
  go_wp2_with fail
  refine (inlow_run w0 w p A c bs bad n most (by omega) HI.out).mono ?_
  rintro r w' ⟨rfl, hT⟩
  have HT := Aside0.mk hT
  clear hT
  go_wp2_with fail
  go_ret
  exact ⟨rfl, HT.out⟩
set_option maxRecDepth 100000 in
set_option maxHeartbeats 4000000 in
theorem number_run (n : Nat) (most : Int) (hn : n ≤ 8) (w : World) :
    Calls Try.prog 83 #[.int .i64 n, .int .i64 most] w fun r w' => ∃ b1 b2, r = .returned (.agg (numV b1 b2)) ∧ NumF w' b1 b2 n most ∧ Below w.heap.size w w' := by
  go_enter Try.func83, Try.ntmps83
  go_wp2_with fail
  refine bodyPost_ret (v := .agg (numV w.heap.size (w.heap.size + 1))) (by simp [results, Try.results83, go_sem, numV]) rfl ⟨_, _, rfl, ⟨?_, ?_, hn⟩, ?_⟩
  · exact blk_alloc (blk_alloc (blk_new w _) _) _
  · have h := blk_alloc (blk_new (w.alloc (.cells #[.int .i64 (n : Int)] 3)) (.cells #[.int .i64 most] 3)) (.cells (numV w.heap.size (w.heap.size + 1)) 118)
    rw [World.size_alloc] at h
    exact h
  · exact below_alloc (below_alloc (below_alloc (Below.refl _ _) _) _) _
theorem cell_res {P : Program} {fn : Func} {tmps : Array Value} {w : World} {p : Tmp} {ty : TypeId} {g : Nat} {t : TypeId} {cs : Array Value} {d : TypeDesc} (h : fn.results = #[.cell p ty]) (hp : tmps.getD p undef = .pointer (some ⟨g, 0, none⟩)) (hg : w.heap[g]? = some (.cells cs t (0, 0)))
    (hu : P.underlying ty = some d) (hd : (match d with | .struct _ | .array _ _ => true | _ => false) = true) (hi : (P.info? ty).map (·.size) = some cs.size) : (results fn tmps).run P w = .ok (.agg cs) w :=
  results_single h (.cell g t cs (0, 0) d hp hg hu hd hi .nil)
/-- A block of two cells, both written. -/
theorem two_set {w : World} {g : Nat} {t : TypeId} {x y : Value} (h : w.heap[g]? = some (.cells #[x, y] t (0, 0))) (u v : Value) : ((w.setCell ⟨g, 0, none⟩ u).setCell ⟨g, 1, none⟩ v).heap[g]? = some (.cells #[u, v] t (0, 0)) := blk_set (blk_set h 0 u) 1 v
theorem two_below {w0 w w' : World} {g : Nat} (hb : Below w0.heap.size w0 w) (hg : w0.heap.size ≤ g) (u v : Value) : Below w0.heap.size w0 ((w.setCell ⟨g, 0, none⟩ u).setCell ⟨g, 1, none⟩ v) := (hb.setCell (p := ⟨g, 0, none⟩) hg u).setCell (p := ⟨g, 1, none⟩) hg v
theorem NumF.set {w : World} {b1 b2 n g : Nat} {most : Int} (h : NumF w b1 b2 n most) (h1 : b1 ≠ g) (h2 : b2 ≠ g) (j : Nat) (v : Value) : NumF (w.setCell ⟨g, j, none⟩ v) b1 b2 n most := ⟨blk_far h.s (p := ⟨g, j, none⟩) h1 v, blk_far h.m (p := ⟨g, j, none⟩) h2 v, h.hn⟩
/-- Byte, Short, Int: fields of numbers. -/
def Made (w w' : World) (n : Nat) (most : Int) (r : Ending) : Prop := ∃ b1 b2, r = .returned (.agg (numV b1 b2)) ∧ NumF w' b1 b2 n most ∧ Below w.heap.size w w'
set_option maxRecDepth 100000 in
set_option maxHeartbeats 1000000 in
theorem byte_run (w : World) : Calls Try.prog 56 #[] w fun r w' => Made w w' 1 255 r := by
  go_enter Try.func56, Try.ntmps56
  go_wp2_with fail
  refine (number_run 1 255 (by decide) _).mono ?_
  rintro r w' ⟨b1, b2, rfl, hf, hb⟩
  have hg : w'.heap[w.heap.size]? = some (.cells #[.nilFunc, .nilFunc] 118 (0, 0)) := blk_below (blk_new w _) hb
  have q0 : w'.cell? ⟨w.heap.size, 0, none⟩ = some .nilFunc := blk_cell hg 0
  have q1 : w'.cell? ⟨w.heap.size, 1, none⟩ = some .nilFunc := blk_cell hg 1
  have p0 := blkO_free hg 0
  have p1 := blkO_free hg 1
  have HH := Aside0.mk (And.intro hg (And.intro hf hb))
  clear hg hf hb
  simp only [numV]
  go_wp2_with fail
  obtain ⟨hg, hf, hb⟩ := HH.out
  have n1 := blk_ne hf.s hg (by decide)
  have n2 := blk_ne hf.m hg (by decide)
  exact bodyPost_ret (v := .agg (numV b1 b2)) (cell_res (g := w.heap.size) rfl rfl (two_set hg _ _) Try.underlying118 rfl (by kernel_rfl)) rfl ⟨b1, b2, rfl, (hf.set n1 n2 _ _).set n1 n2 _ _, two_below (w' := w') (((Below.refl _ w).alloc (Nat.le_refl _) _).trans (hb.mono (by simp))) (Nat.le_refl _) _ _⟩
set_option maxRecDepth 100000 in
set_option maxHeartbeats 1000000 in
theorem int_run (w : World) : Calls Try.prog 62 #[] w fun r w' => Made w w' 8 0 r := by
  go_enter Try.func62, Try.ntmps62
  go_wp2_with fail
  refine (number_run 8 0 (by decide) _).mono ?_
  rintro r w' ⟨b1, b2, rfl, hf, hb⟩
  have hg : w'.heap[w.heap.size]? = some (.cells #[.nilFunc, .nilFunc] 118 (0, 0)) := blk_below (blk_new w _) hb
  have q0 : w'.cell? ⟨w.heap.size, 0, none⟩ = some .nilFunc := blk_cell hg 0
  have q1 : w'.cell? ⟨w.heap.size, 1, none⟩ = some .nilFunc := blk_cell hg 1
  have p0 := blkO_free hg 0
  have p1 := blkO_free hg 1
  have HH := Aside0.mk (And.intro hg (And.intro hf hb))
  clear hg hf hb
  simp only [numV]
  go_wp2_with fail
  obtain ⟨hg, hf, hb⟩ := HH.out
  have n1 := blk_ne hf.s hg (by decide)
  have n2 := blk_ne hf.m hg (by decide)
  exact bodyPost_ret (v := .agg (numV b1 b2)) (cell_res (g := w.heap.size) rfl rfl (two_set hg _ _) Try.underlying118 rfl (by kernel_rfl)) rfl ⟨b1, b2, rfl, (hf.set n1 n2 _ _).set n1 n2 _ _, two_below (w' := w') (((Below.refl _ w).alloc (Nat.le_refl _) _).trans (hb.mono (by simp))) (Nat.le_refl _) _ _⟩
theorem putS_len (s : List Int × Int) (ys : List Int) (h : s.1.length ≤ 1048576) : (putS s ys).1.length ≤ 1048576 := by
  unfold putS
  split
  · exact h
  · split
    · exact h
    · rw [List.length_append]; omega
theorem lowS_len (s : List Int × Int) (ok : Bool) (x : Int) (n : Nat) (h : s.1.length ≤ 1048576) : (lowS s ok x n).1.length ≤ 1048576 := by
  unfold lowS
  refine putS_len _ _ ?_
  split
  · exact h
  · exact h
theorem numS_len (s : List Int × Int) (n : Nat) (most x : Int) (h : s.1.length ≤ 1048576) : (numS s n most x).1.length ≤ 1048576 := lowS_len _ _ _ _ h
/-- One after the other, as long as all is well. -/
def manyGo {α : Type} (S : List Int × Int → α → List Int × Int) : List α → List Int × Int → List Int × Int
  | [], s => s
  | x :: l, s => if s.2 = 0 then manyGo S l (S s x) else s
def manyS {α : Type} (S : List Int × Int → α → List Int × Int) (s : List Int × Int) (l : List α) : List Int × Int := manyGo S l (numS s 2 4096 (l.length : Int))
theorem manyGo_stop {α : Type} (S : List Int × Int → α → List Int × Int) (l : List α) (s : List Int × Int) (h : s.2 ≠ 0) : manyGo S l s = s := by
  cases l with
  | nil => rfl
  | cons x l => rw [manyGo, if_neg h]
end Go.Proofs.Ytjkjpmfenillcaa.P
/- codec.Many: lists written and read, an instance each; no statement of the seat. -/
set_option linter.unusedVariables false
set_option linter.unusedSimpArgs false
namespace Go.Proofs.Ytjkjpmfenillcaa.P
open Go.RowKit Go.Proofs.YtjkjpmfenillcaaW.PrintWords Go.Proofs.YtjkjpmfenillcaaW.PrintLast Go.Proofs.YtjkjpmfenillcaaW.PrintMore
/-- The boxes of a list's field: the count's and the elements' fields. -/
structure ManyF (w : World) (bc bf c1 c2 : Nat) (tf : TypeId) (fv : Array Value) : Prop where
  c : w.heap[bc]? = some (.cells (numV c1 c2) 118 (0, 0))
  n : NumF w c1 c2 2 4096
  f : w.heap[bf]? = some (.cells fv tf (0, 0))
theorem ManyF.below {w w1 : World} {bc bf c1 c2 : Nat} {tf : TypeId} {fv : Array Value} (h : ManyF w bc bf c1 c2 tf fv) (hb : Below w.heap.size w w1) : ManyF w1 bc bf c1 c2 tf fv := ⟨blk_below h.c hb, h.n.below hb, blk_below h.f hb⟩
theorem OutOK.drew {w : World} {B p : Nat} {v : Value} {bs : List Int} {e : Int} (h : OutOK w B p v bs e) : OutOK w.drew B p v bs e := ⟨h.le, h.blk, Kd.R_drew h.own⟩
theorem OutTo.of_drew {w w' : World} {B p : Nat} {v : Value} {s : List Int × Int} (h : OutTo w.drew B p v s w') : OutTo w B p v s w' := by
  obtain ⟨v', ho, hk, hat, hb⟩ := h
  exact ⟨v', ho, hk, hat, (below_drew (Below.refl B w)).trans hb⟩
theorem drop_cons {α : Type} (l : List α) (k : Nat) (h : k < l.length) : l.drop k = l[k] :: l.drop (k + 1) := (List.getElem_cons_drop h).symm
theorem rd_get (l : List Int) (k : Nat) (h : k < l.length) : rd l (k : Int) = l[k] := by
  unfold rd
  rw [Int.toNat_natCast, List.getD_eq_getElem?_getD, List.getElem?_eq_getElem h]
  rfl
/-- What a list's field reads. -/
def manyIn {α : Type} (G : List Int × Bool → α × List Int × Bool) : Nat → List α → List Int × Bool → List α × List Int × Bool
  | 0, acc, s => (acc, s)
  | n + 1, acc, s => if s.2 = true then (acc, s) else manyIn G n (acc ++ [(G s).1]) (G s).2
def manyR {α : Type} (G : List Int × Bool → α × List Int × Bool) (s : List Int × Bool) : List α × List Int × Bool := manyIn G (lowI s 2 4096).1.toNat [] (lowI s 2 4096).2
theorem manyIn_stop {α : Type} (G : List Int × Bool → α × List Int × Bool) (n : Nat) (acc : List α) (s : List Int × Bool) (h : s.2 = true) : manyIn G n acc s = (acc, s) := by
  cases n with
  | zero => rfl
  | succ n => rw [manyIn, if_pos h]
theorem takeS_ok (s : List Int × Bool) (n : Int) (h : okB s.1) : okB (takeS s n).1 ∧ okB (takeS s n).2.1 := by
  unfold takeS
  split
  · exact ⟨fun y hy => (List.not_mem_nil hy).elim, h⟩
  · exact ⟨h.take _, h.drop _⟩
theorem lowI_range (s : List Int × Bool) (size most : Int) (hm : 0 ≤ most) (h7 : size < 8) (h : okB s.1) : 0 ≤ (lowI s size most).1 ∧ (lowI s size most).1 ≤ most := by
  have ho := (takeS_ok s size h).1
  have hr := leN_range _ ho
  have hl : (takeS s size).1.length ≤ 7 := by
    unfold takeS
    split
    · simp
    · simp only [List.length_take]; omega
  have hp : (256 : Int) ^ (takeS s size).1.length ≤ 72057594037927936 := (show ∀ k, k < 8 → (256 : Int) ^ k ≤ 72057594037927936 by decide) _ (by omega)
  have hw : wrap64 (leN (takeS s size).1) = leN (takeS s size).1 := by unfold wrap64; omega
  unfold lowI
  simp only
  rw [hw]
  by_cases c : ((takeS s size).2.2 || (decide (size < 8) && decide (leN (takeS s size).1 > most))) = true
  · rw [if_pos c]; omega
  · rw [if_neg c]
    rw [decide_eq_true h7, Bool.true_and, Bool.or_eq_true, not_or, decide_eq_true_eq] at c
    omega
theorem InOK.drew {w0 w : World} {p : Nat} {A : Option Addr} {c : Nat} {bs : List Int} {bad : Bool} (h : InOK w0 w p A c bs bad) : InOK w0 w.drew p A c bs bad := ⟨h.le, h.blk, h.rd, h.cap, h.ok, below_drew h.lo⟩
theorem InOK.alloc {w0 w : World} {p : Nat} {A : Option Addr} {c : Nat} {bs : List Int} {bad : Bool} (h : InOK w0 w p A c bs bad) (o : Obj) : InOK w0 (w.alloc o) p A c bs bad := ⟨h.le, blk_alloc h.blk o, h.rd, h.cap, h.ok, h.lo.alloc h.lo.size o⟩
/-- Blocks beyond a world's end turn: what lay in it is as it was. -/
theorem InTo.past {w0 w w1 : World} {p : Nat} {s : List Int × Bool} (h : InTo w0 w p s w1) (hp : p < w.heap.size) {w2 : World} (hb : Below w.heap.size w1 w2) (h0 : w0.heap.size ≤ w.heap.size) : InTo w0 w p s w2 := by
  obtain ⟨⟨A, c, h1⟩, hk⟩ := h
  refine ⟨⟨A, c, h1.le, (hb.block p hp).trans h1.blk, h1.rd, h1.cap, h1.ok, h1.lo.trans (hb.mono h0)⟩, Nat.le_trans hk.1 ?_, fun i hi h1 h2 => (hb.block i hi).trans (hk.2 i hi h1 h2)⟩
  exact hb.size
set_option maxRecDepth 100000 in
set_option maxHeartbeats 4000000 in
theorem manyI_put (w0 w : World) (p : Nat) (v : Value) (bs : List Int) (e : Int) (A : Option Addr) (c : Nat) (l : List Int) (bc bf c1 c2 : Nat) (f1 f2 n : Nat) (most : Int) (hM : ManyF w0 bc bf c1 c2 118 (numV f1 f2)) (hf : NumF w0 f1 f2 n most) (hl : Kd.C (Kd.int .i64) w0 A l.length l) (hlo : Below w0.heap.size w0 w) (h : OutOK w w0.heap.size p v bs e) (hbs : bs.length ≤ 1048576) :
    Calls Try.prog 95 #[.pointer (some ⟨p, 0, none⟩), .slice A l.length c, .pointer (some ⟨bc, 0, none⟩), .pointer (some ⟨bf, 0, none⟩)] w fun r w' => r = .returned (.tuple #[]) ∧ OutTo w w0.heap.size p v (manyS (fun s x => numS s n most x) (bs, e) l) w' := by
  have HO := Aside0.mk h
  have HL := Aside0.mk hl
  have HM := Aside0.mk hM
  have HF := Aside0.mk hf
  have HLO := Aside0.mk hlo
  have hmx := Kd.C_max hl
  have hM1 := hM.below hlo
  have q0 : w.cell? ⟨bc, 0, none⟩ = some (.func (.func 105) #[] #[.pointer (some ⟨c1, 0, none⟩), .pointer (some ⟨c2, 0, none⟩)]) := blk_cell hM1.c 0
  have HN := Aside0.mk hM1.n
  have hB := hlo.size
  clear h hl hM hf hlo hM1
  go_enter Try.func95, Try.ntmps95
  go_wp2_with fail
  with_reducible refine (numput_run w0.heap.size p c1 c2 2 4096 v bs e (l.length : Int) w HN.out HO.out (by omega) hbs).mono ?_
  rintro r w1 ⟨rfl, hT⟩
  have HT := Aside0.mk hT
  have hlen1 := numS_len (bs, e) 2 4096 (l.length : Int) hbs
  obtain ⟨s1, hs1⟩ : ∃ s1, s1 = numS (bs, e) 2 4096 (l.length : Int) := ⟨_, rfl⟩
  have HR := Aside0.mk (show manyGo (fun s x => numS s n most x) l s1 = manyS (fun s x => numS s n most x) (bs, e) l by rw [hs1]; rfl)
  have HT1 := Aside0.mk (show OutTo w w0.heap.size p v s1 w1 by rw [hs1]; exact hT)
  have HS1 := Aside0.mk (show s1.1.length ≤ 1048576 by rw [hs1]; exact hlen1)
  clear hT hs1 hlen1 q0 HT
  go_wp2_with fail
  go_loopw [6] (fun v6 wr => ∃ (k : Nat) (s' : List Int × Int), v6 = .int .i64 k ∧ k ≤ l.length ∧ OutTo w w0.heap.size p v s' wr ∧ s'.1.length ≤ 1048576 ∧ manyGo (fun s x => numS s n most x) (l.drop k) s' = manyS (fun s x => numS s n most x) (bs, e) l) (fun v6 _ => l.length - (intOf v6).toNat)
  case atStart => exact ⟨0, s1, rfl, Nat.zero_le _, HT1.out, HS1.out, HR.out⟩
  case round =>
    obtain ⟨k, ⟨b', e'⟩, rfl, hk, hTT, hl', hr⟩ := hrel
    obtain ⟨v', hO', hk', hat', hb'⟩ := hTT
    have h1 : wr.cell? ⟨p, 1, none⟩ = some (.int .i64 e') := blk_cell hO'.blk 1
    have hMr := HM.out.below (HLO.out.trans hb')
    have q0 : wr.cell? ⟨bf, 0, none⟩ = some (.func (.func 105) #[] #[.pointer (some ⟨f1, 0, none⟩), .pointer (some ⟨f2, 0, none⟩)]) := blk_cell hMr.f 0
    have HO' := Aside0.mk hO'
    have HX := Aside0.mk (And.intro hk' (And.intro hat' hb'))
    have HR' := Aside0.mk hr
    have HL' := Aside0.mk hl'
    have hsz : w0.heap.size ≤ wr.heap.size := (HLO.out.trans hb').size
    have hszd : w0.heap.size ≤ wr.drew.heap.size := hsz
    clear hO' hMr hk' hat' hb' hr
    by_cases hlt : k < l.length
    · by_cases he : e' = 0
      · subst he
        have hC := Kd.C_below HL.out (HLO.out.trans HX.out.2.2)
        obtain ⟨ad, rfl, hc⟩ := Kd.at_int hC (k : Int) (by omega) (by omega)
        rw [Int.toNat_natCast] at hc
        go_upto_region 4 with (fail)
        go_still_tail 7, (by kernel_rfl)
        go_wp2_with fail
        with_reducible refine (numput_run w0.heap.size p f1 f2 n most v' b' 0 (rd l (k : Int)) wr.drew (HF.out.below (below_drew (HLO.out.trans HX.out.2.2))) HO'.out.drew hszd HL'.out).mono ?_
        rintro r w2 ⟨rfl, hT2⟩
        have HT2 := Aside0.mk (OutTo.of_drew hT2)
        clear hT2 q0 hC
        go_wp2_with fail
        go_roundw
        case rel =>
          refine ⟨k + 1, (fun s x => numS s n most x) (b', 0) (rd l (k : Int)), by go_num, by omega, OutTo.trans HX.out.1 HX.out.2.1 HX.out.2.2 hsz HT2.out, numS_len (b', 0) n most _ HL'.out, ?_⟩
          have h := HR'.out
          rw [drop_cons l k hlt, manyGo, if_pos rfl] at h
          rw [rd_get l k hlt]; exact h
        case measure => simp [intOf]; omega
      · have he1 : (e' == 0) = false := by simpa using he
        have hlt' : (k : Int) < (l.length : Int) := by omega
        go_wp2_with fail
        go_end0
        rw [← HR'.out, manyGo_stop _ _ _ he]
        exact ⟨rfl, v', HO'.out, HX.out.1, HX.out.2.1, HX.out.2.2⟩
    · obtain rfl : k = l.length := by omega
      go_wp2_with fail
      go_end0
      rw [← HR'.out, List.drop_length]
      exact ⟨rfl, v', HO'.out, HX.out.1, HX.out.2.1, HX.out.2.2⟩
set_option maxRecDepth 100000 in
set_option maxHeartbeats 4000000 in
theorem manyI_get (w0 w : World) (p : Nat) (A : Option Addr) (c : Nat) (bs : List Int) (bad : Bool) (bc bf c1 c2 : Nat) (f1 f2 n : Nat) (most : Int) (hM : ManyF w0 bc bf c1 c2 118 (numV f1 f2)) (hf : NumF w0 f1 f2 n most) (h : InOK w0 w p A c bs bad) :
    Calls Try.prog 96 #[.pointer (some ⟨p, 0, none⟩), .pointer (some ⟨bc, 0, none⟩), .pointer (some ⟨bf, 0, none⟩)] w fun r w' => ∃ v : Value, r = .returned v ∧ Kd.R (Kd.int .i64) 3 w' w.heap.size (fun _ => True) v (manyR (fun s => lowI s n most) (bs, bad)).1 ∧ InTo w0 w p (manyR (fun s => lowI s n most) (bs, bad)).2 w' := by
  have HI := Aside0.mk h
  have HM := Aside0.mk hM
  have HF := Aside0.mk hf
  have hM1 := hM.below h.lo
  have q0 : w.cell? ⟨bc, 1, none⟩ = some (.func (.func 107) #[] #[.pointer (some ⟨c1, 0, none⟩), .pointer (some ⟨c2, 0, none⟩)]) := blk_cell hM1.c 1
  have HN := Aside0.mk hM1.n
  have hp : p < w.heap.size := blk_lt h.blk
  have hB := h.lo.size
  clear h hM hf hM1
  go_enter Try.func96, Try.ntmps96
  go_wp2_with fail
  with_reducible refine (numget_run w0 w p c1 c2 2 4096 A c bs bad HN.out HI.out).mono ?_
  rintro r w1 ⟨rfl, hT⟩
  have HT := Aside0.mk hT
  have HC := Aside0.mk (lowI_range (bs, bad) 2 4096 (by decide) (by decide) HI.out.ok.1)
  obtain ⟨n0, hn0⟩ : ∃ n0 : Nat, (lowI (bs, bad) 2 4096).1 = (n0 : Int) := ⟨_, (Int.toNat_of_nonneg HC.out.1).symm⟩
  have HR := Aside0.mk (show manyIn (fun s => lowI s n most) n0 [] (lowI (bs, bad) 2 4096).2 = manyR (fun s => lowI s n most) (bs, bad) by unfold manyR; rw [hn0, Int.toNat_natCast])
  have hn1 : n0 ≤ 4096 := by have := HC.out.2; omega
  have hn0' : (lowI (bs, bad) ((2 : Nat) : Int) 4096).1 = (n0 : Int) := hn0
  rw [hn0']
  clear hT q0 hn0 hn0' HC
  go_wp2_with fail
  go_loopw [5, 6] (fun v5 v6 wr => ∃ (m : Nat) (acc : List Int) (s' : List Int × Bool), v6 = .int .i64 m ∧ acc.length + m ≤ 4096 ∧ Kd.R (Kd.int .i64) 3 wr w.heap.size (fun _ => True) v5 acc ∧ InTo w0 w p s' wr ∧ manyIn (fun s => lowI s n most) m acc s' = manyR (fun s => lowI s n most) (bs, bad)) (fun _ v6 _ => (intOf v6).toNat)
  case atStart => exact ⟨n0, [], _, rfl, by simp; omega, Kd.R_nil _ _ _ _ _, HT.out, HR.out⟩
  case round =>
    obtain ⟨m, acc, ⟨b', bd'⟩, rfl, hm, hR, hTT, hr⟩ := hrel
    obtain ⟨⟨A', c', hI'⟩, hk'⟩ := hTT
    obtain ⟨A5, c5, hv5⟩ := Kd.R_slice hR
    subst hv5
    have h1 : wr.cell? ⟨p, 1, none⟩ = some (.bool bd') := blk_cell hI'.blk 1
    have hMr := HM.out.below hI'.lo
    have q0 : wr.cell? ⟨bf, 1, none⟩ = some (.func (.func 107) #[] #[.pointer (some ⟨f1, 0, none⟩), .pointer (some ⟨f2, 0, none⟩)]) := blk_cell hMr.f 1
    have HI' := Aside0.mk hI'
    have HR5 := Aside0.mk hR
    have HK' := Aside0.mk hk'
    have HR' := Aside0.mk hr
    clear hI' hMr hk' hr hR
    by_cases hz : m = 0
    · subst hz
      go_wp2_with fail
      go_ret
      rw [← HR'.out]
      exact ⟨_, rfl, HR5.out, ⟨A', c', HI'.out⟩, HK'.out⟩
    · cases bd'
      · obtain ⟨m, rfl⟩ : ∃ q, m = q + 1 := ⟨m - 1, by omega⟩
        go_wp2_with fail
        with_reducible refine (numget_run w0 wr p f1 f2 n most A' c' b' false (HF.out.below HI'.out.lo) HI'.out).mono ?_
        rintro r w2 ⟨rfl, hT2⟩
        have HT2 := Aside0.mk hT2
        obtain ⟨⟨A2, c2', hI2⟩, hk2⟩ := hT2
        have hR2 : Kd.R (Kd.int .i64) 3 w2 w.heap.size (fun _ => True) (.slice A5 acc.length c5) acc := Kd.R_mono (Kd.R_keep (Kd.R_bound HR5.out) hk2 (fun k hk => by have := hk.2.1; omega)) (fun _ hk => hk.1)
        have HR2 := Aside0.mk hR2
        have hsz2 : w.heap.size ≤ w2.heap.size := Nat.le_trans HK'.out.1 hk2.1
        clear hI2 hk2 hR2
        have HMP := Aside0.mk (show (Kd.int .i64).M w2 w.heap.size (fun k => True ∧ some k ≠ (Value.slice A5 acc.length c5).ownBlock) (lowI (b', false) n most).1 [.int .i64 (lowI (b', false) n most).1] from rfl)
        go_wp2_with (refine Kd.R_append (Kd.int .i64) (w0 := w2) w.heap.size rfl (.tmp 22) (.tmp 27) 24 3 (.int .i64 0) 8 rfl Try.underlying24 (by kernel_rfl) rfl (by decide) (by decide) (.slice A5 acc.length c5) acc ((fun s => lowI s n most) (b', false)).1 [.int .i64 (lowI (b', false) n most).1] (fun _ => True) (fun k => True ∧ some k ≠ (Value.slice A5 acc.length c5).ownBlock) rfl rfl HMP.out (fun _ hk => hk) (fun _ _ => trivial) HR2.out (Below.refl _ _) hsz2 (by omega) ?_; intro v3 w3 ho hb3 hg hat; obtain ⟨A3, c3, hv3⟩ := Kd.R_slice ho; subst hv3; simp only [List.length_append, List.length_singleton] at ho hat; have HX := Aside0.mk (And.intro ho hb3); clear ho hb3 hg hat)
        go_roundw
        case rel =>
          refine ⟨m, acc ++ [((fun s => lowI s n most) (b', false)).1], ((fun s => lowI s n most) (b', false)).2, by go_num, by simp; omega, ?_, ?_, ?_⟩
          · have h := HX.out.1
            simpa using h
          · exact (InTo.bind (s := (b', false)) ⟨⟨A', c', HI'.out⟩, HK'.out⟩ HT2.out).past hp HX.out.2 hB
          · have h := HR'.out
            rw [manyIn, if_neg (show ¬ ((b', false).2 = true) from Bool.false_ne_true)] at h
            exact h
        case measure => simp [intOf]
      · go_wp2_with fail
        go_ret
        rw [← HR'.out, manyIn_stop _ _ _ _ rfl]
        exact ⟨_, rfl, HR5.out, ⟨A', c', HI'.out⟩, HK'.out⟩
end Go.Proofs.Ytjkjpmfenillcaa.P
/- codec.Blob, Fixed, Both, turned: what is written, what is read; no statement of the seat. -/
set_option linter.unusedVariables false
set_option linter.unusedSimpArgs false
namespace Go.Proofs.Ytjkjpmfenillcaa.P
open Go.RowKit Go.Proofs.YtjkjpmfenillcaaW.PrintWords Go.Proofs.YtjkjpmfenillcaaW.PrintLast Go.Proofs.YtjkjpmfenillcaaW.PrintMore
/-- Bytes that lie in neither of two blocks. -/
def FarB (A : Option Addr) (n p : Nat) (row : Option Nat) : Prop := ∀ ad, A = some ad → 0 < n → ad.block ≠ p ∧ some ad.block ≠ row
theorem C_far {w W : World} {A : Option Addr} {n p : Nat} {row : Option Nat} {xs : List Int} (h : Kd.C (Kd.int .u8) w A n xs) (hk : KeepBut w W p row) (hf : FarB A n p row) : Kd.C (Kd.int .u8) W A n xs := by
  have hr := Kd.reads_of_C (d := (0 : Int)) (h1 := fun _ => rfl) h
  refine Kd.C_of_reads (h1 := fun _ => rfl) (d := (0 : Int)) ⟨hr.1, hr.2.1, fun hn => ?_⟩
  obtain ⟨ad, ha, hc⟩ := hr.2.2 hn
  refine ⟨ad, ha, fun j hj => ?_⟩
  have h1 := hc j hj
  have hb := World.block_lt_of_cell? w _ h1
  rw [← h1]
  obtain ⟨f1, f2⟩ := hf ad ha hn
  exact World.cell?_of_block (w := w) (hk.2 _ hb (by rw [add_block]; exact f1) (by rw [add_block]; exact f2))
theorem far_w0 {w0 w : World} {p : Nat} {v : Value} {bs : List Int} {e : Int} {A : Option Addr} {n : Nat} {xs : List Int} (h : Kd.C (Kd.int .u8) w0 A n xs) (ho : OutOK w w0.heap.size p v bs e) : FarB A n p v.ownBlock := by
  intro ad ha hn
  have hr := Kd.reads_of_C (d := (0 : Int)) (h1 := fun _ => rfl) h
  obtain ⟨ad', ha', hc⟩ := hr.2.2 hn
  rw [ha] at ha'
  obtain rfl := Option.some.inj ha'
  have hb := World.block_lt_of_cell? w0 _ (hc 0 hn)
  rw [add_block] at hb
  have h1 := ho.le
  exact ⟨by omega, fun e => by have := Kd.R_base ho.own _ e.symm; omega⟩
theorem keep_alloc_row {w W : World} {g : Nat} {row : Option Nat} (h : KeepBut w W g row) (o : Obj) : KeepBut w (W.alloc o) g row :=
  ⟨Nat.le_trans h.1 (by rw [World.size_alloc]; omega), fun i hi h1 h2 => (Below.heap_alloc W o i (Nat.lt_of_lt_of_le hi h.1)).trans (h.2 i hi h1 h2)⟩
structure BlobF (w : World) (bb c1 c2 : Nat) : Prop where
  c : w.heap[bb]? = some (.cells (numV c1 c2) 118 (0, 0))
  n : NumF w c1 c2 4 65536
theorem BlobF.below {w w1 : World} {bb c1 c2 : Nat} (h : BlobF w bb c1 c2) (hb : Below w.heap.size w w1) : BlobF w1 bb c1 c2 := ⟨blk_below h.c hb, h.n.below hb⟩
def blobS (s : List Int × Int) (ys : List Int) : List Int × Int := putS (numS s 4 65536 (ys.length : Int)) ys
set_option maxRecDepth 100000 in
set_option maxHeartbeats 4000000 in
theorem blob_put (B p : Nat) (w : World) (v : Value) (bs : List Int) (e : Int) (A : Option Addr) (c : Nat) (ys : List Int) (bb c1 c2 : Nat) (hF : BlobF w bb c1 c2) (hl : Kd.C (Kd.int .u8) w A ys.length ys) (hfar : FarB A ys.length p v.ownBlock) (h : OutOK w B p v bs e) (hB : B ≤ w.heap.size) (hbs : bs.length ≤ 1048576) :
    Calls Try.prog 84 #[.pointer (some ⟨p, 0, none⟩), .slice A ys.length c, .pointer (some ⟨bb, 0, none⟩)] w fun r w' => r = .returned (.tuple #[]) ∧ OutTo w B p v (blobS (bs, e) ys) w' := by
  have HO := Aside0.mk h
  have HL := Aside0.mk hl
  have HFA := Aside0.mk hfar
  have hmx := Kd.C_max hl
  have q0 : w.cell? ⟨bb, 0, none⟩ = some (.func (.func 105) #[] #[.pointer (some ⟨c1, 0, none⟩), .pointer (some ⟨c2, 0, none⟩)]) := blk_cell hF.c 0
  have HN := Aside0.mk hF.n
  clear h hl hF hfar
  go_enter Try.func84, Try.ntmps84
  go_wp2_with fail
  with_reducible refine (numput_run B p c1 c2 4 65536 v bs e (ys.length : Int) w HN.out HO.out hB hbs).mono ?_
  rintro r w1 ⟨rfl, hT⟩
  have HT := Aside0.mk hT
  obtain ⟨v1, hO1, hk1, ha1, hb1⟩ := hT
  have HO1 := Aside0.mk hO1
  have HX := Aside0.mk (And.intro hk1 (And.intro ha1 hb1))
  have HC1 := Aside0.mk (C_far HL.out hk1 HFA.out)
  have hs1 := hk1.1
  clear hO1 hk1 ha1 hb1 q0
  go_wp2_with fail
  refine (put_run B p v1 _ _ A c ys w1 HO1.out HC1.out (by omega) (numS_len (bs, e) 4 65536 _ hbs)).mono ?_
  rintro r w2 ⟨rfl, hT2⟩
  have HT2 := Aside0.mk hT2
  clear hT2
  go_wp2_with fail
  go_end0
  exact ⟨rfl, OutTo.trans HX.out.1 HX.out.2.1 HX.out.2.2 (by omega) HT2.out⟩
theorem InTo.past2 {w0 w w1 : World} {p : Nat} {s : List Int × Bool} (h : InTo w0 w p s w1) (hp : p < w.heap.size) {w2 : World} (hb : Below w.heap.size w1 w2) (h0 : w0.heap.size ≤ w.heap.size) : InTo w0 w p s w2 := by
  obtain ⟨⟨A, c, h1⟩, hk⟩ := h
  exact ⟨⟨A, c, h1.le, (hb.block p hp).trans h1.blk, h1.rd, h1.cap, h1.ok, h1.lo.trans (hb.mono h0)⟩, Nat.le_trans hk.1 hb.size, fun i hi h1 h2 => (hb.block i hi).trans (hk.2 i hi h1 h2)⟩
/-- A copy of bytes. -/
theorem empty_own (W : World) (B : Nat) (hB : B ≤ W.heap.size) : Kd.R (Kd.int .u8) 5 (W.alloc (.cells #[] 5)) B (fun _ => True) (.slice (some ⟨W.heap.size, 0, none⟩) 0 0) [] := by
  have h := own_lit_of (enc := Value.int .u8) W B 5 ([] : List Int) hB (by simp)
  exact Kd.R_of_own (h1 := fun _ => rfl) h (fun _ _ => trivial)
set_option maxRecDepth 100000 in
set_option maxHeartbeats 4000000 in
theorem clone_run (A : Option Addr) (c : Nat) (xs : List Int) (w : World) (hc : Kd.C (Kd.int .u8) w A xs.length xs) (hx : xs.length ≤ 140737488355328) :
    Calls Try.prog 87 #[.slice A xs.length c] w fun r w' => ∃ v : Value, r = .returned v ∧ Kd.R (Kd.int .u8) 5 w' w.heap.size (fun _ => True) v xs ∧ Below w.heap.size w w' := by
  have HC := Aside0.mk hc
  have hmx := Kd.C_max hc
  cases A with
  | none =>
    have hx0 : xs = [] := by
      cases xs with
      | nil => rfl
      | cons x l =>
        have hr := Kd.reads_of_C (d := (0 : Int)) (h1 := fun _ => rfl) hc
        obtain ⟨ad, ha, _⟩ := hr.2.2 (by simp)
        cases ha
    subst hx0
    clear hc
    have heq : ∀ W, (binOp .eql 22 (.slice none 0 c) (.slice none 0 0)).run Try.prog W = .ok (.bool true) W := fun W => Lib.run_eql_slice_nil W 22 5 none 0 c 0 0 Try.underlying22
    go_enter Try.func87, Try.ntmps87
    go_wp2_with fail
    go_ret
    exact ⟨_, rfl, Kd.R_nil _ _ _ _ _, Below.refl _ _⟩
  | some ad =>
    clear hc
    have heq : ∀ W, (binOp .eql 22 (.slice (some ad) xs.length c) (.slice none 0 0)).run Try.prog W = .ok (.bool false) W := fun W => Lib.run_eql_slice_nil W 22 5 (some ad) xs.length c 0 0 Try.underlying22
    go_enter Try.func87, Try.ntmps87
    go_wp2_with (refine Kd.R_append_rows (Kd.int .u8) (Rr := fun x cs => cs = [.int .u8 x]) (w0 := w) w.heap.size rfl (.tmp 5) (.tmp 6) 22 5 (.int .u8 0) 1 rfl Try.underlying22 (by kernel_rfl) rfl (by decide) (by decide) (.slice (some ⟨w.heap.size, 0, none⟩) 0 0) [] xs (some ad) xs.length c (fun _ => True) (fun _ => False) rfl rfl (empty_own w w.heap.size (Nat.le_refl _)) (Kd.C_alloc HC.out _) (fun _ _ h => h) (fun _ hk => hk.elim) (fun _ _ => trivial) ((Below.refl _ w).alloc (Nat.le_refl _) _) (by rw [World.size_alloc]; omega) (by simp; omega) ?_; intro v1 w1 ho hb1 hg hat; have HX := Aside0.mk (And.intro ho hb1); clear ho hb1 hg hat)
    go_ret
    exact ⟨_, rfl, HX.out.1, HX.out.2⟩
def blobG (s : List Int × Bool) : List Int × List Int × Bool := takeS (lowI s 4 65536).2 (lowI s 4 65536).1
theorem takeS_len (s : List Int × Bool) (n : Int) : (takeS s n).1.length ≤ s.1.length := by
  unfold takeS
  split
  · simp
  · simp only [List.length_take]; omega
theorem lowI_len (s : List Int × Bool) (a b : Int) : (lowI s a b).2.1.length ≤ s.1.length := by
  unfold lowI takeS
  dsimp only
  split
  · exact Nat.le_refl _
  · simp only [List.length_drop]; omega
theorem takeS_rest (s : List Int × Bool) (n : Int) : (takeS s n).2.1.length ≤ s.1.length := by
  unfold takeS
  split
  · exact Nat.le_refl _
  · simp only [List.length_drop]; omega
theorem InTo.len {w0 w w' : World} {p : Nat} {s : List Int × Bool} (h : InTo w0 w p s w') : ∃ A c, InOK w0 w' p A c s.1 s.2 := h.1
set_option maxRecDepth 100000 in
set_option maxHeartbeats 4000000 in
/-- take, and a copy of it. -/
theorem clone_take (w0 w : World) (p : Nat) (A1 : Option Addr) (c1 : Nat) (o : List Int) (s : List Int × Bool) (w1 : World) (hC : Kd.C (Kd.int .u8) w0 A1 o.length o) (hT : InTo w0 w p s w1) (ho : o.length ≤ 140737488355328) (hp : p < w.heap.size) (h0 : w0.heap.size ≤ w.heap.size) :
    Calls Try.prog 87 #[.slice A1 o.length c1] w1 fun r w' => ∃ v : Value, r = .returned v ∧ Kd.R (Kd.int .u8) 5 w' w.heap.size (fun _ => True) v o ∧ InTo w0 w p s w' := by
  obtain ⟨⟨A2, c2, hI⟩, hk⟩ := hT
  refine (clone_run A1 c1 o w1 (Kd.C_below hC hI.lo) ho).mono ?_
  rintro r w' ⟨v, hr, hR, hB⟩
  exact ⟨v, hr, Kd.R_lower hR hk.1, InTo.past2 ⟨⟨A2, c2, hI⟩, hk⟩ hp (hB.mono hk.1) h0⟩
set_option maxRecDepth 100000 in
set_option maxHeartbeats 4000000 in
theorem blob_get (w0 w : World) (p : Nat) (A : Option Addr) (c : Nat) (bs : List Int) (bad : Bool) (bb c1 c2 : Nat) (hF : BlobF w bb c1 c2) (h : InOK w0 w p A c bs bad) :
    Calls Try.prog 86 #[.pointer (some ⟨p, 0, none⟩), .pointer (some ⟨bb, 0, none⟩)] w fun r w' => ∃ v : Value, r = .returned v ∧ Kd.R (Kd.int .u8) 5 w' w.heap.size (fun _ => True) v (blobG (bs, bad)).1 ∧ InTo w0 w p (blobG (bs, bad)).2 w' := by
  have HI := Aside0.mk h
  have q0 : w.cell? ⟨bb, 1, none⟩ = some (.func (.func 107) #[] #[.pointer (some ⟨c1, 0, none⟩), .pointer (some ⟨c2, 0, none⟩)]) := blk_cell hF.c 1
  have HN := Aside0.mk hF.n
  have hp : p < w.heap.size := blk_lt h.blk
  have hbs : bs.length ≤ 140737488355328 := h.ok.2
  have hB := h.lo.size
  clear h hF
  go_enter Try.func86, Try.ntmps86
  go_wp2_with fail
  with_reducible refine (numget_run w0 w p c1 c2 4 65536 A c bs bad HN.out HI.out).mono ?_
  rintro r w1 ⟨rfl, hT⟩
  have HT := Aside0.mk hT
  obtain ⟨⟨A1, cc1, hI1⟩, hk1⟩ := hT
  have HI1 := Aside0.mk hI1
  clear hI1 hk1 q0
  have e4 : ((4 : Nat) : Int) = 4 := rfl
  simp only [e4] at HI1 HT ⊢
  go_wp2_with fail
  refine (take_run w0 w1 p A1 cc1 _ _ _ HI1.out).mono ?_
  rintro r w2 ⟨A3, c3, rfl, hC3, hcap, hT2⟩
  have HT2 := Aside0.mk (HT.out.bind hT2)
  have HC3 := Aside0.mk hC3
  clear hT2 hC3
  have hlen := Nat.le_trans (takeS_len (lowI (bs, bad) 4 65536).2 (lowI (bs, bad) 4 65536).1) (lowI_len (bs, bad) 4 65536)
  go_wp2_with fail
  refine (clone_take w0 w p A3 c3 _ _ w2 HC3.out HT2.out (Nat.le_trans hlen hbs) hp hB).mono ?_
  rintro r w3 ⟨v, rfl, hR, hT3⟩
  have HX := Aside0.mk (And.intro hR hT3)
  clear hR hT3
  go_wp2_with fail
  go_ret
  exact ⟨v, rfl, HX.out.1, HX.out.2⟩
/-- Just so many bytes. -/
structure FixF (w : World) (bm bn : Nat) (n : Int) : Prop where
  m : w.heap[bm]? = some (.cells #[.bool (decide (0 ≤ n) && decide (n ≤ 65536))] 4 (0, 0))
  n : w.heap[bn]? = some (.cells #[.int .i64 n] 3 (0, 0))
def mayN (n : Int) : Bool := decide (0 ≤ n) && decide (n ≤ 65536)
def fixS (n : Int) (s : List Int × Int) (ys : List Int) : List Int × Int := putS (if s.2 = 0 ∧ (mayN n = false ∨ (ys.length : Int) ≠ n) then (s.1, 1) else s) ys
theorem OutTo.of_set {w w2 : World} {B p : Nat} {v : Value} {bs : List Int} {e e' : Int} {s : List Int × Int} (h : OutOK w B p v bs e) (hB : B ≤ w.heap.size) (h2 : OutTo (w.setCell ⟨p, 1, none⟩ (.int .i64 e')) B p v s w2) : OutTo w B p v s w2 :=
  OutTo.trans ((KeepBut.refl _ _ _).set_ 1 _) (.inl rfl) ((Below.refl _ _).setCell (p := ⟨p, 1, none⟩) h.le _) (by rw [World.size_setCell]; exact hB) h2
theorem FarB.of_set {A : Option Addr} {n p : Nat} {row : Option Nat} {w : World} {xs : List Int} {u : Value} (h : Kd.C (Kd.int .u8) w A n xs) (hf : FarB A n p row) : Kd.C (Kd.int .u8) (w.setCell ⟨p, 1, none⟩ u) A n xs :=
  C_far (row := row) h ((KeepBut.refl _ _ _).set_ 1 _) hf
set_option maxRecDepth 100000 in
set_option maxHeartbeats 4000000 in
theorem fix_put (B p : Nat) (w : World) (v : Value) (bs : List Int) (e : Int) (A : Option Addr) (c : Nat) (ys : List Int) (bm bn : Nat) (n : Int) (hF : FixF w bm bn n) (hl : Kd.C (Kd.int .u8) w A ys.length ys) (hfar : FarB A ys.length p v.ownBlock) (h : OutOK w B p v bs e) (hB : B ≤ w.heap.size) (hbs : bs.length ≤ 1048576) :
    Calls Try.prog 91 #[.pointer (some ⟨p, 0, none⟩), .slice A ys.length c, .pointer (some ⟨bm, 0, none⟩), .pointer (some ⟨bn, 0, none⟩)] w fun r w' => r = .returned (.tuple #[]) ∧ OutTo w B p v (fixS n (bs, e) ys) w' := by
  have HO := Aside0.mk h
  have HL := Aside0.mk hl
  have HFA := Aside0.mk hfar
  have hmx := Kd.C_max hl
  have qm : w.cell? ⟨bm, 0, none⟩ = some (.bool (mayN n)) := blk_cell hF.m 0
  have qn : w.cell? ⟨bn, 0, none⟩ = some (.int .i64 n) := blk_cell hF.n 0
  have c1 : w.cell? ⟨p, 1, none⟩ = some (.int .i64 e) := blk_cell h.blk 1
  have f1 := blkO_free h.blk 1
  obtain ⟨m, hm⟩ : ∃ m, m = mayN n := ⟨_, rfl⟩
  rw [← hm] at qm
  have HM := Aside0.mk hm
  clear h hl hF hfar hm
  by_cases he : e = 0
  · subst he
    cases m
    · have hs : fixS n (bs, 0) ys = putS (bs, 1) ys := by unfold fixS; rw [if_pos ⟨rfl, .inl HM.out.symm⟩]
      rw [hs]
      clear hs
      go_enter Try.func91, Try.ntmps91
      go_wp2_with fail
      refine (put_run B p v bs 1 A c ys _ (HO.out.set' 1) (FarB.of_set HL.out HFA.out) (by rw [World.size_setCell]; exact hB) hbs).mono ?_
      rintro r w2 ⟨rfl, hT2⟩
      have HT2 := Aside0.mk hT2
      clear hT2
      go_wp2_with fail
      go_end0
      exact ⟨rfl, OutTo.of_set HO.out hB HT2.out⟩
    · by_cases hn : (ys.length : Int) = n
      · have hs : fixS n (bs, 0) ys = putS (bs, 0) ys := by unfold fixS; rw [if_neg (fun hh => hh.2.elim (fun h => by rw [← HM.out] at h; cases h) (fun h => h hn))]
        rw [hs]
        have hn1 : ((ys.length : Int) != n) = false := by simpa using hn
        have HNN := Aside0.mk hn
        clear hs hn
        go_enter Try.func91, Try.ntmps91
        go_wp2_with fail
        refine (put_run B p v bs 0 A c ys _ HO.out HL.out hB hbs).mono ?_
        rintro r w2 ⟨rfl, hT2⟩
        have HT2 := Aside0.mk hT2
        clear hT2
        go_wp2_with fail
        go_end0
        exact ⟨rfl, HT2.out⟩
      · have hs : fixS n (bs, 0) ys = putS (bs, 1) ys := by unfold fixS; rw [if_pos ⟨rfl, .inr hn⟩]
        rw [hs]
        have hn1 : ((ys.length : Int) != n) = true := by simpa using hn
        have hn2 : ((ys.length : Int) == n) = false := by simpa using hn
        clear hs hn
        go_enter Try.func91, Try.ntmps91
        go_wp2_with fail
        refine (put_run B p v bs 1 A c ys _ (HO.out.set' 1) (FarB.of_set HL.out HFA.out) (by rw [World.size_setCell]; exact hB) hbs).mono ?_
        rintro r w2 ⟨rfl, hT2⟩
        have HT2 := Aside0.mk hT2
        clear hT2
        go_wp2_with fail
        go_end0
        exact ⟨rfl, OutTo.of_set HO.out hB HT2.out⟩
  · have hs : fixS n (bs, e) ys = putS (bs, e) ys := by unfold fixS; rw [if_neg (by rintro ⟨h, _⟩; exact he h)]
    rw [hs]
    have he1 : (e == 0) = false := by simpa using he
    clear hs
    go_enter Try.func91, Try.ntmps91
    go_wp2_with fail
    refine (put_run B p v bs e A c ys _ HO.out HL.out hB hbs).mono ?_
    rintro r w2 ⟨rfl, hT2⟩
    have HT2 := Aside0.mk hT2
    clear hT2
    go_wp2_with fail
    go_end0
    exact ⟨rfl, HT2.out⟩
def fixG (n : Int) (s : List Int × Bool) : List Int × List Int × Bool := takeS (s.1, s.2 || !mayN n) n
set_option maxRecDepth 100000 in
set_option maxHeartbeats 4000000 in
theorem fix_get (w0 w : World) (p : Nat) (A : Option Addr) (c : Nat) (bs : List Int) (bad : Bool) (bm bn : Nat) (n : Int) (hF : FixF w bm bn n) (hbm : bm ≠ p) (hbn : bn ≠ p) (h : InOK w0 w p A c bs bad) :
    Calls Try.prog 92 #[.pointer (some ⟨p, 0, none⟩), .pointer (some ⟨bm, 0, none⟩), .pointer (some ⟨bn, 0, none⟩)] w fun r w' => ∃ v : Value, r = .returned v ∧ Kd.R (Kd.int .u8) 5 w' w.heap.size (fun _ => True) v (fixG n (bs, bad)).1 ∧ InTo w0 w p (fixG n (bs, bad)).2 w' := by
  have HI := Aside0.mk h
  have qm : w.cell? ⟨bm, 0, none⟩ = some (.bool (mayN n)) := blk_cell hF.m 0
  have qn : w.cell? ⟨bn, 0, none⟩ = some (.int .i64 n) := blk_cell hF.n 0
  have c1 : w.cell? ⟨p, 1, none⟩ = some (.bool bad) := blk_cell h.blk 1
  have f1 := blkO_free h.blk 1
  have hp : p < w.heap.size := blk_lt h.blk
  have hbs : bs.length ≤ 140737488355328 := h.ok.2
  have hB := h.lo.size
  have HSB := Aside0.mk (h.setBad (bad || !mayN n))
  obtain ⟨m, hm⟩ : ∃ m, m = mayN n := ⟨_, rfl⟩
  have HG := Aside0.mk (show fixG n (bs, bad) = takeS (bs, bad || !m) n by rw [hm]; rfl)
  rw [← hm] at qm HSB
  clear h hF hm
  have run : ∀ b' : Bool, (bad || !m) = b' → Calls Try.prog 92 #[.pointer (some ⟨p, 0, none⟩), .pointer (some ⟨bm, 0, none⟩), .pointer (some ⟨bn, 0, none⟩)] w fun r w' => ∃ v : Value, r = .returned v ∧ Kd.R (Kd.int .u8) 5 w' w.heap.size (fun _ => True) v (takeS (bs, b') n).1 ∧ InTo w0 w p (takeS (bs, b') n).2 w' := by
    intro b' hb'
    have HSB2 := Aside0.mk (show InTo w0 w p (bs, b') (w.setCell ⟨p, 1, none⟩ (.bool b')) by rw [← hb']; exact HSB.out)
    cases bad <;> cases m <;> (subst hb'; clear HSB HG; simp only [Bool.not_true, Bool.not_false, Bool.or_true, Bool.or_false, Bool.false_or, Bool.true_or] at HSB2 ⊢)
    all_goals
      have hI2 := HSB2.out.1
      obtain ⟨A2, c2, hI2⟩ := hI2
      have HI2 := Aside0.mk hI2
      clear hI2
      go_enter Try.func92, Try.ntmps92
      go_wp2_with fail
      refine (take_run w0 _ p A2 c2 _ _ _ HI2.out).mono ?_
      rintro r w2 ⟨A3, c3, rfl, hC3, hcap, hT2⟩
      have HT2 := Aside0.mk (HSB2.out.bind hT2)
      have HC3 := Aside0.mk hC3
      clear hT2 hC3
      have hlen := takeS_len (bs, false) n
      go_wp2_with fail
      refine (clone_take w0 w p A3 c3 _ _ w2 HC3.out HT2.out (Nat.le_trans (takeS_len _ _) hbs) hp hB).mono ?_
      rintro r w3 ⟨v, rfl, hR, hT3⟩
      have HX := Aside0.mk (And.intro hR hT3)
      clear hR hT3
      go_wp2_with fail
      go_ret
      exact ⟨v, rfl, HX.out.1, HX.out.2⟩
  rw [HG.out]
  exact run _ rfl
end Go.Proofs.Ytjkjpmfenillcaa.P
/- codec: the makers of fields; no statement of the seat. -/
set_option linter.unusedVariables false
set_option linter.unusedSimpArgs false
namespace Go.Proofs.Ytjkjpmfenillcaa.P
open Go.RowKit Go.Proofs.YtjkjpmfenillcaaW.PrintWords Go.Proofs.YtjkjpmfenillcaaW.PrintLast Go.Proofs.YtjkjpmfenillcaaW.PrintMore
def manyV (dc df : Nat) : Array Value := #[.func (.func 95) #[] #[.pointer (some ⟨dc, 0, none⟩), .pointer (some ⟨df, 0, none⟩)], .func (.func 96) #[] #[.pointer (some ⟨dc, 0, none⟩), .pointer (some ⟨df, 0, none⟩)]]
theorem NumF.alloc {w : World} {b1 b2 n : Nat} {most : Int} (h : NumF w b1 b2 n most) (o : Obj) : NumF (w.alloc o) b1 b2 n most := ⟨blk_alloc h.s o, blk_alloc h.m o, h.hn⟩
theorem two_far {w : World} {b g : Nat} {o : Obj} (h : w.heap[b]? = some o) (hne : b ≠ g) (u v : Value) : ((w.setCell ⟨g, 0, none⟩ u).setCell ⟨g, 1, none⟩ v).heap[b]? = some o :=
  (Below.heap_setCell _ ⟨g, 1, none⟩ v b hne).trans ((Below.heap_setCell w ⟨g, 0, none⟩ u b hne).trans h)
set_option maxRecDepth 100000 in
set_option maxHeartbeats 1000000 in
theorem many_I (a b : Value) (ca cb : Array Value) (ha : a = .func (.func 105) #[] ca) (hb : b = .func (.func 107) #[] cb) (w : World) :
    Calls Try.prog 61 #[.agg #[a, b]] w fun r w' => ∃ bc bf c1 c2, r = .returned (.agg (manyV bc bf)) ∧ ManyF w' bc bf c1 c2 118 #[a, b] ∧ Below w.heap.size w w' := by
  subst ha hb
  have hnn : ∀ W, (binOp .eql 115 (.func (.func 105) #[] ca) .nilFunc).run Try.prog W = .ok (.bool false) W := fun _ => by kernel_rfl
  go_enter Try.func61, Try.ntmps61
  go_wp2_with fail
  refine (number_run 2 4096 (by decide) _).mono ?_
  rintro r w' ⟨b1, b2, rfl, hf, hb⟩
  have h0 : w'.heap[w.heap.size]? = some (.cells #[.func (.func 105) #[] ca, .func (.func 107) #[] cb] 118 (0, 0)) := blk_below (blk_alloc (blk_new w _) _) hb
  have h1 : w'.heap[w.heap.size + 1]? = some (.cells #[.nilFunc, .nilFunc] 135 (0, 0)) := by
    refine blk_below ?_ hb
    have h := blk_new (w.alloc (.cells #[.func (.func 105) #[] ca, .func (.func 107) #[] cb] 118)) (.cells #[.nilFunc, .nilFunc] 135)
    rw [World.size_alloc] at h
    exact h
  have hsz : w.heap.size + 1 < w'.heap.size := blk_lt h1
  have q0 : w'.cell? ⟨w.heap.size + 1, 0, none⟩ = some .nilFunc := blk_cell h1 0
  have q1 : w'.cell? ⟨w.heap.size + 1, 1, none⟩ = some .nilFunc := blk_cell h1 1
  have p0 := blkO_free h1 0
  have p1 := blkO_free h1 1
  have kb : Below w.heap.size w w' := ((Below.refl _ w).alloc (Nat.le_refl _) _).alloc (by rw [World.size_alloc]; omega) _ |>.trans (hb.mono (by simp; omega))
  have HH := Aside0.mk (And.intro h1 (And.intro hf (And.intro h0 kb)))
  clear hf hb h0 h1 kb
  simp only [numV]
  go_wp2_with fail
  obtain ⟨h1, hf, h0, kb⟩ := HH.out
  have n1 := blk_ne hf.s h1 (by decide)
  have n2 := blk_ne hf.m h1 (by decide)
  refine bodyPost_ret (v := .agg (manyV w'.heap.size w.heap.size)) (cell_res (g := w.heap.size + 1) rfl rfl (blk_alloc (two_set h1 _ _) _) Try.underlying135 rfl (by kernel_rfl)) rfl ⟨_, _, b1, b2, rfl, ⟨?_, ((hf.set n1 n2 _ _).set n1 n2 _ _).alloc _, ?_⟩, (two_below (w' := w') kb (by omega) _ _).alloc (by simp only [World.size_setCell]; omega) _⟩
  · have h := blk_new ((w'.setCell ⟨w.heap.size + 1, 0, none⟩ ((manyV w'.heap.size w.heap.size)[0]!)).setCell ⟨w.heap.size + 1, 1, none⟩ ((manyV w'.heap.size w.heap.size)[1]!)) (.cells (numV b1 b2) 118)
    simp only [World.size_setCell] at h
    exact h
  · exact blk_alloc (blk_far (p := ⟨w.heap.size + 1, 1, none⟩) (blk_far (p := ⟨w.heap.size + 1, 0, none⟩) h0 (by show w.heap.size ≠ w.heap.size + 1; omega) _) (by show w.heap.size ≠ w.heap.size + 1; omega) _) _
def blobV (bb : Nat) : Array Value := #[.func (.func 84) #[] #[.pointer (some ⟨bb, 0, none⟩)], .func (.func 86) #[] #[.pointer (some ⟨bb, 0, none⟩)]]
set_option maxRecDepth 100000 in
set_option maxHeartbeats 1000000 in
theorem blob_make (w : World) : Calls Try.prog 57 #[] w fun r w' => ∃ bb c1 c2, r = .returned (.agg (blobV bb)) ∧ BlobF w' bb c1 c2 ∧ Below w.heap.size w w' := by
  go_enter Try.func57, Try.ntmps57
  go_wp2_with fail
  refine (number_run 4 65536 (by decide) _).mono ?_
  rintro r w' ⟨b1, b2, rfl, hf, hb⟩
  have h1 : w'.heap[w.heap.size]? = some (.cells #[.nilFunc, .nilFunc] 123 (0, 0)) := blk_below (blk_new w _) hb
  have hsz : w.heap.size < w'.heap.size := blk_lt h1
  have q0 : w'.cell? ⟨w.heap.size, 0, none⟩ = some .nilFunc := blk_cell h1 0
  have q1 : w'.cell? ⟨w.heap.size, 1, none⟩ = some .nilFunc := blk_cell h1 1
  have p0 := blkO_free h1 0
  have p1 := blkO_free h1 1
  have kb : Below w.heap.size w w' := ((Below.refl _ w).alloc (Nat.le_refl _) _).trans (hb.mono (by simp))
  have HH := Aside0.mk (And.intro h1 (And.intro hf kb))
  clear hf hb h1 kb
  simp only [numV]
  go_wp2_with fail
  obtain ⟨h1, hf, kb⟩ := HH.out
  have n1 := blk_ne hf.s h1 (by decide)
  have n2 := blk_ne hf.m h1 (by decide)
  refine bodyPost_ret (v := .agg (blobV w'.heap.size)) (cell_res (g := w.heap.size) rfl rfl (blk_alloc (two_set h1 _ _) _) Try.underlying123 rfl (by kernel_rfl)) rfl ⟨_, b1, b2, rfl, ⟨?_, ((hf.set n1 n2 _ _).set n1 n2 _ _).alloc _⟩, (two_below (w' := w') kb (Nat.le_refl _) _ _).alloc (by simp only [World.size_setCell]; omega) _⟩
  have h := blk_new ((w'.setCell ⟨w.heap.size, 0, none⟩ ((blobV w'.heap.size)[0]!)).setCell ⟨w.heap.size, 1, none⟩ ((blobV w'.heap.size)[1]!)) (.cells (numV b1 b2) 118)
  simp only [World.size_setCell] at h
  exact h
def fixV (bm bn : Nat) : Array Value := #[.func (.func 91) #[] #[.pointer (some ⟨bm, 0, none⟩), .pointer (some ⟨bn, 0, none⟩)], .func (.func 92) #[] #[.pointer (some ⟨bm, 0, none⟩), .pointer (some ⟨bn, 0, none⟩)]]
set_option maxRecDepth 100000 in
set_option maxHeartbeats 1000000 in
theorem fixed_make (n : Int) (w : World) : Calls Try.prog 59 #[.int .i64 n] w fun r w' => ∃ bm bn, r = .returned (.agg (fixV bm bn)) ∧ FixF w' bm bn n ∧ Below w.heap.size w w' := by
  have run : ∀ m : Bool, mayN n = m → Calls Try.prog 59 #[.int .i64 n] w fun r w' => r = .returned (.agg (fixV (w.heap.size + 1 + 1) w.heap.size)) ∧ w'.heap[w.heap.size + 1 + 1]? = some (.cells #[.bool m] 4 (0, 0)) ∧ w'.heap[w.heap.size]? = some (.cells #[.int .i64 n] 3 (0, 0)) ∧ Below w.heap.size w w' := by
    intro m hm
    have fin : ∀ m : Bool, ∃ w4 : World, w4 = (((w.alloc (.cells #[.int .i64 n] 3)).alloc (.cells (fixV (w.heap.size + 1 + 1) w.heap.size) 123)).alloc (.cells #[.bool m] 4)) ∧ w4.heap[w.heap.size + 1]? = some (.cells (fixV (w.heap.size + 1 + 1) w.heap.size) 123 (0, 0)) ∧ w4.heap[w.heap.size + 1 + 1]? = some (.cells #[.bool m] 4 (0, 0)) ∧ w4.heap[w.heap.size]? = some (.cells #[.int .i64 n] 3 (0, 0)) ∧ Below w.heap.size w w4 := by
      intro m
      have r0 := blk_new w (.cells #[.int .i64 n] 3)
      have r1 := blk_new (w.alloc (.cells #[.int .i64 n] 3)) (.cells (fixV (w.heap.size + 1 + 1) w.heap.size) 123)
      have r2 := blk_new ((w.alloc (.cells #[.int .i64 n] 3)).alloc (.cells (fixV (w.heap.size + 1 + 1) w.heap.size) 123)) (.cells #[.bool m] 4)
      simp only [World.size_alloc] at r1 r2
      exact ⟨_, rfl, blk_alloc r1 _, r2, blk_alloc (blk_alloc r0 _) _, below_alloc (below_alloc (below_alloc (Below.refl _ _) _) _) _⟩
    have FIN := Aside0.mk fin
    clear fin
    by_cases h0 : 0 ≤ n
    · by_cases h1 : n ≤ 65536
      · obtain rfl : m = true := by rw [← hm]; unfold mayN; rw [decide_eq_true h0, decide_eq_true h1]; rfl
        clear hm
        go_enter Try.func59, Try.ntmps59
        go_wp2_with fail
        obtain ⟨w4, hw4, a1, a2, a3, a4⟩ := FIN.out true
        refine bodyPost_ret (v := .agg (fixV (w.heap.size + 1 + 1) w.heap.size)) (cell_res (g := w.heap.size + 1) rfl rfl (by rw [hw4] at a1; exact a1) Try.underlying123 rfl (by kernel_rfl)) rfl ⟨rfl, by rw [hw4] at a2; exact a2, by rw [hw4] at a3; exact a3, by rw [hw4] at a4; exact a4⟩
      · obtain rfl : m = false := by rw [← hm]; unfold mayN; rw [decide_eq_false h1, Bool.and_false]
        clear hm
        have h1' : decide (n ≤ 65536) = false := decide_eq_false h1
        clear h1
        go_enter Try.func59, Try.ntmps59
        go_wp2_with fail
        obtain ⟨w4, hw4, a1, a2, a3, a4⟩ := FIN.out false
        refine bodyPost_ret (v := .agg (fixV (w.heap.size + 1 + 1) w.heap.size)) (cell_res (g := w.heap.size + 1) rfl rfl (by rw [hw4] at a1; exact a1) Try.underlying123 rfl (by kernel_rfl)) rfl ⟨rfl, by rw [hw4] at a2; exact a2, by rw [hw4] at a3; exact a3, by rw [hw4] at a4; exact a4⟩
    · obtain rfl : m = false := by rw [← hm]; unfold mayN; rw [decide_eq_false h0, Bool.false_and]
      clear hm
      have h0' : decide (0 ≤ n) = false := decide_eq_false h0
      clear h0
      go_enter Try.func59, Try.ntmps59
      go_wp2_with fail
      obtain ⟨w4, hw4, a1, a2, a3, a4⟩ := FIN.out false
      refine bodyPost_ret (v := .agg (fixV (w.heap.size + 1 + 1) w.heap.size)) (cell_res (g := w.heap.size + 1) rfl rfl (by rw [hw4] at a1; exact a1) Try.underlying123 rfl (by kernel_rfl)) rfl ⟨rfl, by rw [hw4] at a2; exact a2, by rw [hw4] at a3; exact a3, by rw [hw4] at a4; exact a4⟩
  refine (run (mayN n) rfl).mono ?_
  rintro r w' ⟨h1, h2, h3, h4⟩
  exact ⟨_, _, h1, ⟨h2, h3⟩, h4⟩
end Go.Proofs.Ytjkjpmfenillcaa.P
/- codec.Encode; no statement of the seat. -/
set_option linter.unusedVariables false
set_option linter.unusedSimpArgs false
namespace Go.Proofs.Ytjkjpmfenillcaa.P
open Go.RowKit Go.Proofs.YtjkjpmfenillcaaW.PrintWords Go.Proofs.YtjkjpmfenillcaaW.PrintLast Go.Proofs.YtjkjpmfenillcaaW.PrintMore
/-- A code, or why there is none. -/
def encR (s : List Int × Int) : List Int × Int := if s.2 = 0 then (s.1, 0) else ([], s.2)
set_option maxRecDepth 100000 in
set_option maxHeartbeats 1000000 in
theorem clip_run (A : Option Addr) (n c : Nat) (xs : List Int) (w : World) (B e : Nat) (h : Kd.R (Kd.int .u8) e w B (fun _ => True) (.slice A n c) xs) : Calls Try.prog 66 #[.slice A n c] w fun r w' => (∃ A', r = .returned (.slice A' n n) ∧ Kd.C (Kd.int .u8) w A' n xs) ∧ w' = w := by
  obtain ⟨hn, hc, hC⟩ := Kd.R_reads' h
  have hmx := Kd.C_max hC
  obtain ⟨i0, hi0, _, hs0, _⟩ := info_parts (show (Try.prog.info? 5).map (fun i => (i.zero, i.size, i.bytes)) = some (some (.int .u8 0), 1, 1) by kernel_rfl)
  have hcut : ∀ W, (Instr.slice 22 (.slice A n c) none (some (.int .i64 (n : Int))) (some (.int .i64 (n : Int)))).run Try.prog W = .ok (.slice (if n = 0 then A else A.map (·.add 0)) n n) W := by
    intro W
    have hu : Try.prog.underlying 22 = some (.slice (Try.prog.elem 22)) := by kernel_rfl
    rw [run_slice_hm W 22 A n c hu .i64 .i64 (n : Int) (n : Int) (by omega) (by omega) (by omega)]
    have hz : (sizeOf (Try.prog.elem 22)).run Try.prog W = .ok 1 W := by kernel_rfl
    rw [hz]
    simp [sliced, Result.andThen]
  have hC2 : Kd.C (Kd.int .u8) w A n xs := by rw [hn]; exact hC
  have HC := Aside0.mk hC2
  clear h hC hC2 hi0 hs0 hn
  go_enter Try.func66, Try.ntmps66
  go_wp2_with fail
  go_ret
  exact ⟨⟨_, rfl, HC.out⟩, rfl⟩
theorem FixF.below {w w1 : World} {bm bn : Nat} {n : Int} (h : FixF w bm bn n) (hb : Below w.heap.size w w1) : FixF w1 bm bn n := ⟨blk_below h.m hb, blk_below h.n hb⟩
end Go.Proofs.Ytjkjpmfenillcaa.P
/- codec.First, Decode; no statement of the seat. -/
set_option linter.unusedVariables false
set_option linter.unusedSimpArgs false
namespace Go.Proofs.Ytjkjpmfenillcaa.P
open Go.RowKit Go.Proofs.YtjkjpmfenillcaaW.PrintWords Go.Proofs.YtjkjpmfenillcaaW.PrintLast Go.Proofs.YtjkjpmfenillcaaW.PrintMore
/-- What a beginning is, and how long its code. -/
def fstR {α : Type} (G : List Int × Bool → α × List Int × Bool) (z : α) (b : List Int) : α × Int × Int :=
  if ((G (b, false)).2.2 || decide ((b.length : Int) - ((G (b, false)).2.1.length : Int) > 1048576)) = true then (z, 0, 10) else ((G (b, false)).1, (b.length : Int) - ((G (b, false)).2.1.length : Int), 0)
def decR {α : Type} (G : List Int × Bool → α × List Int × Bool) (z : α) (b : List Int) : α × Int :=
  if (fstR G z b).2.2 ≠ 0 then (z, (fstR G z b).2.2) else if (fstR G z b).2.1 < b.length then (z, 10) else ((fstR G z b).1, 0)
theorem InTo.drewN {w0 w w' : World} {p : Nat} {s : List Int × Bool} (h : InTo w0 w p s w') (m : Nat) : InTo w0 w p s (w'.drewN m) := by
  obtain ⟨⟨A, c, h1⟩, hk⟩ := h
  exact ⟨⟨A, c, h1.le, h1.blk, h1.rd, h1.cap, h1.ok, pw_below_drewN h1.lo m⟩, keep_drewN hk m⟩
end Go.Proofs.Ytjkjpmfenillcaa.P
/- codec, in plain Lean: what was written is read; no statement of the seat. -/
set_option linter.unusedVariables false
set_option linter.unusedSimpArgs false
namespace Go.Proofs.Ytjkjpmfenillcaa.P
open Go.RowKit Go.Proofs.YtjkjpmfenillcaaW.PrintWords Go.Proofs.YtjkjpmfenillcaaW.PrintLast Go.Proofs.YtjkjpmfenillcaaW.PrintMore
theorem emod_step (y a : Int) (ha : 0 < a) : y % (a * 256) = y % a + y / a % 256 * a := by
  have h1 := Int.mul_ediv_add_emod y a
  have h2 := Int.mul_ediv_add_emod (y / a) 256
  have h3 := Int.emod_nonneg y (show a ≠ 0 by omega)
  have h4 := Int.emod_lt_of_pos y ha
  have h5 := Int.emod_nonneg (y / a) (show (256 : Int) ≠ 0 by decide)
  have h6 := Int.emod_lt_of_pos (y / a) (show (0 : Int) < 256 by decide)
  obtain ⟨q, hq⟩ : ∃ q, q = y / a / 256 := ⟨_, rfl⟩
  obtain ⟨r, hr⟩ : ∃ r, r = y / a % 256 := ⟨_, rfl⟩
  obtain ⟨t, ht⟩ : ∃ t, t = y % a := ⟨_, rfl⟩
  rw [← hq, ← hr] at h2
  rw [← ht] at h1 h3 h4
  rw [← hr] at h5 h6
  rw [← hr, ← ht]
  have hy : y = (t + r * a) + (a * 256) * q := by
    rw [← h1, ← h2]
    simp only [Int.mul_add, Int.mul_comm, Int.mul_left_comm]
    omega
  have hlt : t + r * a < a * 256 := by
    have : r * a ≤ 255 * a := Int.mul_le_mul_of_nonneg_right (by omega) (by omega)
    omega
  have h0 : 0 ≤ t + r * a := by
    have : 0 ≤ r * a := Int.mul_nonneg h5 (by omega)
    omega
  rw [hy, Int.add_mul_emod_self_left]
  exact Int.emod_eq_of_lt h0 hlt
theorem leN_leB (x : Int) : ∀ n : Nat, leN (leB x n) = x % 18446744073709551616 % 256 ^ n
  | 0 => by rw [Int.pow_zero, Int.emod_one]; rfl
  | n + 1 => by
    rw [leB_succ, leN_snoc, leN_leB x n, leB_length, Int.pow_succ, emod_step _ _ (Int.pow_pos (by decide)), ← pow8]
theorem leB_ok (x : Int) (n : Nat) : okB (leB x n) := by
  intro y hy
  unfold leB at hy
  obtain ⟨i, _, rfl⟩ := List.mem_map.mp hy
  exact ⟨Int.emod_nonneg _ (by decide), Int.emod_lt_of_pos _ (by decide)⟩
/-- A size that numbers have, and the most that they may be. -/
def Sz (n : Nat) (most : Int) : Prop := (n = 1 ∧ most = 255) ∨ (n = 2 ∧ most = 65535) ∨ (n = 4 ∧ most = 65536) ∨ (n = 2 ∧ most = 4096) ∨ (n = 8 ∧ most = 0) ∨ (n = 1 ∧ most = 1)
def i64 (x : Int) : Prop := -9223372036854775808 ≤ x ∧ x < 9223372036854775808
def okN (n : Nat) (most x : Int) : Prop := n = 8 ∨ (0 ≤ x ∧ x ≤ most)
instance (n : Nat) (most x : Int) : Decidable (okN n most x) := by unfold okN; infer_instance
theorem numS_ok (s : List Int × Int) (n : Nat) (most x : Int) (h0 : s.2 = 0) (h : okN n most x) : numS s n most x = putS s (leB x n) := by
  unfold numS lowS
  have hd : (decide (n = 8) || (decide (0 ≤ x) && decide (x ≤ most))) = true := by
    rw [Bool.or_eq_true, Bool.and_eq_true, decide_eq_true_eq, decide_eq_true_eq, decide_eq_true_eq]; exact h
  rw [hd, if_neg (by simp)]
theorem numS_no (s : List Int × Int) (n : Nat) (most x : Int) (h0 : s.2 = 0) (h : ¬ okN n most x) : numS s n most x = (s.1, 1) := by
  unfold numS lowS
  have hd : (decide (n = 8) || (decide (0 ≤ x) && decide (x ≤ most))) = false := by
    rw [← Bool.not_eq_true, Bool.or_eq_true, Bool.and_eq_true, decide_eq_true_eq, decide_eq_true_eq, decide_eq_true_eq]; exact h
  rw [hd, if_pos ⟨h0, rfl⟩]
  unfold putS
  rw [if_pos (by simp)]
theorem numS_stop (s : List Int × Int) (n : Nat) (most x : Int) (h0 : s.2 ≠ 0) : numS s n most x = s := by
  unfold numS lowS
  rw [if_neg (by rintro ⟨h, _⟩; exact h0 h)]
  unfold putS
  rw [if_pos h0]
/-- A number's bytes, and what stands behind. -/
theorem low_leB (x : Int) (n : Nat) (most : Int) (hs : Sz n most) (hx : i64 x) (ho : okN n most x) (r : List Int) : lowI (leB x n ++ r, false) n most = (x, r, false) := by
  have hl := leB_length x n
  have ht : takeS (leB x n ++ r, false) n = (leB x n, r, false) := by
    unfold takeS
    rw [if_neg (by simp only [Bool.false_eq_true, false_or, not_or, List.length_append, hl]; omega)]
    simp only [Int.toNat_natCast]
    have e1 : (leB x n ++ r).take n = leB x n := by
      have h := List.take_left (l₁ := leB x n) (l₂ := r)
      rwa [hl] at h
    have e2 : (leB x n ++ r).drop n = r := by
      have h := List.drop_left (l₁ := leB x n) (l₂ := r)
      rwa [hl] at h
    rw [e1, e2]
  have hv : wrap64 (leN (leB x n)) = x := by
    rw [leN_leB]
    unfold i64 at hx
    rcases hs with ⟨rfl, rfl⟩ | ⟨rfl, rfl⟩ | ⟨rfl, rfl⟩ | ⟨rfl, rfl⟩ | ⟨rfl, rfl⟩ | ⟨rfl, rfl⟩ <;> unfold wrap64 <;> rcases ho with ho | ho <;> first | omega | (simp only [Int.reducePow]; omega)
  unfold lowI
  rw [ht]
  simp only [hv, Bool.false_or]
  have hd : (decide ((n : Int) < 8) && decide (x > most)) = false := by
    rcases ho with ho | ho
    · subst ho; rfl
    · rw [decide_eq_false (show ¬ x > most by omega), Bool.and_false]
  rw [hd, if_neg (by simp)]
theorem encR_num (n : Nat) (most x : Int) (hn : n ≤ 8) : encR (numS ([], 0) n most x) = if okN n most x then (leB x n, 0) else ([], 1) := by
  have hl := leB_length x n
  by_cases h : okN n most x
  · rw [if_pos h, numS_ok _ _ _ _ rfl h]
    unfold putS
    rw [if_neg (by simp), if_neg (by simp only [List.length_nil]; omega)]
    rfl
  · rw [if_neg h, numS_no _ _ _ _ rfl h]
    rfl
theorem decR_num (n : Nat) (most x : Int) (hs : Sz n most) (hn : n ≤ 8) (hx : i64 x) (ho : okN n most x) : decR (fun s => lowI s n most) 0 (leB x n) = (x, 0) := by
  have hl := leB_length x n
  have h := low_leB x n most hs hx ho []
  rw [List.append_nil] at h
  have hf : fstR (fun s => lowI s n most) 0 (leB x n) = (x, (n : Int), 0) := by
    unfold fstR
    simp only [h]
    rw [if_neg (by simp only [List.length_nil, Bool.false_or, decide_eq_true_eq]; omega)]
    simp [hl]
  unfold decR
  rw [hf]
  simp [hl]
end Go.Proofs.Ytjkjpmfenillcaa.P
/- codec, in plain Lean: blobs, texts, lists; no statement of the seat. -/
set_option linter.unusedVariables false
set_option linter.unusedSimpArgs false
namespace Go.Proofs.Ytjkjpmfenillcaa.P
open Go.RowKit Go.Proofs.YtjkjpmfenillcaaW.PrintWords Go.Proofs.YtjkjpmfenillcaaW.PrintLast Go.Proofs.YtjkjpmfenillcaaW.PrintMore
theorem takeS_app (b r : List Int) : takeS (b ++ r, false) (b.length : Int) = (b, r, false) := by
  unfold takeS
  rw [if_neg (by simp only [Bool.false_eq_true, false_or, not_or, List.length_append]; omega)]
  simp
theorem blobG_is (b r : List Int) (h : b.length ≤ 65536) : blobG (leB (b.length : Int) 4 ++ (b ++ r), false) = (b, r, false) := by
  unfold blobG
  have hl := low_leB (b.length : Int) 4 65536 (.inr (.inr (.inl ⟨rfl, rfl⟩))) ⟨by omega, by omega⟩ (.inr ⟨by omega, by omega⟩) (b ++ r)
  rw [show ((4 : Nat) : Int) = 4 from rfl] at hl
  rw [hl]
  exact takeS_app b r
theorem strOf_bytes (b : List Int) (h : okB b) : bytesOf (strOfNums b) = b := by
  unfold bytesOf strOfNums
  rw [List.map_map]
  refine (List.map_congr_left (g := id) fun x hx => ?_).trans (List.map_id _)
  have h1 := h x hx
  show (((UInt8.ofNat x.toNat).toNat : Nat) : Int) = x
  rw [UInt8.toNat_ofNat']
  omega
theorem strOf_size (b : List Int) : (strOfNums b).size = b.length := by
  show ((b.map fun n => UInt8.ofNat n.toNat).toArray).size = b.length
  simp
end Go.Proofs.Ytjkjpmfenillcaa.P
/- codec, in plain Lean: lists of numbers and what they are written as; no statement of the seat. -/
set_option linter.unusedVariables false
set_option linter.unusedSimpArgs false
namespace Go.Proofs.Ytjkjpmfenillcaa.P
open Go.RowKit Go.Proofs.YtjkjpmfenillcaaW.PrintWords Go.Proofs.YtjkjpmfenillcaaW.PrintLast Go.Proofs.YtjkjpmfenillcaaW.PrintMore
def okInts (b : List Int) : Bool := b.all fun x => decide (-9223372036854775808 ≤ x) && decide (x < 9223372036854775808)
theorem okInts_is {b : List Int} (h : okInts b = true) : ∀ x ∈ b, i64 x := by
  unfold okInts at h
  rw [List.all_eq_true] at h
  intro x hx
  have := h x hx
  rw [Bool.and_eq_true, decide_eq_true_eq, decide_eq_true_eq] at this
  exact this
theorem okInts_of (b : List Int) (h : ∀ y ∈ b, (Lit.int .i64 y).wf = true) : okInts b = true := by
  unfold okInts
  rw [List.all_eq_true]
  intro x hx
  have := h x hx
  simp [Lit.wf, IntKind.min, IntKind.max, IntKind.bits, IntKind.signed] at this
  rw [Bool.and_eq_true, decide_eq_true_eq, decide_eq_true_eq]
  omega
/-- Two strings of bytes are the same just if the bytes are. -/
theorem strOf_ne {a b : List Int} (ha : okB a) (hb : okB b) (h : a ≠ b) : ((strOfNums a).toList == (strOfNums b).toList) = false := by
  rw [beq_eq_false_iff_ne]
  intro e
  rw [ByteArray.toList_eq, ByteArray.toList_eq] at e
  have h1 : strOfNums a = strOfNums b := ByteArray.ext (Array.toList_inj.mp e)
  have h2 := congrArg bytesOf h1
  rw [strOf_bytes a ha, strOf_bytes b hb] at h2
  exact h h2
end Go.Proofs.Ytjkjpmfenillcaa.P
/- codec, in plain Lean: lists of pairs of a number and a blob; no statement of the seat. -/
set_option linter.unusedVariables false
set_option linter.unusedSimpArgs false
namespace Go.Proofs.Ytjkjpmfenillcaa.P
open Go.RowKit Go.Proofs.YtjkjpmfenillcaaW.PrintWords Go.Proofs.YtjkjpmfenillcaaW.PrintLast Go.Proofs.YtjkjpmfenillcaaW.PrintMore
theorem putS_inv (s : List Int × Int) (ys bs : List Int) (h : putS s ys = (bs, 0)) : s.2 = 0 ∧ bs = s.1 ++ ys := by
  unfold putS at h
  split at h
  · rename_i hs
    rw [h] at hs
    exact absurd rfl hs
  · rename_i hs
    split at h
    · cases h
    · exact ⟨by simpa using hs, (Prod.mk.inj h).1.symm⟩
theorem numS_inv (s : List Int × Int) (n : Nat) (most x : Int) (bs : List Int) (h : numS s n most x = (bs, 0)) : s.2 = 0 ∧ okN n most x ∧ bs = s.1 ++ leB x n := by
  by_cases hs : s.2 = 0
  · by_cases ho : okN n most x
    · rw [numS_ok s n most x hs ho] at h
      exact ⟨hs, ho, (putS_inv _ _ _ h).2⟩
    · rw [numS_no s n most x hs ho] at h
      cases h
  · rw [numS_stop s n most x hs] at h
    rw [h] at hs
    exact absurd rfl hs
theorem blobS_inv (s : List Int × Int) (ys bs : List Int) (h : blobS s ys = (bs, 0)) : s.2 = 0 ∧ ys.length ≤ 65536 ∧ bs = s.1 ++ (leB (ys.length : Int) 4 ++ ys) := by
  unfold blobS at h
  obtain ⟨h1, h2⟩ := putS_inv _ _ _ h
  obtain ⟨h3, h4, h5⟩ := numS_inv s 4 65536 (ys.length : Int) (numS s 4 65536 (ys.length : Int)).fst (Prod.ext rfl h1)
  refine ⟨h3, ?_, ?_⟩
  · rcases h4 with h4 | h4
    · cases h4
    · omega
  · rw [h2, h5, List.append_assoc]
end Go.Proofs.Ytjkjpmfenillcaa.P
