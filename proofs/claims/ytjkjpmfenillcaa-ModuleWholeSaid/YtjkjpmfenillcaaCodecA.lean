import Derived.Test.YtjkjpmfenillcaaP0
import Derived.Outline
import Derived.Laws.BitsLemmas
import Derived.Laws.EntriesVeiled
/- codec: what is written, what is read: the inner functions' contracts; no statement of the seat. -/
set_option linter.unusedVariables false
set_option linter.unusedSimpArgs false
namespace Go.Proofs.Ytjkjpmfenillcaa.P
open Go.RowKit Go.Proofs.YtjkjpmfenillcaaW.PrintWords Go.Proofs.YtjkjpmfenillcaaW.PrintLast Go.Proofs.YtjkjpmfenillcaaW.PrintMore
/-- A block 'out' with what it owns. -/
structure OutOK (w : World) (B p : Nat) (v : Value) (bs : List Int) (e : Int) : Prop where
  le : B ≤ p
  blk : w.heap[p]? = some (.cells #[v, .int .i64 e] 147 (0, 0))
  own : Kd.R (Kd.int .u8) 5 w B (fun _ => True) v bs
/-- It has turned, and nothing else but it and what it owns. -/
def OutTo (w : World) (B p : Nat) (v : Value) (s : List Int × Int) (w' : World) : Prop :=
  ∃ v', OutOK w' B p v' s.1 s.2 ∧ KeepBut w w' p v.ownBlock ∧ (v'.ownBlock = v.ownBlock ∨ ∃ b, v'.ownBlock = some b ∧ w.heap.size ≤ b) ∧ Below B w w'
theorem OutTo.refl {w : World} {B p : Nat} {v : Value} {bs : List Int} {e : Int} (h : OutOK w B p v bs e) : OutTo w B p v (bs, e) w :=
  ⟨v, h, KeepBut.refl _ _ _, .inl rfl, Below.refl _ _⟩
theorem OutOK.set {w : World} {B p : Nat} {v : Value} {bs : List Int} {e : Int} (h : OutOK w B p v bs e) (e' : Int) : OutTo w B p v (bs, e') (w.setCell ⟨p, 1, none⟩ (.int .i64 e')) := by
  have hs := blk_set h.blk 1 (.int .i64 e')
  refine ⟨v, ⟨h.le, hs, Kd.R_set h.own h.blk (by intro q hq; simp [Kd.int, Kd.scalar] at hq; subst hq; decide) 1 _⟩, (KeepBut.refl _ _ _).set_ 1 _, .inl rfl, (Below.refl _ _).setCell (p := ⟨p, 1, none⟩) h.le _⟩
theorem blkO_free {t : TypeId} {w : World} {g : Nat} {cs : Array Value} (h : w.heap[g]? = some (.cells cs t (0, 0))) (j : Nat) : w.frozen? ⟨g, j, none⟩ = false := by simp [World.frozen?, h]
/-- What 'put' makes of it. -/
def putS (s : List Int × Int) (ys : List Int) : List Int × Int := if s.2 ≠ 0 then s else if (ys.length : Int) > 1048576 - s.1.length then (s.1, 3) else (s.1 ++ ys, 0)
set_option maxRecDepth 100000 in
set_option maxHeartbeats 2000000 in
theorem put_run (B p : Nat) (v : Value) (bs : List Int) (e : Int) (A : Option Addr) (c : Nat) (ys : List Int) (w : World) (h : OutOK w B p v bs e) (hC : Kd.C (Kd.int .u8) w A ys.length ys) (hB : B ≤ w.heap.size) (hbs : bs.length ≤ 1048576) :
    Calls Try.prog 85 #[.pointer (some ⟨p, 0, none⟩), .slice A ys.length c] w fun r w' => r = .returned (.tuple #[]) ∧ OutTo w B p v (putS (bs, e) ys) w' := by
  have HO := Aside0.mk h
  have c1 : w.cell? ⟨p, 1, none⟩ = some (.int .i64 e) := blk_cell h.blk 1
  have c0 : w.cell? ⟨p, 0, none⟩ = some v := blk_cell h.blk 0
  have f1 := blkO_free h.blk 1
  have f0 := blkO_free h.blk 0
  have HC := Aside0.mk hC
  have hm := Kd.C_max hC
  obtain ⟨A0, c0', hv⟩ := Kd.R_slice h.own
  subst hv
  clear h hC
  by_cases he : e = 0
  · subst he
    by_cases hl : (ys.length : Int) > 1048576 - bs.length
    · have hs : putS (bs, 0) ys = (bs, 3) := by unfold putS; rw [if_neg (by simp), if_pos hl]
      rw [hs]
      clear hs
      have hl' : (1048576 - (bs.length : Int)) < ys.length := hl
      go_enter Try.func85, Try.ntmps85
      go_wp2_with fail
      go_end0
      exact ⟨rfl, HO.out.set 3⟩
    · have hs : putS (bs, 0) ys = (bs ++ ys, 0) := by unfold putS; rw [if_neg (by simp), if_neg hl]
      rw [hs]
      clear hs
      have hl' : (ys.length : Int) ≤ 1048576 - (bs.length : Int) := by omega
      go_enter Try.func85, Try.ntmps85
      go_wp2_with (refine Kd.R_append_rows (Kd.int .u8) (Rr := fun x cs => cs = [.int .u8 x]) (w0 := w) B rfl (.tmp 8) (.tmp 9) 22 5 (.int .u8 0) 1 rfl Try.underlying22 (by kernel_rfl) rfl (by decide) (by decide) (.slice A0 bs.length c0') bs ys A ys.length c (fun _ => True) (fun _ => False) rfl rfl HO.out.own HC.out (fun _ _ h => h) (fun _ hk => hk.elim) (fun _ _ => trivial) (Below.refl _ _) hB (by omega) ?_; intro v1 w1 ho hb1 hg hat; obtain ⟨A1, c1', hv1⟩ := Kd.R_slice ho; subst hv1; simp only [List.length_append] at ho hat; have hblk := blk_grown HO.out.blk hg (Kd.R_ne HO.out.own HO.out.blk (by decide)); have d0 : w1.cell? ⟨p, 0, none⟩ = some (.slice A0 bs.length c0') := blk_cell hblk 0; have g0 := blkO_free hblk 0; have HX := Aside0.mk (And.intro ho (And.intro hb1 (And.intro hg (And.intro hat hblk)))); clear ho hb1 hg hat hblk)
      go_end0
      obtain ⟨ho, hb1, hg, hat, hblk⟩ := HX.out
      exact ⟨rfl, _, ⟨HO.out.le, blk_set hblk 0 _, Kd.R_set ho hblk (by intro q hq; simp [Kd.int, Kd.scalar] at hq; subst hq; decide) 0 _⟩, (KeepBut.of_grown hg p).set_ 0 _, hat, hb1.setCell (p := ⟨p, 0, none⟩) HO.out.le _⟩
  · have hs : putS (bs, e) ys = (bs, e) := by unfold putS; rw [if_pos (by simpa using he)]
    rw [hs]
    clear hs
    have he1 : (e == 0) = false := by simpa using he
    have he2 : (e != 0) = true := by simpa using he
    go_enter Try.func85, Try.ntmps85
    go_wp2_with fail
    go_end0
    exact ⟨rfl, OutTo.refl HO.out⟩
theorem OutTo.trans {w w1 w2 : World} {B p : Nat} {v v1 : Value} {s : List Int × Int} (h1 : KeepBut w w1 p v.ownBlock) (ha : v1.ownBlock = v.ownBlock ∨ ∃ b, v1.ownBlock = some b ∧ w.heap.size ≤ b) (hb : Below B w w1) (hs : B ≤ w1.heap.size) (h2 : OutTo w1 B p v1 s w2) : OutTo w B p v s w2 := by
  obtain ⟨v2, ho, hk, hat, hb2⟩ := h2
  refine ⟨v2, ho, h1.trans hk ?_, ?_, hb.trans hb2⟩
  · rcases ha with ha | ⟨b, hb1, hb2⟩
    · exact .inl ha
    · exact .inr ⟨b, hb1, hb2⟩
  · rcases hat with hat | ⟨b, hb1, hb2⟩
    · rcases ha with ha | ⟨b, hb1, hb2⟩
      · exact .inl (hat.trans ha)
      · exact .inr ⟨b, hat.trans hb1, hb2⟩
    · exact .inr ⟨b, hb1, Nat.le_trans h1.1 hb2⟩
theorem OutTo.bind {w w1 w2 : World} {B p : Nat} {v : Value} {s s' : List Int × Int} (hs : B ≤ w.heap.size) (h1 : OutTo w B p v s w1) (h2 : ∀ v1, OutOK w1 B p v1 s.1 s.2 → OutTo w1 B p v1 s' w2) : OutTo w B p v s' w2 := by
  obtain ⟨v1, ho, hk, hat, hb⟩ := h1
  exact OutTo.trans hk hat hb (Nat.le_trans hs hk.1) (h2 v1 ho)
/-- A number's lowest bytes. -/
def leB (x : Int) (n : Nat) : List Int := (List.range n).map fun i => x % 18446744073709551616 / 2 ^ (8 * i) % 256
theorem leB_length (x : Int) (n : Nat) : (leB x n).length = n := by simp [leB]
theorem leB_succ (x : Int) (n : Nat) : leB x (n + 1) = leB x n ++ [x % 18446744073709551616 / 2 ^ (8 * n) % 256] := by simp [leB, List.range_succ]
/-- An array of eight bytes, filled from its beginning. -/
def arr8 (xs : List Int) : Array Value := ((xs ++ List.replicate (8 - xs.length) 0).map (Value.int .u8)).toArray
theorem arr8_set (xs : List Int) (y : Int) (h : xs.length < 8) : (arr8 xs).setIfInBounds xs.length (.int .u8 y) = arr8 (xs ++ [y]) := by
  unfold arr8
  rw [List.setIfInBounds_toArray]
  congr 1
  obtain ⟨m, hm⟩ : ∃ m, 8 - xs.length = m + 1 := ⟨8 - xs.length - 1, by omega⟩
  rw [hm, List.replicate_succ, List.map_append, List.set_append, if_neg (by simp)]
  simp only [List.length_map, Nat.sub_self, List.map_cons, List.set_cons_zero, List.length_append, List.length_singleton, List.map_append, List.append_assoc, List.map_nil, List.singleton_append]
  rw [show 8 - (xs.length + 1) = m by omega]
theorem arr8_C (w : World) (g : Nat) (t : TypeId) (xs : List Int) (h : w.heap[g]? = some (.cells (arr8 xs) t (0, 0))) (hn : xs.length ≤ 8) : Kd.C (Kd.int .u8) w (some ⟨g, 0, none⟩) xs.length xs := by
  refine Kd.C_of_reads (h1 := fun _ => rfl) (d := (0 : Int)) ⟨rfl, by omega, fun _ => ⟨_, rfl, fun j hj => ?_⟩⟩
  rw [add_plain, blk_cell h j]
  unfold arr8
  rw [List.getElem?_toArray, List.getElem?_map, List.getElem?_append_left hj, List.getD_eq_getElem?_getD, List.getElem?_eq_getElem hj]
  rfl
def lowS (s : List Int × Int) (ok : Bool) (x : Int) (n : Nat) : List Int × Int := putS (if s.2 = 0 ∧ ok = false then (s.1, 1) else s) (leB x n)
theorem OutOK.set' {w : World} {B p : Nat} {v : Value} {bs : List Int} {e : Int} (h : OutOK w B p v bs e) (e' : Int) : OutOK (w.setCell ⟨p, 1, none⟩ (.int .i64 e')) B p v bs e' :=
  ⟨h.le, blk_set h.blk 1 (.int .i64 e'), Kd.R_set h.own h.blk (by intro q hq; simp [Kd.int, Kd.scalar] at hq; subst hq; decide) 1 _⟩
theorem OutOK.keep {w w1 : World} {B p g : Nat} {v : Value} {bs : List Int} {e : Int} (h : OutOK w B p v bs e) (hk : KeepBut w w1 g none) (hg : w.heap.size ≤ g) : OutOK w1 B p v bs e :=
  ⟨h.le, hk.blk h.blk (by have := blk_lt h.blk; omega) (by simp), Kd.R_mono (Kd.R_keep (Kd.R_bound h.own) hk (fun k hk => by have := hk.2.2.1; omega)) (fun _ hk => hk.1)⟩
theorem arr8_len : Try.prog.arrayLen 194 = 8 := by kernel_rfl
theorem arr8_cut (g : Nat) (k : Nat) (hk : k ≤ 8) (W : World) : (Instr.sliceAt 194 (.pointer (some ⟨g, 0, none⟩)) none (some (.int .i64 (k : Int))) none).run Try.prog W = .ok (.slice (some ⟨g, 0, none⟩) k 8) W := by
  have hu : Try.prog.underlying 194 = some (.array (Try.prog.arrayLen 194) (Try.prog.elem 194)) := by kernel_rfl
  rw [run_sliceAt_array_h W 194 ⟨g, 0, none⟩ hu .i64 (k : Int) (by omega) (by rw [arr8_len]; omega)]
  have hz : (sizeOf (Try.prog.elem 194)).run Try.prog W = .ok 1 W := by kernel_rfl
  rw [hz, arr8_len]
  simp [slicedAt, Result.andThen, Addr.add]
theorem keep_past {w w1 w2 : World} {p g : Nat} {row : Option Nat} (h : KeepBut w w1 p row) (k : KeepBut w1 w2 g none) (hg : w.heap.size ≤ g) : KeepBut w w2 p row :=
  ⟨Nat.le_trans h.1 k.1, fun i hi h1 h2 => (k.2 i (Nat.lt_of_lt_of_le hi h.1) (by omega) (by simp)).trans (h.2 i hi h1 h2)⟩
theorem OutOK.alloc {w : World} {B p : Nat} {v : Value} {bs : List Int} {e : Int} (h : OutOK w B p v bs e) (o : Obj) : OutOK (w.alloc o) B p v bs e :=
  ⟨h.le, blk_alloc h.blk o, Kd.R_alloc h.own o⟩
set_option maxRecDepth 100000 in
set_option maxHeartbeats 4000000 in
theorem low_run (B p : Nat) (v : Value) (bs : List Int) (e : Int) (ok : Bool) (x : Int) (n : Nat) (hn : n ≤ 8) (w : World) (h : OutOK w B p v bs e) (hB : B ≤ w.heap.size) (hbs : bs.length ≤ 1048576) :
    Calls Try.prog 106 #[.pointer (some ⟨p, 0, none⟩), .bool ok, .int .i64 x, .int .i64 n] w fun r w' => r = .returned (.tuple #[]) ∧ OutTo w B p v (lowS (bs, e) ok x n) w' := by
  have HO := Aside0.mk h
  have c1 : w.cell? ⟨p, 1, none⟩ = some (.int .i64 e) := blk_cell h.blk 1
  have f1 := blkO_free h.blk 1
  clear h
  by_cases hc : e = 0 ∧ ok = false
  · obtain ⟨rfl, rfl⟩ := hc
    go_enter Try.func106, Try.ntmps106
    go_wp2_with fail
    obtain ⟨W1, hW1⟩ : ∃ W1, W1 = w.setCell ⟨p, 1, none⟩ (.int .i64 1) := ⟨_, rfl⟩
    rw [← hW1]
    have HO1 := Aside0.mk (show OutOK W1 B p v bs 1 by rw [hW1]; exact HO.out.set' 1)
    have HK1 := Aside0.mk (show KeepBut w W1 p v.ownBlock ∧ Below B w W1 by rw [hW1]; exact ⟨(KeepBut.refl _ _ _).set_ 1 _, (Below.refl _ _).setCell (p := ⟨p, 1, none⟩) HO.out.le _⟩)
    have hz1 : W1.heap.size = w.heap.size := by rw [hW1]; simp
    clear hW1 c1 f1
    obtain ⟨W2, hW2⟩ : ∃ W2, W2 = W1.alloc (.cells #[.int .u8 0, .int .u8 0, .int .u8 0, .int .u8 0, .int .u8 0, .int .u8 0, .int .u8 0, .int .u8 0] 194) := ⟨_, rfl⟩
    rw [← hW2]
    have hb2 : W2.heap[w.heap.size]? = some (.cells (arr8 (leB x 0)) 194 (0, 0)) := by rw [hW2, ← hz1]; exact blk_new W1 _
    have hz2 : W2.heap.size = w.heap.size + 1 := by rw [hW2, World.size_alloc, hz1]
    have HO2 := Aside0.mk (show OutOK W2 B p v bs 1 by rw [hW2]; exact OutOK.alloc HO1.out _)
    have HK2 := Aside0.mk (show KeepBut W1 W2 w.heap.size none ∧ Below B W1 W2 by rw [hW2]; exact ⟨keep_alloc (KeepBut.refl _ _ _) _, (Below.refl _ _).alloc (by omega) _⟩)
    have HB2 := Aside0.mk hb2
    have HZ2 := Aside0.mk hz2
    clear hW2 hb2 hz2
    go_loopw [23] (fun v23 wr => ∃ k : Nat, v23 = .int .i64 k ∧ k ≤ n ∧ wr.heap[w.heap.size]? = some (.cells (arr8 (leB x k)) 194 (0, 0)) ∧ KeepBut W2 wr w.heap.size none ∧ Below (w.heap.size) W2 wr) (fun v23 _ => n - (intOf v23).toNat)
    case atStart => exact ⟨0, rfl, Nat.zero_le _, HB2.out, KeepBut.refl _ _ _, Below.refl _ _⟩
    case round =>
      obtain ⟨k, rfl, hk, hbk, hkk, hbw⟩ := hrel
      have HBK := Aside0.mk hbk
      have HKK := Aside0.mk (And.intro hkk hbw)
      have fk := blkO_free hbk k
      clear hbk hkk hbw
      by_cases hlt : k < n
      · have ck : wr.cell? ⟨w.heap.size, k, none⟩ = some (.int .u8 0) := by
          rw [blk_cell HBK.out k]
          unfold arr8
          rw [List.getElem?_toArray, List.getElem?_map, List.getElem?_append_right (by rw [leB_length]; omega), leB_length, Nat.sub_self, List.getElem?_replicate, if_pos (by omega)]
          rfl
        go_wp2_with fail
        go_roundw
        case rel =>
          refine ⟨k + 1, by go_num, by omega, ?_, HKK.out.1.set_ k _, HKK.out.2.setCell (p := ⟨w.heap.size, k, none⟩) (Nat.le_refl _) _⟩
          have h := blk_set HBK.out k (.int .u8 (x % 18446744073709551616 / 2 ^ (8 * k) % 256))
          have h8 := arr8_set (leB x k) (x % 18446744073709551616 / 2 ^ (8 * k) % 256) (by rw [leB_length]; omega)
          rw [leB_length] at h8
          rw [h8, ← leB_succ] at h
          exact h
        case measure => simp [intOf]; omega
      · obtain rfl : k = n := by omega
        have hC := arr8_C wr w.heap.size _ _ HBK.out (by rw [leB_length]; omega)
        have hK3 : KeepBut W1 wr w.heap.size none := HK2.out.1.trans HKK.out.1 (.inl rfl)
        have hO3 := HO1.out.keep hK3 (by omega)
        have hB3 : Below B w wr := (HK1.out.2.trans HK2.out.2).trans (HKK.out.2.mono hB)
        have HF := Aside0.mk (And.intro hO3 (And.intro hC (And.intro hK3 hB3)))
        have hs3 : w.heap.size ≤ wr.heap.size := by have h1 := HK1.out.1.1; have h2 := hK3.1; omega
        clear hC hK3 hO3 hB3
        have hcut := arr8_cut w.heap.size k hn
        go_wp2_with fail
        have hll := leB_length x k
        have hput := put_run B p v bs 1 (some ⟨w.heap.size, 0, none⟩) 8 (leB x k) wr HF.out.1 HF.out.2.1 (by omega) hbs
        rw [hll] at hput
        refine hput.mono ?_
        rintro r w' ⟨rfl, hT⟩
        have HT := Aside0.mk hT
        clear hput hT hll
        go_wp2_with fail
        go_end0
        refine ⟨rfl, ?_⟩
        have he : lowS (bs, 0) false x k = putS (bs, 1) (leB x k) := by unfold lowS; rw [if_pos ⟨rfl, rfl⟩]
        rw [he]
        exact OutTo.trans (keep_past HK1.out.1 HF.out.2.2.1 (Nat.le_refl _)) (.inl rfl) HF.out.2.2.2 (by omega) HT.out
  · have HCC := Aside0.mk hc
    obtain ⟨W1, hW1⟩ : ∃ W1, W1 = w := ⟨_, rfl⟩
    have HO1 := Aside0.mk (show OutOK W1 B p v bs e by rw [hW1]; exact HO.out)
    have HK1 := Aside0.mk (show KeepBut w W1 p v.ownBlock ∧ Below B w W1 by rw [hW1]; exact ⟨KeepBut.refl _ _ _, Below.refl _ _⟩)
    have hz1 : W1.heap.size = w.heap.size := by rw [hW1]
    go_enter Try.func106, Try.ntmps106
    by_cases he : e = 0
    · have hok : ok = true := by cases ok <;> simp_all
      subst he hok
      go_wp2_with fail
      rw [← hW1]
      obtain ⟨W2, hW2⟩ : ∃ W2, W2 = W1.alloc (.cells #[.int .u8 0, .int .u8 0, .int .u8 0, .int .u8 0, .int .u8 0, .int .u8 0, .int .u8 0, .int .u8 0] 194) := ⟨_, rfl⟩
      rw [← hW2]
      have hb2 : W2.heap[w.heap.size]? = some (.cells (arr8 (leB x 0)) 194 (0, 0)) := by rw [hW2, ← hz1]; exact blk_new W1 _
      have hz2 : W2.heap.size = w.heap.size + 1 := by rw [hW2, World.size_alloc, hz1]
      have HO2 := Aside0.mk (show OutOK W2 B p v bs 0 by rw [hW2]; exact OutOK.alloc HO1.out _)
      have HK2 := Aside0.mk (show KeepBut W1 W2 w.heap.size none ∧ Below B W1 W2 by rw [hW2]; exact ⟨keep_alloc (KeepBut.refl _ _ _) _, (Below.refl _ _).alloc (by omega) _⟩)
      have HB2 := Aside0.mk hb2
      have HZ2 := Aside0.mk hz2
      clear hW2 hb2 hz2
      go_loopw [23] (fun v23 wr => ∃ k : Nat, v23 = .int .i64 k ∧ k ≤ n ∧ wr.heap[w.heap.size]? = some (.cells (arr8 (leB x k)) 194 (0, 0)) ∧ KeepBut W2 wr w.heap.size none ∧ Below (w.heap.size) W2 wr) (fun v23 _ => n - (intOf v23).toNat)
      case atStart => exact ⟨0, rfl, Nat.zero_le _, HB2.out, KeepBut.refl _ _ _, Below.refl _ _⟩
      case round =>
        obtain ⟨k, rfl, hk, hbk, hkk, hbw⟩ := hrel
        have HBK := Aside0.mk hbk
        have HKK := Aside0.mk (And.intro hkk hbw)
        have fk := blkO_free hbk k
        clear hbk hkk hbw
        by_cases hlt : k < n
        · have ck : wr.cell? ⟨w.heap.size, k, none⟩ = some (.int .u8 0) := by
            rw [blk_cell HBK.out k]
            unfold arr8
            rw [List.getElem?_toArray, List.getElem?_map, List.getElem?_append_right (by rw [leB_length]; omega), leB_length, Nat.sub_self, List.getElem?_replicate, if_pos (by omega)]
            rfl
          go_wp2_with fail
          go_roundw
          case rel =>
            refine ⟨k + 1, by go_num, by omega, ?_, HKK.out.1.set_ k _, HKK.out.2.setCell (p := ⟨w.heap.size, k, none⟩) (Nat.le_refl _) _⟩
            have h := blk_set HBK.out k (.int .u8 (x % 18446744073709551616 / 2 ^ (8 * k) % 256))
            have h8 := arr8_set (leB x k) (x % 18446744073709551616 / 2 ^ (8 * k) % 256) (by rw [leB_length]; omega)
            rw [leB_length] at h8
            rw [h8, ← leB_succ] at h
            exact h
          case measure => simp [intOf]; omega
        · obtain rfl : k = n := by omega
          have hC := arr8_C wr w.heap.size _ _ HBK.out (by rw [leB_length]; omega)
          have hK3 : KeepBut W1 wr w.heap.size none := HK2.out.1.trans HKK.out.1 (.inl rfl)
          have hO3 := HO1.out.keep hK3 (by omega)
          have hB3 : Below B w wr := (HK1.out.2.trans HK2.out.2).trans (HKK.out.2.mono hB)
          have HF := Aside0.mk (And.intro hO3 (And.intro hC (And.intro hK3 hB3)))
          have hs3 : w.heap.size ≤ wr.heap.size := by have h1 := HK1.out.1.1; have h2 := hK3.1; omega
          clear hC hK3 hO3 hB3
          have hcut := arr8_cut w.heap.size k hn
          go_wp2_with fail
          have hll := leB_length x k
          have hput := put_run B p v bs 0 (some ⟨w.heap.size, 0, none⟩) 8 (leB x k) wr HF.out.1 HF.out.2.1 (by omega) hbs
          rw [hll] at hput
          refine hput.mono ?_
          rintro r w' ⟨rfl, hT⟩
          have HT := Aside0.mk hT
          clear hput hT hll
          go_wp2_with fail
          go_end0
          refine ⟨rfl, ?_⟩
          have he : lowS (bs, 0) true x k = putS (bs, 0) (leB x k) := by unfold lowS; rw [if_neg (by simp)]
          rw [he]
          exact OutTo.trans (keep_past HK1.out.1 HF.out.2.2.1 (Nat.le_refl _)) (.inl rfl) HF.out.2.2.2 (by omega) HT.out
    · have he1 : (e == 0) = false := by simpa using he
      go_wp2_with fail
      rw [← hW1]
      obtain ⟨W2, hW2⟩ : ∃ W2, W2 = W1.alloc (.cells #[.int .u8 0, .int .u8 0, .int .u8 0, .int .u8 0, .int .u8 0, .int .u8 0, .int .u8 0, .int .u8 0] 194) := ⟨_, rfl⟩
      rw [← hW2]
      have hb2 : W2.heap[w.heap.size]? = some (.cells (arr8 (leB x 0)) 194 (0, 0)) := by rw [hW2, ← hz1]; exact blk_new W1 _
      have hz2 : W2.heap.size = w.heap.size + 1 := by rw [hW2, World.size_alloc, hz1]
      have HO2 := Aside0.mk (show OutOK W2 B p v bs e by rw [hW2]; exact OutOK.alloc HO1.out _)
      have HK2 := Aside0.mk (show KeepBut W1 W2 w.heap.size none ∧ Below B W1 W2 by rw [hW2]; exact ⟨keep_alloc (KeepBut.refl _ _ _) _, (Below.refl _ _).alloc (by omega) _⟩)
      have HB2 := Aside0.mk hb2
      have HZ2 := Aside0.mk hz2
      clear hW2 hb2 hz2
      go_loopw [23] (fun v23 wr => ∃ k : Nat, v23 = .int .i64 k ∧ k ≤ n ∧ wr.heap[w.heap.size]? = some (.cells (arr8 (leB x k)) 194 (0, 0)) ∧ KeepBut W2 wr w.heap.size none ∧ Below (w.heap.size) W2 wr) (fun v23 _ => n - (intOf v23).toNat)
      case atStart => exact ⟨0, rfl, Nat.zero_le _, HB2.out, KeepBut.refl _ _ _, Below.refl _ _⟩
      case round =>
        obtain ⟨k, rfl, hk, hbk, hkk, hbw⟩ := hrel
        have HBK := Aside0.mk hbk
        have HKK := Aside0.mk (And.intro hkk hbw)
        have fk := blkO_free hbk k
        clear hbk hkk hbw
        by_cases hlt : k < n
        · have ck : wr.cell? ⟨w.heap.size, k, none⟩ = some (.int .u8 0) := by
            rw [blk_cell HBK.out k]
            unfold arr8
            rw [List.getElem?_toArray, List.getElem?_map, List.getElem?_append_right (by rw [leB_length]; omega), leB_length, Nat.sub_self, List.getElem?_replicate, if_pos (by omega)]
            rfl
          go_wp2_with fail
          go_roundw
          case rel =>
            refine ⟨k + 1, by go_num, by omega, ?_, HKK.out.1.set_ k _, HKK.out.2.setCell (p := ⟨w.heap.size, k, none⟩) (Nat.le_refl _) _⟩
            have h := blk_set HBK.out k (.int .u8 (x % 18446744073709551616 / 2 ^ (8 * k) % 256))
            have h8 := arr8_set (leB x k) (x % 18446744073709551616 / 2 ^ (8 * k) % 256) (by rw [leB_length]; omega)
            rw [leB_length] at h8
            rw [h8, ← leB_succ] at h
            exact h
          case measure => simp [intOf]; omega
        · obtain rfl : k = n := by omega
          have hC := arr8_C wr w.heap.size _ _ HBK.out (by rw [leB_length]; omega)
          have hK3 : KeepBut W1 wr w.heap.size none := HK2.out.1.trans HKK.out.1 (.inl rfl)
          have hO3 := HO1.out.keep hK3 (by omega)
          have hB3 : Below B w wr := (HK1.out.2.trans HK2.out.2).trans (HKK.out.2.mono hB)
          have HF := Aside0.mk (And.intro hO3 (And.intro hC (And.intro hK3 hB3)))
          have hs3 : w.heap.size ≤ wr.heap.size := by have h1 := HK1.out.1.1; have h2 := hK3.1; omega
          clear hC hK3 hO3 hB3
          have hcut := arr8_cut w.heap.size k hn
          go_wp2_with fail
          have hll := leB_length x k
          have hput := put_run B p v bs e (some ⟨w.heap.size, 0, none⟩) 8 (leB x k) wr HF.out.1 HF.out.2.1 (by omega) hbs
          rw [hll] at hput
          refine hput.mono ?_
          rintro r w' ⟨rfl, hT⟩
          have HT := Aside0.mk hT
          clear hput hT hll
          go_wp2_with fail
          go_end0
          refine ⟨rfl, ?_⟩
          have he : lowS (bs, e) ok x k = putS (bs, e) (leB x k) := by unfold lowS; rw [if_neg (by simp [he])]
          rw [he]
          exact OutTo.trans (keep_past HK1.out.1 HF.out.2.2.1 (Nat.le_refl _)) (.inl rfl) HF.out.2.2.2 (by omega) HT.out

end Go.Proofs.Ytjkjpmfenillcaa.P
/- codec: what is read: the inner functions' contracts; no statement of the seat. -/
set_option linter.unusedVariables false
set_option linter.unusedSimpArgs false
namespace Go.Proofs.Ytjkjpmfenillcaa.P
open Go.RowKit Go.Proofs.YtjkjpmfenillcaaW.PrintWords Go.Proofs.YtjkjpmfenillcaaW.PrintLast Go.Proofs.YtjkjpmfenillcaaW.PrintMore
/-- Bytes. -/
def okB (b : List Int) : Prop := ∀ x ∈ b, 0 ≤ x ∧ x < 256
theorem okB.drop {b : List Int} (h : okB b) (i : Nat) : okB (b.drop i) := fun y hy => h y (List.mem_of_mem_drop hy)
theorem okB.take {b : List Int} (h : okB b) (i : Nat) : okB (b.take i) := fun y hy => h y (List.mem_of_mem_take hy)
def okL (b : List Int) : Prop := okB b ∧ b.length ≤ 140737488355328
theorem okL.drop {b : List Int} (h : okL b) (i : Nat) : okL (b.drop i) := ⟨h.1.drop i, by rw [List.length_drop]; have := h.2; omega⟩
theorem okL.take {b : List Int} (h : okL b) (i : Nat) : okL (b.take i) := ⟨h.1.take i, by rw [List.length_take]; have := h.2; omega⟩
/-- A block 'in'; what it reads lay ahead of it. -/
structure InOK (w0 w : World) (p : Nat) (A : Option Addr) (c : Nat) (bs : List Int) (bad : Bool) : Prop where
  le : w0.heap.size ≤ p
  blk : w.heap[p]? = some (.cells #[.slice A bs.length c, .bool bad] 165 (0, 0))
  rd : Kd.C (Kd.int .u8) w0 A bs.length bs
  cap : bs.length ≤ c
  ok : okL bs
  lo : Below w0.heap.size w0 w
def InTo (w0 w : World) (p : Nat) (s : List Int × Bool) (w' : World) : Prop := (∃ A c, InOK w0 w' p A c s.1 s.2) ∧ KeepBut w w' p none
theorem InOK.setBad {w0 w : World} {p : Nat} {A : Option Addr} {c : Nat} {bs : List Int} {bad : Bool} (h : InOK w0 w p A c bs bad) (b' : Bool) : InTo w0 w p (bs, b') (w.setCell ⟨p, 1, none⟩ (.bool b')) :=
  ⟨⟨A, c, h.le, blk_set h.blk 1 _, h.rd, h.cap, h.ok, h.lo.setCell (p := ⟨p, 1, none⟩) h.le _⟩, (KeepBut.refl _ _ _).set_ 1 _⟩
theorem InTo.refl {w0 w : World} {p : Nat} {A : Option Addr} {c : Nat} {bs : List Int} {bad : Bool} (h : InOK w0 w p A c bs bad) : InTo w0 w p (bs, bad) w := ⟨⟨A, c, h⟩, KeepBut.refl _ _ _⟩
theorem InTo.bind {w0 w w1 w2 : World} {p : Nat} {s s' : List Int × Bool} (h1 : InTo w0 w p s w1) (h2 : InTo w0 w1 p s' w2) : InTo w0 w p s' w2 := ⟨h2.1, h1.2.trans h2.2 (.inl rfl)⟩
def takeS (s : List Int × Bool) (n : Int) : List Int × List Int × Bool := if s.2 = true ∨ n < 0 ∨ n > s.1.length then ([], s.1, true) else (s.1.take n.toNat, s.1.drop n.toNat, false)
set_option maxRecDepth 100000 in
set_option maxHeartbeats 4000000 in
theorem take_run (w0 w : World) (p : Nat) (A : Option Addr) (c : Nat) (bs : List Int) (bad : Bool) (n : Int) (h : InOK w0 w p A c bs bad) :
    Calls Try.prog 88 #[.pointer (some ⟨p, 0, none⟩), .int .i64 n] w fun r w' => ∃ A1 c1, r = .returned (.slice A1 (takeS (bs, bad) n).1.length c1) ∧ Kd.C (Kd.int .u8) w0 A1 (takeS (bs, bad) n).1.length (takeS (bs, bad) n).1 ∧ (takeS (bs, bad) n).1.length ≤ c1 ∧ InTo w0 w p (takeS (bs, bad) n).2 w' := by
  have HI := Aside0.mk h
  have c0 : w.cell? ⟨p, 0, none⟩ = some (.slice A bs.length c) := blk_cell h.blk 0
  have c1 : w.cell? ⟨p, 1, none⟩ = some (.bool bad) := blk_cell h.blk 1
  have f0 := blkO_free h.blk 0
  have f1 := blkO_free h.blk 1
  have hmx := Kd.C_max h.rd
  clear h
  by_cases hb : bad = true
  · subst hb
    have hs : takeS (bs, true) n = ([], bs, true) := by unfold takeS; rw [if_pos (.inl rfl)]
    rw [hs]
    clear hs
    go_enter Try.func88, Try.ntmps88
    go_wp2_with fail
    go_ret
    exact ⟨none, 0, rfl, Kd.C_nil _ _, by simp, HI.out.setBad true⟩
  · obtain rfl : bad = false := by cases bad <;> simp_all
    clear hb
    by_cases h0 : n < 0
    · have hs : takeS (bs, false) n = ([], bs, true) := by unfold takeS; rw [if_pos (.inr (.inl h0))]
      rw [hs]
      clear hs
      go_enter Try.func88, Try.ntmps88
      go_wp2_with fail
      go_ret
      exact ⟨none, 0, rfl, Kd.C_nil _ _, by simp, HI.out.setBad true⟩
    · by_cases h1 : n > bs.length
      · have hs : takeS (bs, false) n = ([], bs, true) := by unfold takeS; rw [if_pos (.inr (.inr h1))]
        rw [hs]
        clear hs
        have h1' : (bs.length : Int) < n := h1
        have h0' : 0 ≤ n := by omega
        clear h0 h1
        go_enter Try.func88, Try.ntmps88
        go_wp2_with fail
        go_ret
        exact ⟨none, 0, rfl, Kd.C_nil _ _, by simp, HI.out.setBad true⟩
      · have hs : takeS (bs, false) n = (bs.take n.toNat, bs.drop n.toNat, false) := by unfold takeS; rw [if_neg (by simp only [Bool.false_eq_true, false_or, not_or]; omega)]
        rw [hs]
        clear hs
        have h1' : n ≤ (bs.length : Int) := by omega
        have h0' : 0 ≤ n := by omega
        obtain ⟨i0, hi0, _, hs0, _⟩ := info_parts (show (Try.prog.info? 5).map (fun i => (i.zero, i.size, i.bytes)) = some (some (.int .u8 0), 1, 1) by kernel_rfl)
        obtain ⟨ht, htr, htl⟩ := print_take_of (P := Try.prog) (Value.int .u8) 0 22 5 .i64 Try.underlying22 hi0 hs0 A c bs n h0' h1' HI.out.cap
        obtain ⟨A', hd, hdr, hdl⟩ := print_drop_of (P := Try.prog) (Value.int .u8) 0 22 5 .i64 Try.underlying22 hi0 hs0 A c bs n h0' h1' HI.out.cap
        have HT := Aside0.mk (htr w0 (Kd.reads_of_C HI.out.rd))
        have HD := Aside0.mk (hdr w0 (Kd.reads_of_C HI.out.rd))
        have HL := Aside0.mk htl
        have HDL := Aside0.mk hdl
        clear hi0 hs0 htr hdr h0 h1 htl hdl
        go_enter Try.func88, Try.ntmps88
        go_wp2_with fail
        go_ret
        have e1 : (bs.take n.toNat).length = n.toNat := by rw [List.length_take]; omega
        refine ⟨A, c, by rw [show (List.take n.toNat bs, List.drop n.toNat bs, false).1.length = n.toNat from e1]; rfl, Kd.C_of_reads (h1 := fun _ => rfl) HT.out, HL.out, ⟨A', c - n.toNat, HI.out.le, ?_, Kd.C_of_reads (h1 := fun _ => rfl) HD.out, HDL.out, HI.out.ok.drop _, HI.out.lo.setCell (p := ⟨p, 0, none⟩) HI.out.le _⟩, (KeepBut.refl _ _ _).set_ 0 _⟩
        have hb := blk_set HI.out.blk 0 (.slice A' (bs.length - n.toNat) (c - n.toNat))
        rw [← List.length_drop] at hb
        rw [← List.length_drop]
        exact hb
/-- What bytes are, the lowest first. -/
def leN : List Int → Int
  | [] => 0
  | b :: l => b + 256 * leN l
theorem leN_range : ∀ (l : List Int), okB l → 0 ≤ leN l ∧ leN l < 256 ^ l.length
  | [], _ => by simp [leN]
  | b :: l, h => by
    have h1 := leN_range l (fun y hy => h y (List.mem_cons_of_mem _ hy))
    have h2 := h b List.mem_cons_self
    rw [leN, List.length_cons, Int.pow_succ]
    omega
theorem leN_snoc : ∀ (l : List Int) (b : Int), leN (l ++ [b]) = leN l + b * 256 ^ l.length
  | [], b => by simp [leN]
  | a :: l, b => by
    rw [List.cons_append, leN, leN_snoc l b, leN, List.length_cons, Int.pow_succ]
    rw [Int.mul_add, Int.mul_comm (256 ^ l.length) 256, ← Int.mul_assoc, ← Int.mul_assoc, Int.mul_comm b 256]
    omega
theorem pow8 (k : Nat) : (256 : Int) ^ k = 2 ^ (8 * k) := by rw [Int.pow_mul]; rfl
/-- A byte more, or-ed in. -/
theorem leN_or (l : List Int) (b : Int) (hl : okB l) (h0 : 0 ≤ b) (h1 : b < 256) (hk : l.length < 8) : Go.bits .or .u64 (leN l) (b * 2 ^ (8 * l.length) % 18446744073709551616) = leN (l ++ [b]) := by
  have hr := leN_range l hl
  rw [pow8] at hr
  have hp : (0 : Int) < 2 ^ (8 * l.length) := Int.pow_pos (by decide)
  have hm : (2 : Int) ^ (8 * l.length) ≤ 2 ^ 56 := by exact_mod_cast Nat.pow_le_pow_right (n := 2) (by decide) (show 8 * l.length ≤ 56 by omega)
  have hb : b * 2 ^ (8 * l.length) < 2 ^ 64 := by
    have : b * 2 ^ (8 * l.length) ≤ 255 * 2 ^ 56 := Int.mul_le_mul (by omega) hm (by omega) (by decide)
    omega
  have hb0 : 0 ≤ b * 2 ^ (8 * l.length) := Int.mul_nonneg h0 (by omega)
  rw [leN_snoc, pow8, show b * 2 ^ (8 * l.length) % 18446744073709551616 = b * 2 ^ (8 * l.length) from Int.emod_eq_of_lt hb0 hb]
  have hw : ∀ n : Int, 0 ≤ n → n < 2 ^ 64 → IntKind.u64.wrap n = n := fun n h0 h1 => by rw [IntKind.wrap_u64]; omega
  have hc := bits_join .u64 64 (by decide) hw (8 * l.length) (b * 2 ^ (8 * l.length)) (leN l) hb0 (Int.mul_emod_left _ _) hb hr.1 hr.2 (by omega)
  have hcomm : bits .or .u64 (leN l) (b * 2 ^ (8 * l.length)) = bits .or .u64 (b * 2 ^ (8 * l.length)) (leN l) := by simp only [bits, BitVec.or_comm]
  rw [hcomm, hc]
  omega
/-- What 'low' reads. -/
def lowI (s : List Int × Bool) (size most : Int) : Int × List Int × Bool :=
  let r := takeS s size
  let x := wrap64 (leN r.1)
  let bad := r.2.2 || (decide (size < 8) && decide (x > most))
  (if bad = true then 0 else x, r.2.1, bad)
set_option maxRecDepth 100000 in
set_option maxHeartbeats 4000000 in
theorem inlow_run (w0 w : World) (p : Nat) (A : Option Addr) (c : Nat) (bs : List Int) (bad : Bool) (size most : Int) (h8 : size ≤ 8) (h : InOK w0 w p A c bs bad) :
    Calls Try.prog 108 #[.pointer (some ⟨p, 0, none⟩), .int .i64 size, .int .i64 most] w fun r w' => r = .returned (.int .i64 (lowI (bs, bad) size most).1) ∧ InTo w0 w p (lowI (bs, bad) size most).2 w' := by
  have HI := Aside0.mk h
  clear h
  go_enter Try.func108, Try.ntmps108
  go_wp2_with fail
  refine (take_run w0 w p A c bs bad size HI.out).mono ?_
  rintro r w1 ⟨A1, c1, rfl, hC, hcap, hT⟩
  have HT := Aside0.mk hT
  have HLI := Aside0.mk (show lowI (bs, bad) size most = (if ((takeS (bs, bad) size).2.2 || (decide (size < 8) && decide (wrap64 (leN (takeS (bs, bad) size).1) > most))) = true then 0 else wrap64 (leN (takeS (bs, bad) size).1), (takeS (bs, bad) size).2.1, (takeS (bs, bad) size).2.2 || (decide (size < 8) && decide (wrap64 (leN (takeS (bs, bad) size).1) > most))) from rfl)
  have hok : okB (takeS (bs, bad) size).1 ∧ (takeS (bs, bad) size).1.length ≤ 8 := by
    unfold takeS
    split
    · exact ⟨by intro y hy; simp at hy, by simp⟩
    · exact ⟨HI.out.ok.1.take _, by simp only [List.length_take]; omega⟩
  have hT2 := hT.1
  generalize takeS (bs, bad) size = T at *
  obtain ⟨o, b1, bd⟩ := T
  dsimp only at *
  obtain ⟨⟨A2, c2, hI2⟩, hk2⟩ := hT
  have HC := Aside0.mk (Kd.C_below hC hI2.lo)
  have HI2 := Aside0.mk hI2
  have HOK := Aside0.mk hok
  have d1 : w1.cell? ⟨p, 1, none⟩ = some (.bool bd) := blk_cell hI2.blk 1
  have g1 := blkO_free hI2.blk 1
  have hmx : o.length ≤ 8 := hok.2
  clear hT2 hI2 hk2 hC hok hcap
  go_wp2_with fail
  go_loop [7, 14] (fun v7 v14 => ∃ k : Nat, v14 = .int .i64 k ∧ k ≤ o.length ∧ v7 = .int .u64 (leN (o.take k))) (fun _ v14 => o.length - (intOf v14).toNat)
  case atStart => exact ⟨0, rfl, Nat.zero_le _, rfl⟩
  case round =>
    obtain ⟨k, rfl, hk, rfl⟩ := hrel
    by_cases hlt : k < o.length
    · obtain ⟨ad, rfl, hc⟩ := Kd.at_int HC.out (k : Int) (by omega) (by omega)
      rw [Int.toNat_natCast] at hc
      have hb : 0 ≤ rd o k ∧ rd o k < 256 := by
        unfold rd
        rw [Int.toNat_natCast, List.getD_eq_getElem?_getD, List.getElem?_eq_getElem hlt]
        exact HOK.out.1 _ (List.getElem_mem hlt)
      obtain ⟨hb0, hb1⟩ := hb
      obtain ⟨y, hy⟩ : ∃ y, y = rd o k := ⟨_, rfl⟩
      rw [← hy] at hc hb0 hb1
      have HY := Aside0.mk hy
      clear hy
      obtain ⟨z, hz⟩ : ∃ z, z = leN (o.take k) := ⟨_, rfl⟩
      rw [← hz]
      have HZ := Aside0.mk hz
      clear hz
      go_wp2_with fail
      go_round
      case rel =>
        refine ⟨k + 1, by go_num, by omega, ?_⟩
        have hn := leN_or (o.take k) y (HOK.out.1.take k) hb0 hb1 (by rw [List.length_take]; omega)
        rw [← HZ.out, List.length_take, Nat.min_eq_left (by omega)] at hn
        have he : o.take (k + 1) = o.take k ++ [y] := by
          rw [List.take_succ_eq_append_getElem hlt, HY.out]
          unfold rd
          rw [Int.toNat_natCast, List.getD_eq_getElem?_getD, List.getElem?_eq_getElem hlt]
          rfl
        rw [he, ← hn]
        rfl
      case measure => simp [intOf]; omega
    · obtain rfl : k = o.length := by omega
      rw [List.take_length]
      obtain ⟨z, hz⟩ : ∃ z, z = leN o := ⟨_, rfl⟩
      rw [← hz]
      have HLI2 := Aside0.mk (show lowI (bs, bad) size most = (if (bd || (decide (size < 8) && decide (wrap64 z > most))) = true then 0 else wrap64 z, b1, bd || (decide (size < 8) && decide (wrap64 z > most))) by rw [hz]; exact HLI.out)
      clear hz hk hlt
      by_cases hs : size < 8
      · by_cases hm : wrap64 z > most
        · have hm' : most < wrap64 z := hm
          have he : lowI (bs, bad) size most = (0, b1, true) := by rw [HLI2.out, decide_eq_true hs, decide_eq_true hm, Bool.true_and, Bool.or_true, if_pos rfl]
          have HE := Aside0.mk he
          clear he hm
          go_wp2_with fail
          go_ret
          rw [HE.out]
          exact ⟨rfl, HT.out.bind (HI2.out.setBad true)⟩
        · have hm' : wrap64 z ≤ most := by omega
          have he : lowI (bs, bad) size most = (if bd = true then 0 else wrap64 z, b1, bd) := by rw [HLI2.out, decide_eq_false hm, Bool.and_false, Bool.or_false]
          have HE := Aside0.mk he
          clear he hm
          cases bd
          · go_wp2_with fail
            go_ret
            rw [HE.out, if_neg (by decide)]
            exact ⟨rfl, HT.out⟩
          · go_wp2_with fail
            go_ret
            rw [HE.out]
            exact ⟨rfl, HT.out⟩
      · have he : lowI (bs, bad) size most = (if bd = true then 0 else wrap64 z, b1, bd) := by rw [HLI2.out, decide_eq_false hs, Bool.false_and, Bool.or_false]
        have hs' : 8 ≤ size := by omega
        have HE := Aside0.mk he
        clear he hs
        cases bd
        · go_wp2_with fail
          go_ret
          rw [HE.out, if_neg (by decide)]
          exact ⟨rfl, HT.out⟩
        · go_wp2_with fail
          go_ret
          rw [HE.out]
          exact ⟨rfl, HT.out⟩
/-- A closure over two boxes. -/
def Two (w : World) (b1 b2 : Nat) (t1 t2 : TypeId) (x1 x2 : Array Value) : Prop := w.heap[b1]? = some (.cells x1 t1 (0, 0)) ∧ w.heap[b2]? = some (.cells x2 t2 (0, 0))
/-- A field of numbers: its two functions, over boxes with its size and the most that it may be. -/
def numV (b1 b2 : Nat) : Array Value := #[.func (.func 105) #[] #[.pointer (some ⟨b1, 0, none⟩), .pointer (some ⟨b2, 0, none⟩)], .func (.func 107) #[] #[.pointer (some ⟨b1, 0, none⟩), .pointer (some ⟨b2, 0, none⟩)]]
structure NumF (w : World) (b1 b2 : Nat) (n : Nat) (most : Int) : Prop where
  s : w.heap[b1]? = some (.cells #[.int .i64 n] 3 (0, 0))
  m : w.heap[b2]? = some (.cells #[.int .i64 most] 3 (0, 0))
  hn : n ≤ 8
theorem NumF.below {w w1 : World} {b1 b2 n : Nat} {most : Int} (h : NumF w b1 b2 n most) (hb : Below w.heap.size w w1) : NumF w1 b1 b2 n most := ⟨blk_below h.s hb, blk_below h.m hb, h.hn⟩
/-- What a field of numbers writes. -/
def numS (s : List Int × Int) (n : Nat) (most x : Int) : List Int × Int := lowS s (decide (n = 8) || (decide (0 ≤ x) && decide (x ≤ most))) x n
set_option maxRecDepth 100000 in
set_option maxHeartbeats 400000 in
theorem numput_run (B p b1 b2 n : Nat) (most : Int) (v : Value) (bs : List Int) (e : Int) (x : Int) (w : World) (hf : NumF w b1 b2 n most) (h : OutOK w B p v bs e) (hB : B ≤ w.heap.size) (hbs : bs.length ≤ 1048576) :
    Calls Try.prog 105 #[.pointer (some ⟨p, 0, none⟩), .int .i64 x, .pointer (some ⟨b1, 0, none⟩), .pointer (some ⟨b2, 0, none⟩)] w fun r w' => r = .returned (.tuple #[]) ∧ OutTo w B p v (numS (bs, e) n most x) w' := by
  have HO := Aside0.mk h
  have cs : w.cell? ⟨b1, 0, none⟩ = some (.int .i64 n) := blk_cell hf.s 0
  have cm : w.cell? ⟨b2, 0, none⟩ = some (.int .i64 most) := blk_cell hf.m 0
  have hn := hf.hn
  clear h hf
  by_cases h8 : n = 8
  · subst h8
    have he : numS (bs, e) 8 most x = lowS (bs, e) true x 8 := by simp [numS]
    rw [he]
    clear he
    go_enter Try.func105, Try.ntmps105
    go_wp2_with fail
    have hl := low_run B p v bs e true x 8 (by decide) w HO.out hB hbs
    rw [show ((8 : Nat) : Int) = 8 from rfl] at hl
    with_reducible refine hl.mono ?_
    rintro r w' ⟨rfl, hT⟩
    have HT := Aside0.mk hT
    clear hT
    go_wp2_with fail
    go_end0
    exact ⟨rfl, HT.out⟩
  · have h8' : ((n : Int) == 8) = false := beq_eq_false_iff_ne.mpr (by omega)
    by_cases h0 : 0 ≤ x
    · by_cases hm : x ≤ most
      · have he : numS (bs, e) n most x = lowS (bs, e) true x n := by unfold numS; rw [decide_eq_true h0, decide_eq_true hm, Bool.true_and, Bool.or_true]
        rw [he]
        clear he h8
        go_enter Try.func105, Try.ntmps105
        go_wp2_with fail
        with_reducible refine (low_run B p v bs e true x n hn w HO.out hB hbs).mono ?_
        rintro r w' ⟨rfl, hT⟩
        have HT := Aside0.mk hT
        clear hT
        go_wp2_with fail
        go_end0
        exact ⟨rfl, HT.out⟩
      · have he : numS (bs, e) n most x = lowS (bs, e) false x n := by unfold numS; rw [decide_eq_true h0, decide_eq_false hm, Bool.true_and, Bool.or_false, decide_eq_false h8]
        rw [he]
        have hm' : decide (x ≤ most) = false := decide_eq_false hm
        clear he h8 hm
        go_enter Try.func105, Try.ntmps105
        go_wp2_with fail
        with_reducible refine (low_run B p v bs e false x n hn w HO.out hB hbs).mono ?_
        rintro r w' ⟨rfl, hT⟩
        have HT := Aside0.mk hT
        clear hT
        go_wp2_with fail
        go_end0
        exact ⟨rfl, HT.out⟩
    · have he : numS (bs, e) n most x = lowS (bs, e) false x n := by unfold numS; rw [decide_eq_false h0, Bool.false_and, Bool.or_false, decide_eq_false h8]
      rw [he]
      have h0' : decide (0 ≤ x) = false := decide_eq_false h0
      have h0'' : x < 0 := by omega
      clear he h8 h0
      go_enter Try.func105, Try.ntmps105
      go_wp2_with fail
      with_reducible refine (low_run B p v bs e false x n hn w HO.out hB hbs).mono ?_
      rintro r w' ⟨rfl, hT⟩
      have HT := Aside0.mk hT
      clear hT
      go_wp2_with fail
      go_end0
      exact ⟨rfl, HT.out⟩
set_option maxRecDepth 100000 in
set_option maxHeartbeats 4000000 in
theorem numget_run (w0 w : World) (p b1 b2 n : Nat) (most : Int) (A : Option Addr) (c : Nat) (bs : List Int) (bad : Bool) (hf : NumF w b1 b2 n most) (h : InOK w0 w p A c bs bad) :
    Calls Try.prog 107 #[.pointer (some ⟨p, 0, none⟩), .pointer (some ⟨b1, 0, none⟩), .pointer (some ⟨b2, 0, none⟩)] w fun r w' => r = .returned (.int .i64 (lowI (bs, bad) n most).1) ∧ InTo w0 w p (lowI (bs, bad) n most).2 w' := by
  have HI := Aside0.mk h
  have cs : w.cell? ⟨b1, 0, none⟩ = some (.int .i64 n) := blk_cell hf.s 0
  have cm : w.cell? ⟨b2, 0, none⟩ = some (.int .i64 most) := blk_cell hf.m 0
  have hn := hf.hn
  clear h hf
  go_enter Try.func107, Try.ntmps107
  go_wp2_with fail
  refine (inlow_run w0 w p A c bs bad n most (by omega) HI.out).mono ?_
  rintro r w' ⟨rfl, hT⟩
  have HT := Aside0.mk hT
  clear hT
  go_wp2_with fail
  go_ret
  exact ⟨rfl, HT.out⟩
set_option maxRecDepth 100000 in
set_option maxHeartbeats 4000000 in
theorem number_run (n : Nat) (most : Int) (hn : n ≤ 8) (w : World) :
    Calls Try.prog 83 #[.int .i64 n, .int .i64 most] w fun r w' => ∃ b1 b2, r = .returned (.agg (numV b1 b2)) ∧ NumF w' b1 b2 n most ∧ Below w.heap.size w w' := by
  go_enter Try.func83, Try.ntmps83
  go_wp2_with fail
  refine bodyPost_ret (v := .agg (numV w.heap.size (w.heap.size + 1))) (by simp [results, Try.results83, go_sem, numV]) rfl ⟨_, _, rfl, ⟨?_, ?_, hn⟩, ?_⟩
  · exact blk_alloc (blk_alloc (blk_new w _) _) _
  · have h := blk_alloc (blk_new (w.alloc (.cells #[.int .i64 (n : Int)] 3)) (.cells #[.int .i64 most] 3)) (.cells (numV w.heap.size (w.heap.size + 1)) 118)
    rw [World.size_alloc] at h
    exact h
  · exact below_alloc (below_alloc (below_alloc (Below.refl _ _) _) _) _
theorem cell_res {P : Program} {fn : Func} {tmps : Array Value} {w : World} {p : Tmp} {ty : TypeId} {g : Nat} {t : TypeId} {cs : Array Value} {d : TypeDesc} (h : fn.results = #[.cell p ty]) (hp : tmps.getD p undef = .pointer (some ⟨g, 0, none⟩)) (hg : w.heap[g]? = some (.cells cs t (0, 0)))
    (hu : P.underlying ty = some d) (hd : (match d with | .struct _ | .array _ _ => true | _ => false) = true) (hi : (P.info? ty).map (·.size) = some cs.size) : (results fn tmps).run P w = .ok (.agg cs) w :=
  results_single h (.cell g t cs (0, 0) d hp hg hu hd hi .nil)
/-- A block of two cells, both written. -/
theorem two_set {w : World} {g : Nat} {t : TypeId} {x y : Value} (h : w.heap[g]? = some (.cells #[x, y] t (0, 0))) (u v : Value) : ((w.setCell ⟨g, 0, none⟩ u).setCell ⟨g, 1, none⟩ v).heap[g]? = some (.cells #[u, v] t (0, 0)) := blk_set (blk_set h 0 u) 1 v
theorem two_below {w0 w w' : World} {g : Nat} (hb : Below w0.heap.size w0 w) (hg : w0.heap.size ≤ g) (u v : Value) : Below w0.heap.size w0 ((w.setCell ⟨g, 0, none⟩ u).setCell ⟨g, 1, none⟩ v) := (hb.setCell (p := ⟨g, 0, none⟩) hg u).setCell (p := ⟨g, 1, none⟩) hg v
theorem NumF.set {w : World} {b1 b2 n g : Nat} {most : Int} (h : NumF w b1 b2 n most) (h1 : b1 ≠ g) (h2 : b2 ≠ g) (j : Nat) (v : Value) : NumF (w.setCell ⟨g, j, none⟩ v) b1 b2 n most := ⟨blk_far h.s (p := ⟨g, j, none⟩) h1 v, blk_far h.m (p := ⟨g, j, none⟩) h2 v, h.hn⟩
/-- Byte, Short, Int: fields of numbers. -/
def Made (w w' : World) (n : Nat) (most : Int) (r : Ending) : Prop := ∃ b1 b2, r = .returned (.agg (numV b1 b2)) ∧ NumF w' b1 b2 n most ∧ Below w.heap.size w w'
set_option maxRecDepth 100000 in
set_option maxHeartbeats 1000000 in
theorem byte_run (w : World) : Calls Try.prog 56 #[] w fun r w' => Made w w' 1 255 r := by
  go_enter Try.func56, Try.ntmps56
  go_wp2_with fail
  refine (number_run 1 255 (by decide) _).mono ?_
  rintro r w' ⟨b1, b2, rfl, hf, hb⟩
  have hg : w'.heap[w.heap.size]? = some (.cells #[.nilFunc, .nilFunc] 118 (0, 0)) := blk_below (blk_new w _) hb
  have q0 : w'.cell? ⟨w.heap.size, 0, none⟩ = some .nilFunc := blk_cell hg 0
  have q1 : w'.cell? ⟨w.heap.size, 1, none⟩ = some .nilFunc := blk_cell hg 1
  have p0 := blkO_free hg 0
  have p1 := blkO_free hg 1
  have HH := Aside0.mk (And.intro hg (And.intro hf hb))
  clear hg hf hb
  simp only [numV]
  go_wp2_with fail
  obtain ⟨hg, hf, hb⟩ := HH.out
  have n1 := blk_ne hf.s hg (by decide)
  have n2 := blk_ne hf.m hg (by decide)
  exact bodyPost_ret (v := .agg (numV b1 b2)) (cell_res (g := w.heap.size) rfl rfl (two_set hg _ _) Try.underlying118 rfl (by kernel_rfl)) rfl ⟨b1, b2, rfl, (hf.set n1 n2 _ _).set n1 n2 _ _, two_below (w' := w') (((Below.refl _ w).alloc (Nat.le_refl _) _).trans (hb.mono (by simp))) (Nat.le_refl _) _ _⟩
set_option maxRecDepth 100000 in
set_option maxHeartbeats 1000000 in
theorem int_run (w : World) : Calls Try.prog 62 #[] w fun r w' => Made w w' 8 0 r := by
  go_enter Try.func62, Try.ntmps62
  go_wp2_with fail
  refine (number_run 8 0 (by decide) _).mono ?_
  rintro r w' ⟨b1, b2, rfl, hf, hb⟩
  have hg : w'.heap[w.heap.size]? = some (.cells #[.nilFunc, .nilFunc] 118 (0, 0)) := blk_below (blk_new w _) hb
  have q0 : w'.cell? ⟨w.heap.size, 0, none⟩ = some .nilFunc := blk_cell hg 0
  have q1 : w'.cell? ⟨w.heap.size, 1, none⟩ = some .nilFunc := blk_cell hg 1
  have p0 := blkO_free hg 0
  have p1 := blkO_free hg 1
  have HH := Aside0.mk (And.intro hg (And.intro hf hb))
  clear hg hf hb
  simp only [numV]
  go_wp2_with fail
  obtain ⟨hg, hf, hb⟩ := HH.out
  have n1 := blk_ne hf.s hg (by decide)
  have n2 := blk_ne hf.m hg (by decide)
  exact bodyPost_ret (v := .agg (numV b1 b2)) (cell_res (g := w.heap.size) rfl rfl (two_set hg _ _) Try.underlying118 rfl (by kernel_rfl)) rfl ⟨b1, b2, rfl, (hf.set n1 n2 _ _).set n1 n2 _ _, two_below (w' := w') (((Below.refl _ w).alloc (Nat.le_refl _) _).trans (hb.mono (by simp))) (Nat.le_refl _) _ _⟩
theorem putS_len (s : List Int × Int) (ys : List Int) (h : s.1.length ≤ 1048576) : (putS s ys).1.length ≤ 1048576 := by
  unfold putS
  split
  · exact h
  · split
    · exact h
    · rw [List.length_append]; omega
theorem lowS_len (s : List Int × Int) (ok : Bool) (x : Int) (n : Nat) (h : s.1.length ≤ 1048576) : (lowS s ok x n).1.length ≤ 1048576 := by
  unfold lowS
  refine putS_len _ _ ?_
  split
  · exact h
  · exact h
theorem numS_len (s : List Int × Int) (n : Nat) (most x : Int) (h : s.1.length ≤ 1048576) : (numS s n most x).1.length ≤ 1048576 := lowS_len _ _ _ _ h
/-- One after the other, as long as all is well. -/
def manyGo {α : Type} (S : List Int × Int → α → List Int × Int) : List α → List Int × Int → List Int × Int
  | [], s => s
  | x :: l, s => if s.2 = 0 then manyGo S l (S s x) else s
def manyS {α : Type} (S : List Int × Int → α → List Int × Int) (s : List Int × Int) (l : List α) : List Int × Int := manyGo S l (numS s 2 4096 (l.length : Int))
theorem manyGo_stop {α : Type} (S : List Int × Int → α → List Int × Int) (l : List α) (s : List Int × Int) (h : s.2 ≠ 0) : manyGo S l s = s := by
  cases l with
  | nil => rfl
  | cons x l => rw [manyGo, if_neg h]
end Go.Proofs.Ytjkjpmfenillcaa.P
