/- codec: what is written, what is read: the inner functions' contracts; no statement of the seat. -/
import Derived.Test.YtdlkkjfbbeffbaaP0
import Derived.Outline
set_option linter.unusedVariables false
set_option linter.unusedSimpArgs false
namespace Go.Proofs.Ytdlkkjfbbeffbaa.P
open Go.RowKit Go.Proofs.YtdlkkjfbbeffbaaW.PrintWords Go.Proofs.YtdlkkjfbbeffbaaW.PrintLast Go.Proofs.YtdlkkjfbbeffbaaW.PrintMore
/-- A block 'out' with what it owns. -/
structure OutOK (w : World) (B p : Nat) (v : Value) (bs : List Int) (e : Int) : Prop where
  le : B ≤ p
  blk : w.heap[p]? = some (.cells #[v, .int .i64 e] 121 (0, 0))
  own : Kd.R (Kd.int .u8) 5 w B (fun _ => True) v bs
/-- It has turned, and nothing else but it and what it owns. -/
def OutTo (w : World) (B p : Nat) (v : Value) (s : List Int × Int) (w' : World) : Prop :=
  ∃ v', OutOK w' B p v' s.1 s.2 ∧ KeepBut w w' p v.ownBlock ∧ (v'.ownBlock = v.ownBlock ∨ ∃ b, v'.ownBlock = some b ∧ w.heap.size ≤ b) ∧ Below B w w'
theorem OutTo.refl {w : World} {B p : Nat} {v : Value} {bs : List Int} {e : Int} (h : OutOK w B p v bs e) : OutTo w B p v (bs, e) w :=
  ⟨v, h, KeepBut.refl _ _ _, .inl rfl, Below.refl _ _⟩
theorem OutOK.set {w : World} {B p : Nat} {v : Value} {bs : List Int} {e : Int} (h : OutOK w B p v bs e) (e' : Int) : OutTo w B p v (bs, e') (w.setCell ⟨p, 1, none⟩ (.int .i64 e')) := by
  have hs := blk_set h.blk 1 (.int .i64 e')
  refine ⟨v, ⟨h.le, hs, Kd.R_set h.own h.blk (by intro q hq; simp [Kd.int, Kd.scalar] at hq; subst hq; decide) 1 _⟩, (KeepBut.refl _ _ _).set_ 1 _, .inl rfl, (Below.refl _ _).setCell (p := ⟨p, 1, none⟩) h.le _⟩
theorem blkO_free {t : TypeId} {w : World} {g : Nat} {cs : Array Value} (h : w.heap[g]? = some (.cells cs t (0, 0))) (j : Nat) : w.frozen? ⟨g, j, none⟩ = false := by simp [World.frozen?, h]
/-- What 'put' makes of it. -/
def putS (s : List Int × Int) (ys : List Int) : List Int × Int := if s.2 ≠ 0 then s else if (ys.length : Int) > 1048576 - s.1.length then (s.1, 3) else (s.1 ++ ys, 0)
set_option maxRecDepth 100000 in
set_option maxHeartbeats 2000000 in
theorem put_run (B p : Nat) (v : Value) (bs : List Int) (e : Int) (A : Option Addr) (c : Nat) (ys : List Int) (w : World) (h : OutOK w B p v bs e) (hC : Kd.C (Kd.int .u8) w A ys.length ys) (hB : B ≤ w.heap.size) (hbs : bs.length ≤ 1048576) :
    Calls Try.prog 70 #[.pointer (some ⟨p, 0, none⟩), .slice A ys.length c] w fun r w' => r = .returned (.tuple #[]) ∧ OutTo w B p v (putS (bs, e) ys) w' := by
  have HO := Aside0.mk h
  have c1 : w.cell? ⟨p, 1, none⟩ = some (.int .i64 e) := blk_cell h.blk 1
  have c0 : w.cell? ⟨p, 0, none⟩ = some v := blk_cell h.blk 0
  have f1 := blkO_free h.blk 1
  have f0 := blkO_free h.blk 0
  have HC := Aside0.mk hC
  have hm := Kd.C_max hC
  obtain ⟨A0, c0', hv⟩ := Kd.R_slice h.own
  subst hv
  clear h hC
  by_cases he : e = 0
  · subst he
    by_cases hl : (ys.length : Int) > 1048576 - bs.length
    · have hs : putS (bs, 0) ys = (bs, 3) := by unfold putS; rw [if_neg (by simp), if_pos hl]
      rw [hs]
      clear hs
      have hl' : (1048576 - (bs.length : Int)) < ys.length := hl
      go_enter Try.func70, Try.ntmps70
      go_wp2_with fail
      go_end0
      exact ⟨rfl, HO.out.set 3⟩
    · have hs : putS (bs, 0) ys = (bs ++ ys, 0) := by unfold putS; rw [if_neg (by simp), if_neg hl]
      rw [hs]
      clear hs
      have hl' : (ys.length : Int) ≤ 1048576 - (bs.length : Int) := by omega
      go_enter Try.func70, Try.ntmps70
      go_wp2_with (refine Kd.R_append_rows (Kd.int .u8) (Rr := fun x cs => cs = [.int .u8 x]) (w0 := w) B rfl (.tmp 8) (.tmp 9) 40 5 (.int .u8 0) 1 rfl Try.underlying40 (by kernel_rfl) rfl (by decide) (by decide) (.slice A0 bs.length c0') bs ys A ys.length c (fun _ => True) (fun _ => False) rfl rfl HO.out.own HC.out (fun _ _ h => h) (fun _ hk => hk.elim) (fun _ _ => trivial) (Below.refl _ _) hB (by omega) ?_; intro v1 w1 ho hb1 hg hat; obtain ⟨A1, c1', hv1⟩ := Kd.R_slice ho; subst hv1; simp only [List.length_append] at ho hat; have hblk := blk_grown HO.out.blk hg (Kd.R_ne HO.out.own HO.out.blk (by decide)); have d0 : w1.cell? ⟨p, 0, none⟩ = some (.slice A0 bs.length c0') := blk_cell hblk 0; have g0 := blkO_free hblk 0; have HX := Aside0.mk (And.intro ho (And.intro hb1 (And.intro hg (And.intro hat hblk)))); clear ho hb1 hg hat hblk)
      go_end0
      obtain ⟨ho, hb1, hg, hat, hblk⟩ := HX.out
      exact ⟨rfl, _, ⟨HO.out.le, blk_set hblk 0 _, Kd.R_set ho hblk (by intro q hq; simp [Kd.int, Kd.scalar] at hq; subst hq; decide) 0 _⟩, (KeepBut.of_grown hg p).set_ 0 _, hat, hb1.setCell (p := ⟨p, 0, none⟩) HO.out.le _⟩
  · have hs : putS (bs, e) ys = (bs, e) := by unfold putS; rw [if_pos (by simpa using he)]
    rw [hs]
    clear hs
    have he1 : (e == 0) = false := by simpa using he
    have he2 : (e != 0) = true := by simpa using he
    go_enter Try.func70, Try.ntmps70
    go_wp2_with fail
    go_end0
    exact ⟨rfl, OutTo.refl HO.out⟩
theorem OutTo.trans {w w1 w2 : World} {B p : Nat} {v v1 : Value} {s : List Int × Int} (h1 : KeepBut w w1 p v.ownBlock) (ha : v1.ownBlock = v.ownBlock ∨ ∃ b, v1.ownBlock = some b ∧ w.heap.size ≤ b) (hb : Below B w w1) (hs : B ≤ w1.heap.size) (h2 : OutTo w1 B p v1 s w2) : OutTo w B p v s w2 := by
  obtain ⟨v2, ho, hk, hat, hb2⟩ := h2
  refine ⟨v2, ho, h1.trans hk ?_, ?_, hb.trans hb2⟩
  · rcases ha with ha | ⟨b, hb1, hb2⟩
    · exact .inl ha
    · exact .inr ⟨b, hb1, hb2⟩
  · rcases hat with hat | ⟨b, hb1, hb2⟩
    · rcases ha with ha | ⟨b, hb1, hb2⟩
      · exact .inl (hat.trans ha)
      · exact .inr ⟨b, hat.trans hb1, hb2⟩
    · exact .inr ⟨b, hb1, Nat.le_trans h1.1 hb2⟩
theorem OutTo.bind {w w1 w2 : World} {B p : Nat} {v : Value} {s s' : List Int × Int} (hs : B ≤ w.heap.size) (h1 : OutTo w B p v s w1) (h2 : ∀ v1, OutOK w1 B p v1 s.1 s.2 → OutTo w1 B p v1 s' w2) : OutTo w B p v s' w2 := by
  obtain ⟨v1, ho, hk, hat, hb⟩ := h1
  exact OutTo.trans hk hat hb (Nat.le_trans hs hk.1) (h2 v1 ho)
/-- A number's lowest bytes. -/
def leB (x : Int) (n : Nat) : List Int := (List.range n).map fun i => x % 18446744073709551616 / 2 ^ (8 * i) % 256
theorem leB_length (x : Int) (n : Nat) : (leB x n).length = n := by simp [leB]
theorem leB_succ (x : Int) (n : Nat) : leB x (n + 1) = leB x n ++ [x % 18446744073709551616 / 2 ^ (8 * n) % 256] := by simp [leB, List.range_succ]
/-- An array of eight bytes, filled from its beginning. -/
def arr8 (xs : List Int) : Array Value := ((xs ++ List.replicate (8 - xs.length) 0).map (Value.int .u8)).toArray
theorem arr8_set (xs : List Int) (y : Int) (h : xs.length < 8) : (arr8 xs).setIfInBounds xs.length (.int .u8 y) = arr8 (xs ++ [y]) := by
  unfold arr8
  rw [List.setIfInBounds_toArray]
  congr 1
  obtain ⟨m, hm⟩ : ∃ m, 8 - xs.length = m + 1 := ⟨8 - xs.length - 1, by omega⟩
  rw [hm, List.replicate_succ, List.map_append, List.set_append, if_neg (by simp)]
  simp only [List.length_map, Nat.sub_self, List.map_cons, List.set_cons_zero, List.length_append, List.length_singleton, List.map_append, List.append_assoc, List.map_nil, List.singleton_append]
  rw [show 8 - (xs.length + 1) = m by omega]
theorem arr8_C (w : World) (g : Nat) (t : TypeId) (xs : List Int) (h : w.heap[g]? = some (.cells (arr8 xs) t (0, 0))) (hn : xs.length ≤ 8) : Kd.C (Kd.int .u8) w (some ⟨g, 0, none⟩) xs.length xs := by
  refine Kd.C_of_reads (h1 := fun _ => rfl) (d := (0 : Int)) ⟨rfl, by omega, fun _ => ⟨_, rfl, fun j hj => ?_⟩⟩
  rw [add_plain, blk_cell h j]
  unfold arr8
  rw [List.getElem?_toArray, List.getElem?_map, List.getElem?_append_left hj, List.getD_eq_getElem?_getD, List.getElem?_eq_getElem hj]
  rfl
def lowS (s : List Int × Int) (ok : Bool) (x : Int) (n : Nat) : List Int × Int := putS (if s.2 = 0 ∧ ok = false then (s.1, 1) else s) (leB x n)
theorem OutOK.set' {w : World} {B p : Nat} {v : Value} {bs : List Int} {e : Int} (h : OutOK w B p v bs e) (e' : Int) : OutOK (w.setCell ⟨p, 1, none⟩ (.int .i64 e')) B p v bs e' :=
  ⟨h.le, blk_set h.blk 1 (.int .i64 e'), Kd.R_set h.own h.blk (by intro q hq; simp [Kd.int, Kd.scalar] at hq; subst hq; decide) 1 _⟩
theorem OutOK.keep {w w1 : World} {B p g : Nat} {v : Value} {bs : List Int} {e : Int} (h : OutOK w B p v bs e) (hk : KeepBut w w1 g none) (hg : w.heap.size ≤ g) : OutOK w1 B p v bs e :=
  ⟨h.le, hk.blk h.blk (by have := blk_lt h.blk; omega) (by simp), Kd.R_mono (Kd.R_keep (Kd.R_bound h.own) hk (fun k hk => by have := hk.2.2.1; omega)) (fun _ hk => hk.1)⟩
theorem arr8_len : Try.prog.arrayLen 148 = 8 := by kernel_rfl
theorem arr8_cut (g : Nat) (k : Nat) (hk : k ≤ 8) (W : World) : (Instr.sliceAt 148 (.pointer (some ⟨g, 0, none⟩)) none (some (.int .i64 (k : Int))) none).run Try.prog W = .ok (.slice (some ⟨g, 0, none⟩) k 8) W := by
  have hu : Try.prog.underlying 148 = some (.array (Try.prog.arrayLen 148) (Try.prog.elem 148)) := by kernel_rfl
  rw [run_sliceAt_array_h W 148 ⟨g, 0, none⟩ hu .i64 (k : Int) (by omega) (by rw [arr8_len]; omega)]
  have hz : (sizeOf (Try.prog.elem 148)).run Try.prog W = .ok 1 W := by kernel_rfl
  rw [hz, arr8_len]
  simp [slicedAt, Result.andThen, Addr.add]
theorem keep_past {w w1 w2 : World} {p g : Nat} {row : Option Nat} (h : KeepBut w w1 p row) (k : KeepBut w1 w2 g none) (hg : w.heap.size ≤ g) : KeepBut w w2 p row :=
  ⟨Nat.le_trans h.1 k.1, fun i hi h1 h2 => (k.2 i (Nat.lt_of_lt_of_le hi h.1) (by omega) (by simp)).trans (h.2 i hi h1 h2)⟩
theorem OutOK.alloc {w : World} {B p : Nat} {v : Value} {bs : List Int} {e : Int} (h : OutOK w B p v bs e) (o : Obj) : OutOK (w.alloc o) B p v bs e :=
  ⟨h.le, blk_alloc h.blk o, Kd.R_alloc h.own o⟩
set_option maxRecDepth 100000 in
set_option maxHeartbeats 4000000 in
theorem low_run (B p : Nat) (v : Value) (bs : List Int) (e : Int) (ok : Bool) (x : Int) (n : Nat) (hn : n ≤ 8) (w : World) (h : OutOK w B p v bs e) (hB : B ≤ w.heap.size) (hbs : bs.length ≤ 1048576) :
    Calls Try.prog 87 #[.pointer (some ⟨p, 0, none⟩), .bool ok, .int .i64 x, .int .i64 n] w fun r w' => r = .returned (.tuple #[]) ∧ OutTo w B p v (lowS (bs, e) ok x n) w' := by
  have HO := Aside0.mk h
  have c1 : w.cell? ⟨p, 1, none⟩ = some (.int .i64 e) := blk_cell h.blk 1
  have f1 := blkO_free h.blk 1
  clear h
  by_cases hc : e = 0 ∧ ok = false
  · obtain ⟨rfl, rfl⟩ := hc
    go_enter Try.func87, Try.ntmps87
    go_wp2_with fail
    obtain ⟨W1, hW1⟩ : ∃ W1, W1 = w.setCell ⟨p, 1, none⟩ (.int .i64 1) := ⟨_, rfl⟩
    rw [← hW1]
    have HO1 := Aside0.mk (show OutOK W1 B p v bs 1 by rw [hW1]; exact HO.out.set' 1)
    have HK1 := Aside0.mk (show KeepBut w W1 p v.ownBlock ∧ Below B w W1 by rw [hW1]; exact ⟨(KeepBut.refl _ _ _).set_ 1 _, (Below.refl _ _).setCell (p := ⟨p, 1, none⟩) HO.out.le _⟩)
    have hz1 : W1.heap.size = w.heap.size := by rw [hW1]; simp
    clear hW1 c1 f1
    obtain ⟨W2, hW2⟩ : ∃ W2, W2 = W1.alloc (.cells #[.int .u8 0, .int .u8 0, .int .u8 0, .int .u8 0, .int .u8 0, .int .u8 0, .int .u8 0, .int .u8 0] 148) := ⟨_, rfl⟩
    rw [← hW2]
    have hb2 : W2.heap[w.heap.size]? = some (.cells (arr8 (leB x 0)) 148 (0, 0)) := by rw [hW2, ← hz1]; exact blk_new W1 _
    have hz2 : W2.heap.size = w.heap.size + 1 := by rw [hW2, World.size_alloc, hz1]
    have HO2 := Aside0.mk (show OutOK W2 B p v bs 1 by rw [hW2]; exact OutOK.alloc HO1.out _)
    have HK2 := Aside0.mk (show KeepBut W1 W2 w.heap.size none ∧ Below B W1 W2 by rw [hW2]; exact ⟨keep_alloc (KeepBut.refl _ _ _) _, (Below.refl _ _).alloc (by omega) _⟩)
    have HB2 := Aside0.mk hb2
    have HZ2 := Aside0.mk hz2
    clear hW2 hb2 hz2
    go_loopw [23] (fun v23 wr => ∃ k : Nat, v23 = .int .i64 k ∧ k ≤ n ∧ wr.heap[w.heap.size]? = some (.cells (arr8 (leB x k)) 148 (0, 0)) ∧ KeepBut W2 wr w.heap.size none ∧ Below (w.heap.size) W2 wr) (fun v23 _ => n - (intOf v23).toNat)
    case atStart => exact ⟨0, rfl, Nat.zero_le _, HB2.out, KeepBut.refl _ _ _, Below.refl _ _⟩
    case round =>
      obtain ⟨k, rfl, hk, hbk, hkk, hbw⟩ := hrel
      have HBK := Aside0.mk hbk
      have HKK := Aside0.mk (And.intro hkk hbw)
      have fk := blkO_free hbk k
      clear hbk hkk hbw
      by_cases hlt : k < n
      · have ck : wr.cell? ⟨w.heap.size, k, none⟩ = some (.int .u8 0) := by
          rw [blk_cell HBK.out k]
          unfold arr8
          rw [List.getElem?_toArray, List.getElem?_map, List.getElem?_append_right (by rw [leB_length]; omega), leB_length, Nat.sub_self, List.getElem?_replicate, if_pos (by omega)]
          rfl
        go_wp2_with fail
        go_roundw
        case rel =>
          refine ⟨k + 1, by go_num, by omega, ?_, HKK.out.1.set_ k _, HKK.out.2.setCell (p := ⟨w.heap.size, k, none⟩) (Nat.le_refl _) _⟩
          have h := blk_set HBK.out k (.int .u8 (x % 18446744073709551616 / 2 ^ (8 * k) % 256))
          have h8 := arr8_set (leB x k) (x % 18446744073709551616 / 2 ^ (8 * k) % 256) (by rw [leB_length]; omega)
          rw [leB_length] at h8
          rw [h8, ← leB_succ] at h
          exact h
        case measure => simp [intOf]; omega
      · obtain rfl : k = n := by omega
        have hC := arr8_C wr w.heap.size _ _ HBK.out (by rw [leB_length]; omega)
        have hK3 : KeepBut W1 wr w.heap.size none := HK2.out.1.trans HKK.out.1 (.inl rfl)
        have hO3 := HO1.out.keep hK3 (by omega)
        have hB3 : Below B w wr := (HK1.out.2.trans HK2.out.2).trans (HKK.out.2.mono hB)
        have HF := Aside0.mk (And.intro hO3 (And.intro hC (And.intro hK3 hB3)))
        have hs3 : w.heap.size ≤ wr.heap.size := by have h1 := HK1.out.1.1; have h2 := hK3.1; omega
        clear hC hK3 hO3 hB3
        have hcut := arr8_cut w.heap.size k hn
        go_wp2_with fail
        have hll := leB_length x k
        have hput := put_run B p v bs 1 (some ⟨w.heap.size, 0, none⟩) 8 (leB x k) wr HF.out.1 HF.out.2.1 (by omega) hbs
        rw [hll] at hput
        refine hput.mono ?_
        rintro r w' ⟨rfl, hT⟩
        have HT := Aside0.mk hT
        clear hput hT hll
        go_wp2_with fail
        go_end0
        refine ⟨rfl, ?_⟩
        have he : lowS (bs, 0) false x k = putS (bs, 1) (leB x k) := by unfold lowS; rw [if_pos ⟨rfl, rfl⟩]
        rw [he]
        exact OutTo.trans (keep_past HK1.out.1 HF.out.2.2.1 (Nat.le_refl _)) (.inl rfl) HF.out.2.2.2 (by omega) HT.out
  · have HCC := Aside0.mk hc
    obtain ⟨W1, hW1⟩ : ∃ W1, W1 = w := ⟨_, rfl⟩
    have HO1 := Aside0.mk (show OutOK W1 B p v bs e by rw [hW1]; exact HO.out)
    have HK1 := Aside0.mk (show KeepBut w W1 p v.ownBlock ∧ Below B w W1 by rw [hW1]; exact ⟨KeepBut.refl _ _ _, Below.refl _ _⟩)
    have hz1 : W1.heap.size = w.heap.size := by rw [hW1]
    go_enter Try.func87, Try.ntmps87
    by_cases he : e = 0
    · have hok : ok = true := by cases ok <;> simp_all
      subst he hok
      go_wp2_with fail
      rw [← hW1]
      obtain ⟨W2, hW2⟩ : ∃ W2, W2 = W1.alloc (.cells #[.int .u8 0, .int .u8 0, .int .u8 0, .int .u8 0, .int .u8 0, .int .u8 0, .int .u8 0, .int .u8 0] 148) := ⟨_, rfl⟩
      rw [← hW2]
      have hb2 : W2.heap[w.heap.size]? = some (.cells (arr8 (leB x 0)) 148 (0, 0)) := by rw [hW2, ← hz1]; exact blk_new W1 _
      have hz2 : W2.heap.size = w.heap.size + 1 := by rw [hW2, World.size_alloc, hz1]
      have HO2 := Aside0.mk (show OutOK W2 B p v bs 0 by rw [hW2]; exact OutOK.alloc HO1.out _)
      have HK2 := Aside0.mk (show KeepBut W1 W2 w.heap.size none ∧ Below B W1 W2 by rw [hW2]; exact ⟨keep_alloc (KeepBut.refl _ _ _) _, (Below.refl _ _).alloc (by omega) _⟩)
      have HB2 := Aside0.mk hb2
      have HZ2 := Aside0.mk hz2
      clear hW2 hb2 hz2
      go_loopw [23] (fun v23 wr => ∃ k : Nat, v23 = .int .i64 k ∧ k ≤ n ∧ wr.heap[w.heap.size]? = some (.cells (arr8 (leB x k)) 148 (0, 0)) ∧ KeepBut W2 wr w.heap.size none ∧ Below (w.heap.size) W2 wr) (fun v23 _ => n - (intOf v23).toNat)
      case atStart => exact ⟨0, rfl, Nat.zero_le _, HB2.out, KeepBut.refl _ _ _, Below.refl _ _⟩
      case round =>
        obtain ⟨k, rfl, hk, hbk, hkk, hbw⟩ := hrel
        have HBK := Aside0.mk hbk
        have HKK := Aside0.mk (And.intro hkk hbw)
        have fk := blkO_free hbk k
        clear hbk hkk hbw
        by_cases hlt : k < n
        · have ck : wr.cell? ⟨w.heap.size, k, none⟩ = some (.int .u8 0) := by
            rw [blk_cell HBK.out k]
            unfold arr8
            rw [List.getElem?_toArray, List.getElem?_map, List.getElem?_append_right (by rw [leB_length]; omega), leB_length, Nat.sub_self, List.getElem?_replicate, if_pos (by omega)]
            rfl
          go_wp2_with fail
          go_roundw
          case rel =>
            refine ⟨k + 1, by go_num, by omega, ?_, HKK.out.1.set_ k _, HKK.out.2.setCell (p := ⟨w.heap.size, k, none⟩) (Nat.le_refl _) _⟩
            have h := blk_set HBK.out k (.int .u8 (x % 18446744073709551616 / 2 ^ (8 * k) % 256))
            have h8 := arr8_set (leB x k) (x % 18446744073709551616 / 2 ^ (8 * k) % 256) (by rw [leB_length]; omega)
            rw [leB_length] at h8
            rw [h8, ← leB_succ] at h
            exact h
          case measure => simp [intOf]; omega
        · obtain rfl : k = n := by omega
          have hC := arr8_C wr w.heap.size _ _ HBK.out (by rw [leB_length]; omega)
          have hK3 : KeepBut W1 wr w.heap.size none := HK2.out.1.trans HKK.out.1 (.inl rfl)
          have hO3 := HO1.out.keep hK3 (by omega)
          have hB3 : Below B w wr := (HK1.out.2.trans HK2.out.2).trans (HKK.out.2.mono hB)
          have HF := Aside0.mk (And.intro hO3 (And.intro hC (And.intro hK3 hB3)))
          have hs3 : w.heap.size ≤ wr.heap.size := by have h1 := HK1.out.1.1; have h2 := hK3.1; omega
          clear hC hK3 hO3 hB3
          have hcut := arr8_cut w.heap.size k hn
          go_wp2_with fail
          have hll := leB_length x k
          have hput := put_run B p v bs 0 (some ⟨w.heap.size, 0, none⟩) 8 (leB x k) wr HF.out.1 HF.out.2.1 (by omega) hbs
          rw [hll] at hput
          refine hput.mono ?_
          rintro r w' ⟨rfl, hT⟩
          have HT := Aside0.mk hT
          clear hput hT hll
          go_wp2_with fail
          go_end0
          refine ⟨rfl, ?_⟩
          have he : lowS (bs, 0) true x k = putS (bs, 0) (leB x k) := by unfold lowS; rw [if_neg (by simp)]
          rw [he]
          exact OutTo.trans (keep_past HK1.out.1 HF.out.2.2.1 (Nat.le_refl _)) (.inl rfl) HF.out.2.2.2 (by omega) HT.out
    · have he1 : (e == 0) = false := by simpa using he
      go_wp2_with fail
      rw [← hW1]
      obtain ⟨W2, hW2⟩ : ∃ W2, W2 = W1.alloc (.cells #[.int .u8 0, .int .u8 0, .int .u8 0, .int .u8 0, .int .u8 0, .int .u8 0, .int .u8 0, .int .u8 0] 148) := ⟨_, rfl⟩
      rw [← hW2]
      have hb2 : W2.heap[w.heap.size]? = some (.cells (arr8 (leB x 0)) 148 (0, 0)) := by rw [hW2, ← hz1]; exact blk_new W1 _
      have hz2 : W2.heap.size = w.heap.size + 1 := by rw [hW2, World.size_alloc, hz1]
      have HO2 := Aside0.mk (show OutOK W2 B p v bs e by rw [hW2]; exact OutOK.alloc HO1.out _)
      have HK2 := Aside0.mk (show KeepBut W1 W2 w.heap.size none ∧ Below B W1 W2 by rw [hW2]; exact ⟨keep_alloc (KeepBut.refl _ _ _) _, (Below.refl _ _).alloc (by omega) _⟩)
      have HB2 := Aside0.mk hb2
      have HZ2 := Aside0.mk hz2
      clear hW2 hb2 hz2
      go_loopw [23] (fun v23 wr => ∃ k : Nat, v23 = .int .i64 k ∧ k ≤ n ∧ wr.heap[w.heap.size]? = some (.cells (arr8 (leB x k)) 148 (0, 0)) ∧ KeepBut W2 wr w.heap.size none ∧ Below (w.heap.size) W2 wr) (fun v23 _ => n - (intOf v23).toNat)
      case atStart => exact ⟨0, rfl, Nat.zero_le _, HB2.out, KeepBut.refl _ _ _, Below.refl _ _⟩
      case round =>
        obtain ⟨k, rfl, hk, hbk, hkk, hbw⟩ := hrel
        have HBK := Aside0.mk hbk
        have HKK := Aside0.mk (And.intro hkk hbw)
        have fk := blkO_free hbk k
        clear hbk hkk hbw
        by_cases hlt : k < n
        · have ck : wr.cell? ⟨w.heap.size, k, none⟩ = some (.int .u8 0) := by
            rw [blk_cell HBK.out k]
            unfold arr8
            rw [List.getElem?_toArray, List.getElem?_map, List.getElem?_append_right (by rw [leB_length]; omega), leB_length, Nat.sub_self, List.getElem?_replicate, if_pos (by omega)]
            rfl
          go_wp2_with fail
          go_roundw
          case rel =>
            refine ⟨k + 1, by go_num, by omega, ?_, HKK.out.1.set_ k _, HKK.out.2.setCell (p := ⟨w.heap.size, k, none⟩) (Nat.le_refl _) _⟩
            have h := blk_set HBK.out k (.int .u8 (x % 18446744073709551616 / 2 ^ (8 * k) % 256))
            have h8 := arr8_set (leB x k) (x % 18446744073709551616 / 2 ^ (8 * k) % 256) (by rw [leB_length]; omega)
            rw [leB_length] at h8
            rw [h8, ← leB_succ] at h
            exact h
          case measure => simp [intOf]; omega
        · obtain rfl : k = n := by omega
          have hC := arr8_C wr w.heap.size _ _ HBK.out (by rw [leB_length]; omega)
          have hK3 : KeepBut W1 wr w.heap.size none := HK2.out.1.trans HKK.out.1 (.inl rfl)
          have hO3 := HO1.out.keep hK3 (by omega)
          have hB3 : Below B w wr := (HK1.out.2.trans HK2.out.2).trans (HKK.out.2.mono hB)
          have HF := Aside0.mk (And.intro hO3 (And.intro hC (And.intro hK3 hB3)))
          have hs3 : w.heap.size ≤ wr.heap.size := by have h1 := HK1.out.1.1; have h2 := hK3.1; omega
          clear hC hK3 hO3 hB3
          have hcut := arr8_cut w.heap.size k hn
          go_wp2_with fail
          have hll := leB_length x k
          have hput := put_run B p v bs e (some ⟨w.heap.size, 0, none⟩) 8 (leB x k) wr HF.out.1 HF.out.2.1 (by omega) hbs
          rw [hll] at hput
          refine hput.mono ?_
          rintro r w' ⟨rfl, hT⟩
          have HT := Aside0.mk hT
          clear hput hT hll
          go_wp2_with fail
          go_end0
          refine ⟨rfl, ?_⟩
          have he : lowS (bs, e) ok x k = putS (bs, e) (leB x k) := by unfold lowS; rw [if_neg (by simp [he])]
          rw [he]
          exact OutTo.trans (keep_past HK1.out.1 HF.out.2.2.1 (Nat.le_refl _)) (.inl rfl) HF.out.2.2.2 (by omega) HT.out

end Go.Proofs.Ytdlkkjfbbeffbaa.P
