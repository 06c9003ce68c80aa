/- codec: rows of pairs and of blobs, as the laws lay them; no statement of the seat. -/
import Derived.Test.YtdlkkjfbbeffbaaCodecNone
import Derived.Test.YtdlkkjfbbeffbaaCodecS
import Derived.Test.YtdlkkjfbbeffbaaCodecPl5
import Derived.Test.YtdlkkjfbbeffbaaCodecPl4
set_option linter.unusedVariables false
set_option linter.unusedSimpArgs false
namespace Go.Proofs.Ytdlkkjfbbeffbaa.P
open Go.RowKit Go.Proofs.YtdlkkjfbbeffbaaW.PrintWords Go.Proofs.YtdlkkjfbbeffbaaW.PrintLast Go.Proofs.YtdlkkjfbbeffbaaW.PrintMore
/-- A list's element that is a row of bytes. -/
theorem at_blobs {w : World} {A : Option Addr} {n : Nat} {xs : List (List Int)} (h : Kd.C (Kd.slice 5 (Kd.int .u8)) w A n xs) (k : Nat) (hk : k < n) : ∃ ad A0 c0, A = some ad ∧ w.cell? (ad.add k) = some (.slice A0 (xs.getD k []).length c0) ∧ (xs.getD k []).length ≤ c0 ∧ Kd.C (Kd.int .u8) w A0 (xs.getD k []).length (xs.getD k []) := by
  obtain ⟨ad, cc, hA, hcl, hK, hcc⟩ := Kd.C_get h [] (k : Int) (by omega) (by omega)
  rw [Int.toNat_natCast] at hK hcc
  obtain ⟨A0, c0, hce, hlc, hC⟩ := hK
  subst hce
  have h0 := hcc 0 _ rfl
  rw [show (Kd.slice 5 (Kd.int .u8)).sz = 1 from rfl, Nat.mul_one, Nat.add_zero] at h0
  exact ⟨ad, A0, c0, hA, h0, hlc, hC⟩
/-- A list's element that is a pair. -/
theorem at_pairs {w : World} {A : Option Addr} {n : Nat} {xs : List PairS} (h : Kd.C kP w A n xs) (k : Nat) (hk : k < n) : ∃ ad A0 c0, A = some ad ∧ w.cell? (ad.add (k * 2)) = some (.int .i64 (xs.getD k (0, [])).1) ∧ w.cell? ⟨(ad.add (k * 2)).block, (ad.add (k * 2)).off + 1, none⟩ = some (.slice A0 (xs.getD k (0, [])).2.length c0) ∧ (xs.getD k (0, [])).2.length ≤ c0 ∧ Kd.C (Kd.int .u8) w A0 (xs.getD k (0, [])).2.length (xs.getD k (0, [])).2 := by
  obtain ⟨ad, cc, hA, hcl, hK, hcc⟩ := Kd.C_get h (0, []) (k : Int) (by omega) (by omega)
  rw [Int.toNat_natCast] at hK hcc
  obtain ⟨cc0, cc1, hce, hK0, A0, c0, hK1, hlc, hC⟩ := hK
  have hK0 : cc0 = [.int .i64 (xs.getD k (0, [])).1] := hK0
  subst hK0 hK1 hce
  have h0 := hcc 0 _ rfl
  have h1 := hcc 1 _ rfl
  rw [show kP.sz = 2 from rfl, Nat.add_zero] at h0
  rw [show kP.sz = 2 from rfl] at h1
  rw [add_field ad (k * 2) 1 (by decide)] at h1
  exact ⟨ad, A0, c0, hA, h0, h1, hlc, hC⟩
/-- A row of one pair that was just laid: what it leads to lies in it, or in the caller's memory. -/
theorem pair_F (w wr : World) (x : Int) (A : Option Addr) (c : Nat) (ys : List Int) (hb : Below w.heap.size w wr) (hC : Kd.C (Kd.int .u8) w A ys.length ys) (hc : ys.length ≤ c) :
    Kd.F kP (wr.alloc (.cells #[.int .i64 x, .slice A ys.length c] 100)) (fun k => k < w.heap.size ∨ k = wr.heap.size) (some ⟨wr.heap.size, 0, none⟩) 1 [(x, ys)] := by
  intro W' hW
  have hsz := hb.size
  have hn := blk_new wr (.cells #[.int .i64 x, .slice A ys.length c] 100)
  have hblk : W'.heap[wr.heap.size]? = some (.cells #[.int .i64 x, .slice A ys.length c] 100 (0, 0)) := (hW _ (.inr rfl) (by rw [World.size_alloc]; omega)).trans hn
  have hC' : Kd.C (Kd.int .u8) W' A ys.length ys := by
    refine (Kd.heap_int .u8).C (w := w) (fun k hk => ?_) hC
    exact (hW k (.inl hk) (by rw [World.size_alloc]; omega)).trans ((below_alloc hb _).block k hk)
  refine ⟨rfl, by decide, fun _ => ⟨⟨wr.heap.size, 0, none⟩, rfl, fun j p hp => ?_⟩⟩
  obtain rfl : j = 0 := by
    cases j with
    | zero => rfl
    | succ j => simp at hp
  obtain rfl : (x, ys) = p := Option.some.inj hp
  refine ⟨[.int .i64 x, .slice A ys.length c], rfl, ⟨[.int .i64 x], [.slice A ys.length c], rfl, rfl, A, c, rfl, hc, hC'⟩, fun i u hu => ?_⟩
  have h0 : W'.cell? ⟨wr.heap.size, 0, none⟩ = some (.int .i64 x) := blk_cell hblk 0
  have h1 : W'.cell? ⟨wr.heap.size, 1, none⟩ = some (.slice A ys.length c) := blk_cell hblk 1
  match i, hu with
  | 0, hu =>
    obtain rfl := Option.some.inj hu
    exact h0
  | 1, hu =>
    obtain rfl := Option.some.inj hu
    exact h1
  | i + 2, hu => simp at hu
/-- The reference's Out, behind an append to a row of pairs. -/
theorem ROK.grown {W w1 : World} {B p : Nat} {v u : Value} {bs : List Int} {e : Int} {base : Nat} {ok : Nat → Prop} {ps : List PairS} (h : ROK W B p v bs e) (hu : Kd.N kP 100 W base ok u ps) (hg : W.grownBy w1 u.ownBlock) : ROK w1 B p v bs e := by
  have hp : some p ≠ u.ownBlock := Kd.N_ne hu h.blk (by decide)
  refine ⟨h.le, (hg.block p (blk_lt h.blk) hp).trans h.blk, ?_, h.es⟩
  have hb := Kd.R_bound h.own
  refine Kd.R_mono (Kd.R_grown hb hg (fun k hk he => ?_)) (fun _ _ => trivial)
  obtain ⟨_, _, _, q, hq, cells, hc⟩ := hk
  obtain ⟨cells', hc'⟩ := Kd.N_typed hu k he.symm
  rw [hc] at hc'
  simp only [Option.some.injEq, Obj.cells.injEq] at hc'
  obtain ⟨_, rfl, _⟩ := hc'
  simp [Kd.int, Kd.scalar] at hq
theorem pair_ok {w wr : World} {e : Nat} {ok : Nat → Prop} {v : Value} {ps : List PairS} (hN : Kd.N kP e wr w.heap.size ok v ps) (hlp : w.heap.size < wr.heap.size) : ∀ b, (b < w.heap.size ∨ b = wr.heap.size) → b ≠ w.heap.size ∧ some b ≠ v.ownBlock := by
  intro b hb
  refine ⟨by omega, fun he => ?_⟩
  have h1 := Kd.N_base hN b he.symm
  have h2 := Kd.N_lt hN b he.symm
  omega
/-- Pairs of two lists, one by one. -/
theorem zip_step (a : List Int) (b : List (List Int)) (k : Nat) (h : k < (a.zip b).length) : (a.zip b).take (k + 1) = (a.zip b).take k ++ [(rd a (k : Int), b.getD k [])] := by
  rw [List.length_zip] at h
  rw [List.take_add_one, List.getElem?_eq_getElem (by rw [List.length_zip]; omega), List.getElem_zip]
  unfold rd
  rw [Int.toNat_natCast, List.getD_eq_getElem?_getD, List.getD_eq_getElem?_getD, List.getElem?_eq_getElem (by omega), List.getElem?_eq_getElem (by omega)]
  rfl
theorem zip_get (a : List Int) (b : List (List Int)) (k : Nat) (h : k < (a.zip b).length) : (a.zip b).getD k (0, []) = (rd a (k : Int), b.getD k []) := by
  rw [List.length_zip] at h
  rw [List.getD_eq_getElem?_getD, List.getElem?_eq_getElem (by rw [List.length_zip]; omega), List.getElem_zip]
  unfold rd
  rw [Int.toNat_natCast, List.getD_eq_getElem?_getD, List.getD_eq_getElem?_getD, List.getElem?_eq_getElem (by omega), List.getElem?_eq_getElem (by omega)]
  rfl
end Go.Proofs.Ytdlkkjfbbeffbaa.P
