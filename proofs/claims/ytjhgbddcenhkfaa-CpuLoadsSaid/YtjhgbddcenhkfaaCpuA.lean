/- A processor as a block: its words, registers, flags, place and memory; what reads and sets them: walks; no statement of the seat. What reads and sets a processor: walks; no statement of the seat. Numbers and their bytes, the lowest first: plain arithmetic; no statement of the seat. A processor's memory, read and written: walks; no statement of the seat. What instructions do with a processor, op by op: reckon, differ, goal: walks, printed by gen_cpud.py; no statement of the seat. What instructions do with a processor, op by op: differ, memorize, goal: walks, printed by gen_cpud.py; no statement of the seat. A processor's step, and some steps at most: walks, printed by gen_cpuf.py; no statement of the seat. -/
import Derived.Test.YtjhgbddcenhkfaaWKept
import Derived.Test.YtjhgbddcenhkfaaPF34
import Derived.Test.YtjhgbddcenhkfaaPF14
import Derived.Test.YtjhgbddcenhkfaaPF11
import Derived.Test.YtjhgbddcenhkfaaPF59
import Derived.StillTailTactics
set_option linter.unusedVariables false
set_option linter.unusedSimpArgs false
namespace Go.Proofs.Ytjhgbddcenhkfaa.P
open Go.RowKit Go.Proofs.YtjhgbddcenhkfaaW.PrintWords Go.Proofs.YtjhgbddcenhkfaaW.PrintLast Go.Proofs.YtjhgbddcenhkfaaW.PrintMore
/-- What a processor is: words, registers, flags, place, memory. -/
structure CS where
  ws : List S61
  x : List Int
  fN : Bool
  fZ : Bool
  fC : Bool
  fV : Bool
  pl : Int
  m : List Int
def cpuL (A : Option Addr) (c bm : Nat) (s : CS) : List Value :=
  .slice A s.ws.length c :: (s.x.map (Value.int .i64) ++ [.bool s.fN, .bool s.fZ, .bool s.fC, .bool s.fV, .int .i64 s.pl, .slice (some ⟨bm, 0, none⟩) s.m.length s.m.length])
/-- The blocks that a processor writes. -/
def CB (p bm : Nat) (k : Nat) : Prop := k = p ∨ k = bm
/-- A processor lies at p, its memory at bm, its words in a row that nobody writes; all of it between B and E. -/
structure COK (w : World) (T : TypeId) (B E p : Nat) (A : Option Addr) (c bm : Nat) (s : CS) : Prop where
  hT : T = 69 ∨ T = 51
  lp : B ≤ p
  lm : B ≤ bm
  hp : p < E
  hm : bm < E
  ne : p ≠ bm
  xl : s.x.length = 32
  ml : s.m.length < 140737488355328
  blk : w.heap[p]? = some (.cells (cpuL A c bm s).toArray T (0, 0))
  mem : w.heap[bm]? = some (.cells (s.m.map (Value.int .u8)).toArray 5 (0, 0))
  own : Kd.R k61 61 w B (fun k => k ≠ p ∧ k ≠ bm ∧ k < E) (.slice A s.ws.length c) s.ws
/-- The processor has turned, and nothing else. -/
def CTo (w : World) (T : TypeId) (B E p : Nat) (A : Option Addr) (c bm : Nat) (s : CS) (w' : World) : Prop := COK w' T B E p A c bm s ∧ Kept w w' (CB p bm) ∧ Below B w w'
section
variable {w w1 w2 : World} {T : TypeId} {B E p : Nat} {A : Option Addr} {c bm : Nat} {s s1 s2 : CS}
theorem COK.c0 (h : COK w T B E p A c bm s) : w.cell? ⟨p, 0, none⟩ = some (.slice A s.ws.length c) := blk_cell h.blk 0
theorem COK.cx (h : COK w T B E p A c bm s) (j : Nat) (hj : j < 32) : w.cell? ⟨p, 1 + j, none⟩ = some (.int .i64 (s.x.getD j 0)) := by
  rw [blk_cell h.blk (1 + j), List.getElem?_toArray, cpuL, Nat.add_comm 1 j, List.getElem?_cons_succ, List.getElem?_append_left (by rw [List.length_map, h.xl]; exact hj), List.getElem?_map, List.getD_eq_getElem?_getD, List.getElem?_eq_getElem (by rw [h.xl]; exact hj)]
  rfl
theorem COK.ct (h : COK w T B E p A c bm s) (j : Nat) : w.cell? ⟨p, 33 + j, none⟩ = [Value.bool s.fN, .bool s.fZ, .bool s.fC, .bool s.fV, .int .i64 s.pl, .slice (some ⟨bm, 0, none⟩) s.m.length s.m.length][j]? := by
  rw [blk_cell h.blk (33 + j), List.getElem?_toArray, cpuL, show 33 + j = (32 + j) + 1 by omega, List.getElem?_cons_succ, List.getElem?_append_right (by rw [List.length_map, h.xl]; omega), List.length_map, h.xl, show 32 + j - 32 = j by omega]
theorem COK.c33 (h : COK w T B E p A c bm s) : w.cell? ⟨p, 33, none⟩ = some (.bool s.fN) := h.ct 0
theorem COK.c34 (h : COK w T B E p A c bm s) : w.cell? ⟨p, 34, none⟩ = some (.bool s.fZ) := h.ct 1
theorem COK.c35 (h : COK w T B E p A c bm s) : w.cell? ⟨p, 35, none⟩ = some (.bool s.fC) := h.ct 2
theorem COK.c36 (h : COK w T B E p A c bm s) : w.cell? ⟨p, 36, none⟩ = some (.bool s.fV) := h.ct 3
theorem COK.c37 (h : COK w T B E p A c bm s) : w.cell? ⟨p, 37, none⟩ = some (.int .i64 s.pl) := h.ct 4
theorem COK.c38 (h : COK w T B E p A c bm s) : w.cell? ⟨p, 38, none⟩ = some (.slice (some ⟨bm, 0, none⟩) s.m.length s.m.length) := h.ct 5
theorem COK.cm (h : COK w T B E p A c bm s) (j : Nat) (hj : j < s.m.length) : w.cell? ⟨bm, j, none⟩ = some (.int .u8 (s.m.getD j 0)) := by
  rw [blk_cell h.mem j, List.getElem?_toArray, List.getElem?_map, List.getD_eq_getElem?_getD, List.getElem?_eq_getElem hj]
  rfl
theorem COK.fr (h : COK w T B E p A c bm s) (j : Nat) : w.frozen? ⟨p, j, none⟩ = false := blk_frozen h.blk j
theorem COK.fm (h : COK w T B E p A c bm s) (j : Nat) : w.frozen? ⟨bm, j, none⟩ = false := blk_frozen h.mem j
theorem COK.lt (h : COK w T B E p A c bm s) : p < w.heap.size := blk_lt h.blk
theorem COK.ltm (h : COK w T B E p A c bm s) : bm < w.heap.size := blk_lt h.mem
theorem setCell_kept (w : World) (p bm j : Nat) (k : Nat) (hk : CB p bm k) (u : Value) : Kept w (w.setCell ⟨k, j, none⟩ u) (CB p bm) := (Kept.refl w _).setCell (p := ⟨k, j, none⟩) (.inl hk) u
/-- Another cell of the block. -/
theorem COK.put (h : COK w T B E p A c bm s) (j : Nat) (u : Value) (s' : CS) (hw : s'.ws = s.ws) (hm : s'.m = s.m) (hx : s'.x.length = 32) (hc : (cpuL A c bm s).toArray.setIfInBounds j u = (cpuL A c bm s').toArray) :
    COK (w.setCell ⟨p, j, none⟩ u) T B E p A c bm s' := by
  refine ⟨h.hT, h.lp, h.lm, h.hp, h.hm, h.ne, hx, by rw [hm]; exact h.ml, ?_, ?_, ?_⟩
  · have := blk_set h.blk j u
    rw [hc] at this
    exact this
  · rw [hm]
    exact blk_far h.mem (p := ⟨p, j, none⟩) (fun e => h.ne e.symm) u
  · rw [hw]
    exact Kd.R_kept h.own (setCell_kept w p bm j p (.inl rfl) u) (fun k hk hs => hs.elim hk.1 hk.2.1)
theorem COK.setx (h : COK w T B E p A c bm s) (j : Nat) (hj : j < 32) (v : Int) : COK (w.setCell ⟨p, 1 + j, none⟩ (.int .i64 v)) T B E p A c bm { s with x := s.x.set j v } := by
  refine h.put (1 + j) _ _ rfl rfl (by rw [List.length_set]; exact h.xl) ?_
  rw [List.setIfInBounds_toArray]
  unfold cpuL
  rw [Nat.add_comm 1 j, List.set_cons_succ, List.set_append_left _ _ (by rw [List.length_map, h.xl]; exact hj), List.map_set]
theorem COK.sett (h : COK w T B E p A c bm s) (j : Nat) (u : Value) (s' : CS) (hw : s'.ws = s.ws) (hm : s'.m = s.m) (hx : s'.x = s.x)
    (hc : [Value.bool s.fN, .bool s.fZ, .bool s.fC, .bool s.fV, .int .i64 s.pl, .slice (some ⟨bm, 0, none⟩) s.m.length s.m.length].set j u = [Value.bool s'.fN, .bool s'.fZ, .bool s'.fC, .bool s'.fV, .int .i64 s'.pl, .slice (some ⟨bm, 0, none⟩) s'.m.length s'.m.length]) :
    COK (w.setCell ⟨p, 33 + j, none⟩ u) T B E p A c bm s' := by
  refine h.put (33 + j) _ _ hw hm (by rw [hx]; exact h.xl) ?_
  rw [List.setIfInBounds_toArray]
  unfold cpuL
  rw [show 33 + j = (32 + j) + 1 by omega, List.set_cons_succ, List.set_append_right _ _ (by rw [List.length_map, h.xl]; omega), List.length_map, h.xl, show 32 + j - 32 = j by omega, hc, hw, hx]
theorem COK.setpl (h : COK w T B E p A c bm s) (v : Int) : COK (w.setCell ⟨p, 37, none⟩ (.int .i64 v)) T B E p A c bm { s with pl := v } := h.sett 4 _ _ rfl rfl rfl rfl
theorem COK.setN (h : COK w T B E p A c bm s) (v : Bool) : COK (w.setCell ⟨p, 33, none⟩ (.bool v)) T B E p A c bm { s with fN := v } := h.sett 0 _ _ rfl rfl rfl rfl
theorem COK.setZ (h : COK w T B E p A c bm s) (v : Bool) : COK (w.setCell ⟨p, 34, none⟩ (.bool v)) T B E p A c bm { s with fZ := v } := h.sett 1 _ _ rfl rfl rfl rfl
theorem COK.setC (h : COK w T B E p A c bm s) (v : Bool) : COK (w.setCell ⟨p, 35, none⟩ (.bool v)) T B E p A c bm { s with fC := v } := h.sett 2 _ _ rfl rfl rfl rfl
theorem COK.setV (h : COK w T B E p A c bm s) (v : Bool) : COK (w.setCell ⟨p, 36, none⟩ (.bool v)) T B E p A c bm { s with fV := v } := h.sett 3 _ _ rfl rfl rfl rfl
theorem COK.setm (h : COK w T B E p A c bm s) (j : Nat) (v : Int) : COK (w.setCell ⟨bm, j, none⟩ (.int .u8 v)) T B E p A c bm { s with m := s.m.set j v } := by
  refine ⟨h.hT, h.lp, h.lm, h.hp, h.hm, h.ne, h.xl, by rw [List.length_set]; exact h.ml, ?_, ?_, ?_⟩
  · have := blk_far h.blk (p := ⟨bm, j, none⟩) h.ne (.int .u8 v)
    unfold cpuL at this ⊢
    rw [List.length_set]
    exact this
  · have := blk_set h.mem j (.int .u8 v)
    rw [List.setIfInBounds_toArray, ← List.map_set] at this
    exact this
  · exact Kd.R_kept h.own (setCell_kept w p bm j bm (.inr rfl) _) (fun k hk hs => hs.elim hk.1 hk.2.1)
theorem COK.kept {S : Nat → Prop} (h : COK w T B E p A c bm s) (hk : Kept w w1 S) (hS : ∀ k, S k → k < B ∨ E ≤ k) : COK w1 T B E p A c bm s :=
  ⟨h.hT, h.lp, h.lm, h.hp, h.hm, h.ne, h.xl, h.ml, blk_kept h.blk hk (fun hs => (hS _ hs).elim (fun h1 => by have := h.lp; omega) (fun h1 => by have := h.hp; omega)), blk_kept h.mem hk (fun hs => (hS _ hs).elim (fun h1 => by have := h.lm; omega) (fun h1 => by have := h.hm; omega)),
    Kd.R_mono (Kd.R_kept (Kd.R_bound h.own) hk (fun k ho hs => (hS _ hs).elim (fun h1 => by have := ho.2.1; omega) (fun h1 => by have := ho.1.2.2; omega))) (fun _ hk => hk.1)⟩
theorem COK.below (h : COK w T B E p A c bm s) (hb : Below w.heap.size w w1) : COK w1 T B E p A c bm s := h.kept (Kept.of_below hb (fun _ => False)) (fun _ hk => hk.elim)
theorem COK.drewN (h : COK w T B E p A c bm s) (m : Nat) : COK (w.drewN m) T B E p A c bm s := h.below (pw_below_drewN (Below.refl _ w) m)
theorem CTo.refl (h : COK w T B E p A c bm s) : CTo w T B E p A c bm s w := ⟨h, Kept.refl _ _, Below.refl _ _⟩
theorem CTo.trans (h : CTo w T B E p A c bm s w1) (k : CTo w1 T B E p A c bm s1 w2) : CTo w T B E p A c bm s1 w2 := ⟨k.1, h.2.1.then_ k.2.1 (fun _ hs => .inl hs), h.2.2.trans k.2.2⟩
theorem CTo.after (h : Kept w w1 (CB p bm)) (hb : Below B w w1) (k : CTo w1 T B E p A c bm s1 w2) : CTo w T B E p A c bm s1 w2 := ⟨k.1, h.then_ k.2.1 (fun _ hs => .inl hs), hb.trans k.2.2⟩
theorem CTo.below (h : CTo w T B E p A c bm s w1) (hB : B ≤ w1.heap.size) (hb : Below w1.heap.size w1 w2) : CTo w T B E p A c bm s w2 := ⟨h.1.below hb, h.2.1.below hb, h.2.2.trans (hb.mono hB)⟩
theorem COK.le (h : COK w T B E p A c bm s) : B ≤ w.heap.size := by have := h.lp; have := h.lt; omega
end
/-- Whether a condition holds. -/
def hold (n : Int) (fN fZ fC fV : Bool) : Bool := (cpu_Holds.f 5 n fN fZ fC fV).getD false
theorem ite_ex {α : Type} {c : Prop} [Decidable c] {a b : Option α} (h1 : ∃ r, a = some r) (h2 : ∃ r, b = some r) : ∃ r, (if c then a else b) = some r := by
  by_cases h : c
  · rw [if_pos h]; exact h1
  · rw [if_neg h]; exact h2
theorem getD_ex {α : Type} {o : Option α} {d : α} (h : ∃ r, o = some r) : o = some (o.getD d) := by
  obtain ⟨r, rfl⟩ := h
  rfl
theorem hold_tot (n : Int) (fN fZ fC fV : Bool) : ∃ r, cpu_Holds.f 5 n fN fZ fC fV = some r := by
  unfold cpu_Holds.f
  refine ite_ex ?_ ?_ <;> unfold cpu_Holds.j0 <;> repeat' (first | (with_reducible exact ⟨_, rfl⟩) | (refine ite_ex ?_ ?_))
theorem hold_run (n : Int) (fN fZ fC fV : Bool) (w : World) : Calls Try.prog 14 #[.int .i64 n, .agg #[.bool fN, .bool fZ, .bool fC, .bool fV]] w fun e w' => e = .returned (.bool (hold n fN fZ fC fV)) ∧ Below w.heap.size w w' :=
  cpu_Holds.calls 5 n fN fZ fC fV _ w (getD_ex (hold_tot n fN fZ fC fV))
def lessF (a b : Int) : Int × Bool × Bool × Bool × Bool := (cpu_Less.f a b).getD (0, false, false, false, false)
theorem less_run (a b : Int) (w : World) : Calls Try.prog 11 #[.int .i64 a, .int .i64 b] w fun e w' => e = .returned (.tuple #[.int .i64 (lessF a b).1, .agg #[.bool (lessF a b).2.1, .bool (lessF a b).2.2.1, .bool (lessF a b).2.2.2.1, .bool (lessF a b).2.2.2.2]]) ∧ Below w.heap.size w w' :=
  cpu_Less.calls a b _ _ _ _ _ w rfl
def quoF (a b : Int) : Int := (cpu_divide.f a b).getD 0
theorem quo_run (a b : Int) (w : World) : Calls Try.prog 59 #[.int .i64 a, .int .i64 b] w fun e w' => e = .returned (.int .i64 (quoF a b)) ∧ Drawn0 w w' := by
  refine cpu_divide.calls a b _ w (getD_ex ?_)
  unfold cpu_divide.f
  repeat' (first | (with_reducible exact ⟨_, rfl⟩) | (refine ite_ex ?_ ?_))
end Go.Proofs.Ytjhgbddcenhkfaa.P

set_option linter.unusedVariables false
set_option linter.unusedSimpArgs false
namespace Go.Proofs.Ytjhgbddcenhkfaa.P
open Go.RowKit Go.Proofs.YtjhgbddcenhkfaaW.PrintWords Go.Proofs.YtjhgbddcenhkfaaW.PrintLast Go.Proofs.YtjhgbddcenhkfaaW.PrintMore
def regC (s : CS) (i : Int) : Int := if 0 ≤ i ∧ i ≤ 31 then s.x.getD i.toNat 0 else 0
def isReg (i : Int) : Bool := decide (0 ≤ i) && decide (i ≤ 31)
theorem is_run (i : Int) (w : World) : Calls Try.prog 34 #[.int .i64 i] w fun e w' => e = .returned (.bool (isReg i)) ∧ Drawn0 w w' := by
  refine cpu_is.calls i _ w ?_
  unfold cpu_is.f isReg
  by_cases h : i ≥ 0
  · rw [if_pos h, show decide (0 ≤ i) = true from decide_eq_true h, Bool.true_and]
  · rw [if_neg h, show decide (0 ≤ i) = false from decide_eq_false h, Bool.false_and]
theorem isReg_nat {i : Int} (h : isReg i = true) : ∃ j : Nat, i = (j : Int) ∧ j < 32 := by
  unfold isReg at h
  rw [Bool.and_eq_true, decide_eq_true_eq, decide_eq_true_eq] at h
  exact ⟨i.toNat, by omega, by omega⟩
theorem regC_nat (s : CS) (j : Nat) (hj : j < 32) : regC s (j : Int) = s.x.getD j 0 := by
  unfold regC
  rw [if_pos (by omega), Int.toNat_natCast]
theorem regC_no (s : CS) (i : Int) (h : isReg i = false) : regC s i = 0 := by
  unfold regC isReg at *
  rw [if_neg]
  intro hi
  rw [decide_eq_true hi.1, decide_eq_true hi.2] at h
  cases h
set_option maxRecDepth 100000 in
set_option maxHeartbeats 1000000 in
theorem reg_run {w : World} {B E p : Nat} {A : Option Addr} {c bm : Nat} {s : CS} (h : COK w 69 B E p A c bm s) (i : Int) :
    Calls Try.prog 18 #[.pointer (some ⟨p, 0, none⟩), .int .i64 i] w fun e w' => e = .returned (.int .i64 (regC s i)) ∧ ∃ m, w' = w.drewN m := by
  by_cases hi : isReg i = true
  · obtain ⟨j, rfl, hj⟩ := isReg_nat hi
    rw [regC_nat s j hj]
    have hcx := h.cx j hj
    clear h
    go_enter Try.func18, Try.ntmps18
    go_wp2_with fail
    refine (is_run (j : Int) _).mono ?_
    rintro e w1 ⟨rfl, ⟨n, rfl⟩⟩
    rw [hi]
    go_wp2_with fail
    go_ret
    exact ⟨rfl, _, rfl⟩
  · have hi' : isReg i = false := by simpa using hi
    rw [regC_no s i hi']
    go_enter Try.func18, Try.ntmps18
    go_wp2_with fail
    refine (is_run i _).mono ?_
    rintro e w1 ⟨rfl, ⟨n, rfl⟩⟩
    rw [hi']
    go_wp2_with fail
    go_ret
    exact ⟨rfl, _, rfl⟩
theorem reg_nil (i : Int) (w : World) : Calls Try.prog 18 #[.pointer none, .int .i64 i] w fun e w' => e = .returned (.int .i64 0) ∧ w' = w := by
  go_enter Try.func18, Try.ntmps18
  go_wp2_with fail
  go_ret
  exact ⟨rfl, rfl⟩
def setS (s : CS) (i v : Int) : CS := if isReg i = true then { s with x := s.x.set i.toNat v } else s
set_option maxRecDepth 100000 in
set_option maxHeartbeats 1000000 in
theorem set_run {w : World} {B E p : Nat} {A : Option Addr} {c bm : Nat} {s : CS} (h : COK w 69 B E p A c bm s) (i v : Int) :
    Calls Try.prog 17 #[.pointer (some ⟨p, 0, none⟩), .int .i64 i, .int .i64 v] w fun e w' => e = .returned (.int .i64 (if isReg i = true then 0 else 1)) ∧ CTo w 69 B E p A c bm (setS s i v) w' := by
  have HO := Aside0.mk h
  by_cases hi : isReg i = true
  · rw [if_pos hi]
    obtain ⟨j, rfl, hj⟩ := isReg_nat hi
    have hs : setS s (j : Int) v = { s with x := s.x.set j v } := by unfold setS; rw [if_pos hi, Int.toNat_natCast]
    rw [hs]
    have hcx := h.cx j hj
    have hf := h.fr (1 + j)
    clear h hs
    go_enter Try.func17, Try.ntmps17
    go_wp2_with fail
    refine (is_run (j : Int) _).mono ?_
    rintro e w1 ⟨rfl, ⟨n, rfl⟩⟩
    rw [hi]
    go_wp2_with fail
    go_ret
    exact ⟨rfl, (HO.out.drewN n).setx j hj v, setCell_kept _ p bm (1 + j) p (.inl rfl) _, (pw_below_drewN (Below.refl _ w) n).setCell (p := ⟨p, 1 + j, none⟩) HO.out.lp _⟩
  · have hi' : isReg i = false := by simpa using hi
    rw [if_neg hi]
    have hs : setS s i v = s := by unfold setS; rw [if_neg hi]
    rw [hs]
    clear h hs
    go_enter Try.func17, Try.ntmps17
    go_wp2_with fail
    refine (is_run i _).mono ?_
    rintro e w1 ⟨rfl, ⟨n, rfl⟩⟩
    rw [hi']
    go_wp2_with fail
    go_ret
    exact ⟨rfl, HO.out.drewN n, Kept.refl _ _, pw_below_drewN (Below.refl _ w) n⟩
theorem set_nil (i v : Int) (w : World) : Calls Try.prog 17 #[.pointer none, .int .i64 i, .int .i64 v] w fun e w' => e = .returned (.int .i64 6) ∧ w' = w := by
  go_enter Try.func17, Try.ntmps17
  go_wp2_with fail
  go_ret
  exact ⟨rfl, rfl⟩
theorem place_run {w : World} {B E p : Nat} {A : Option Addr} {c bm : Nat} {s : CS} (h : COK w 69 B E p A c bm s) :
    Calls Try.prog 20 #[.pointer (some ⟨p, 0, none⟩)] w fun e w' => e = .returned (.int .i64 s.pl) ∧ w' = w := by
  have h37 := h.c37
  clear h
  go_enter Try.func20, Try.ntmps20
  go_wp2_with fail
  go_ret
  exact ⟨rfl, rfl⟩
theorem place_nil (w : World) : Calls Try.prog 20 #[.pointer none] w fun e w' => e = .returned (.int .i64 0) ∧ w' = w := by
  go_enter Try.func20, Try.ntmps20
  go_wp2_with fail
  go_ret
  exact ⟨rfl, rfl⟩
set_option maxHeartbeats 1000000 in
theorem flags_run {w : World} {B E p : Nat} {A : Option Addr} {c bm : Nat} {s : CS} (h : COK w 69 B E p A c bm s) :
    Calls Try.prog 29 #[.pointer (some ⟨p, 0, none⟩)] w fun e w' => e = .returned (.agg #[.bool s.fN, .bool s.fZ, .bool s.fC, .bool s.fV]) ∧ Below w.heap.size w w' := by
  have hu := Try.underlying23
  have h33 := h.c33
  have h34 := h.c34
  have h35 := h.c35
  have h36 := h.c36
  have hlt := h.lt
  clear h
  go_enter Try.func29, Try.ntmps29
  go_wp2_with fail
  refine bodyPost_ret (results_cell_row rfl _ _ w.heap.size 23 #[.bool s.fN, .bool s.fZ, .bool s.fC, .bool s.fV] (0, 0) _ rfl (blk_new w _) Try.underlying23 rfl (by kernel_rfl)) rfl ?_
  exact ⟨rfl, below_alloc (Below.refl _ _) _⟩
theorem flags_nil (w : World) : Calls Try.prog 29 #[.pointer none] w fun e w' => e = .returned (.agg #[.bool false, .bool false, .bool false, .bool false]) ∧ Below w.heap.size w w' := by
  have hu := Try.underlying23
  go_enter Try.func29, Try.ntmps29
  go_wp2_with fail
  refine bodyPost_ret (results_cell_row rfl _ _ w.heap.size 23 #[.bool false, .bool false, .bool false, .bool false] (0, 0) _ rfl (blk_new w _) Try.underlying23 rfl (by kernel_rfl)) rfl ?_
  exact ⟨rfl, below_alloc (Below.refl _ _) _⟩
/-- Whether there is such a place. -/
def mayGo (s : CS) (i : Int) : Bool := decide (0 ≤ i) && decide (i ≤ (s.ws.length : Int))
def goS (s : CS) (i : Int) : CS := if mayGo s i = true then { s with pl := i } else s
set_option maxRecDepth 100000 in
set_option maxHeartbeats 1000000 in
theorem go_run {w : World} {B E p : Nat} {A : Option Addr} {c bm : Nat} {s : CS} (h : COK w 69 B E p A c bm s) (i : Int) :
    Calls Try.prog 19 #[.pointer (some ⟨p, 0, none⟩), .int .i64 i] w fun e w' => e = .returned (.int .i64 (if mayGo s i = true then 0 else 1)) ∧ CTo w 69 B E p A c bm (goS s i) w' := by
  have HO := Aside0.mk h
  have h0 := h.c0
  have h37 := h.c37
  have f37 := h.fr 37
  clear h
  by_cases h1 : i < 0
  · have hm : mayGo s i = false := by unfold mayGo; rw [decide_eq_false (by omega), Bool.false_and]
    unfold goS
    rw [hm, if_neg (by simp), if_neg (by simp)]
    clear hm
    go_enter Try.func19, Try.ntmps19
    go_wp2_with fail
    go_ret
    exact ⟨rfl, CTo.refl HO.out⟩
  · by_cases h2 : i > (s.ws.length : Int)
    · have hm : mayGo s i = false := by unfold mayGo; rw [decide_eq_false (p := i ≤ _) (by omega), Bool.and_false]
      unfold goS
      rw [hm, if_neg (by simp), if_neg (by simp)]
      clear hm
      go_enter Try.func19, Try.ntmps19
      go_wp2_with fail
      go_ret
      exact ⟨rfl, CTo.refl HO.out⟩
    · have hm : mayGo s i = true := by unfold mayGo; rw [decide_eq_true (p := 0 ≤ i) (by omega), decide_eq_true (p := i ≤ _) (by omega)]; rfl
      unfold goS
      rw [hm, if_pos rfl, if_pos rfl]
      clear hm
      go_enter Try.func19, Try.ntmps19
      go_wp2_with fail
      go_ret
      exact ⟨rfl, HO.out.setpl i, setCell_kept _ p bm 37 p (.inl rfl) _, (Below.refl _ _).setCell (p := ⟨p, 37, none⟩) HO.out.lp _⟩
theorem go_nil (i : Int) (w : World) : Calls Try.prog 19 #[.pointer none, .int .i64 i] w fun e w' => e = .returned (.int .i64 6) ∧ w' = w := by
  go_enter Try.func19, Try.ntmps19
  go_wp2_with fail
  go_ret
  exact ⟨rfl, rfl⟩
/-- A register, of which the spare one is 0. -/
def getC (s : CS) (i : Int) : Int := if i = 31 then 0 else s.x.getD i.toNat 0
def putC (s : CS) (i v : Int) : CS := if i = 31 then s else { s with x := s.x.set i.toNat v }
set_option maxRecDepth 100000 in
set_option maxHeartbeats 1000000 in
theorem get_run {w : World} {B E p : Nat} {A : Option Addr} {c bm : Nat} {s : CS} (h : COK w 69 B E p A c bm s) (i : Int) (h0 : 0 ≤ i) (h1 : i ≤ 31) :
    Calls Try.prog 58 #[.pointer (some ⟨p, 0, none⟩), .int .i64 i] w fun e w' => e = .returned (.int .i64 (getC s i)) ∧ w' = w := by
  obtain ⟨j, rfl⟩ := Int.eq_ofNat_of_zero_le h0
  have hj : j < 32 := by omega
  have hcx := h.cx j hj
  clear h
  unfold getC
  by_cases h31 : (j : Int) = 31
  · rw [if_pos h31]
    go_enter Try.func58, Try.ntmps58
    have hb : ((j : Int) == 31) = true := by rw [h31]; rfl
    have H31 := Aside0.mk h31
    clear h31
    go_wp2_with fail
    go_ret
    exact ⟨rfl, rfl⟩
  · rw [if_neg h31, Int.toNat_natCast]
    have hb : ((j : Int) == 31) = false := by simpa using h31
    clear h31
    go_enter Try.func58, Try.ntmps58
    go_wp2_with fail
    go_ret
    exact ⟨rfl, rfl⟩
set_option maxRecDepth 100000 in
set_option maxHeartbeats 1000000 in
theorem put_run {w : World} {B E p : Nat} {A : Option Addr} {c bm : Nat} {s : CS} (h : COK w 69 B E p A c bm s) (i v : Int) (h0 : 0 ≤ i) (h1 : i ≤ 31) :
    Calls Try.prog 41 #[.pointer (some ⟨p, 0, none⟩), .int .i64 i, .int .i64 v] w fun e w' => e = .returned (.tuple #[]) ∧ CTo w 69 B E p A c bm (putC s i v) w' := by
  have HO := Aside0.mk h
  obtain ⟨j, rfl⟩ := Int.eq_ofNat_of_zero_le h0
  have hj : j < 32 := by omega
  have hcx := h.cx j hj
  have hf := h.fr (1 + j)
  clear h
  unfold putC
  by_cases h31 : (j : Int) = 31
  · rw [if_pos h31]
    have hb : ((j : Int) != 31) = false := by rw [h31]; rfl
    clear h31
    go_enter Try.func41, Try.ntmps41
    go_wp2_with fail
    go_end0
    exact ⟨rfl, CTo.refl HO.out⟩
  · rw [if_neg h31, Int.toNat_natCast]
    have hb : ((j : Int) != 31) = true := by simpa using h31
    clear h31
    go_enter Try.func41, Try.ntmps41
    go_wp2_with fail
    go_end0
    exact ⟨rfl, HO.out.setx j hj v, setCell_kept _ p bm (1 + j) p (.inl rfl) _, (Below.refl _ _).setCell (p := ⟨p, 1 + j, none⟩) HO.out.lp _⟩
set_option maxRecDepth 100000 in
set_option maxHeartbeats 1000000 in
theorem choose_run {w : World} {B E p : Nat} {A : Option Addr} {c bm : Nat} {s : CS} (h : COK w 69 B E p A c bm s) (n a b : Int) :
    Calls Try.prog 60 #[.pointer (some ⟨p, 0, none⟩), .int .i64 n, .int .i64 a, .int .i64 b] w fun e w' => e = .returned (.int .i64 (if hold n s.fN s.fZ s.fC s.fV = true then a else b)) ∧ Below w.heap.size w w' := by
  have hu := Try.underlying23
  have h33 := h.c33
  have h34 := h.c34
  have h35 := h.c35
  have h36 := h.c36
  clear h
  have hr : ∀ w1, Calls Try.prog 14 #[.int .i64 n, .agg #[.bool s.fN, .bool s.fZ, .bool s.fC, .bool s.fV]] w1 fun e w' => e = .returned (.bool (hold n s.fN s.fZ s.fC s.fV)) ∧ Below w1.heap.size w1 w' := hold_run n s.fN s.fZ s.fC s.fV
  obtain ⟨g, hg⟩ : ∃ g, g = hold n s.fN s.fZ s.fC s.fV := ⟨_, rfl⟩
  rw [← hg] at hr ⊢
  clear hg
  have HR := Aside0.mk hr
  clear hr
  cases g
  · rw [if_neg (by simp)]
    go_enter Try.func60, Try.ntmps60
    go_wp2_with fail
    refine (HR.out _).mono ?_
    rintro e w1 ⟨rfl, hb⟩
    have HB := Aside0.mk hb
    clear hb
    go_wp2_with fail
    go_ret
    exact ⟨rfl, HB.out⟩
  · rw [if_pos rfl]
    go_enter Try.func60, Try.ntmps60
    go_wp2_with fail
    refine (HR.out _).mono ?_
    rintro e w1 ⟨rfl, hb⟩
    have HB := Aside0.mk hb
    clear hb
    go_wp2_with fail
    go_ret
    exact ⟨rfl, HB.out⟩
end Go.Proofs.Ytjhgbddcenhkfaa.P

set_option linter.unusedVariables false
set_option linter.unusedSimpArgs false
namespace Go.Proofs.Ytjhgbddcenhkfaa.P
open Go.RowKit Go.Proofs.YtjhgbddcenhkfaaW.PrintWords Go.Proofs.YtjhgbddcenhkfaaW.PrintLast
def okB (b : List Int) : Prop := ∀ x ∈ b, 0 ≤ x ∧ x < 256
def leN : List Int → Int
  | [] => 0
  | b :: l => b + 256 * leN l
theorem leN_range : ∀ (l : List Int), okB l → 0 ≤ leN l ∧ leN l < 256 ^ l.length
  | [], _ => by simp [leN]
  | b :: l, h => by
    have h1 := leN_range l (fun y hy => h y (List.mem_cons_of_mem _ hy))
    have h2 := h b (List.mem_cons_self ..)
    simp only [leN, List.length_cons, Int.pow_succ]
    omega
theorem leN_snoc : ∀ (l : List Int) (b : Int), leN (l ++ [b]) = leN l + 256 ^ l.length * b
  | [], b => by simp [leN]
  | a :: l, b => by
    rw [List.cons_append, leN, leN_snoc l b, leN, List.length_cons, Int.pow_succ]
    rw [Int.mul_add, Int.mul_comm (256 ^ l.length) 256, ← Int.mul_assoc]
    omega
theorem pow8 (k : Nat) : (256 : Int) ^ k = 2 ^ (8 * k) := by rw [Int.pow_mul]; rfl
/-- A byte more, or-ed in. -/
theorem leN_or (l : List Int) (b : Int) (hl : okB l) (h0 : 0 ≤ b) (h1 : b < 256) (hk : l.length < 8) : Go.bits .or .u64 (leN l) (b * 2 ^ (8 * l.length) % 18446744073709551616) = leN (l ++ [b]) := by
  have hr := leN_range l hl
  rw [pow8] at hr
  have hp : (0 : Int) < 2 ^ (8 * l.length) := Int.pow_pos (by decide)
  have hm : (2 : Int) ^ (8 * l.length) ≤ 2 ^ 56 := by exact_mod_cast Nat.pow_le_pow_right (n := 2) (by decide) (show 8 * l.length ≤ 56 by omega)
  have hb : b * 2 ^ (8 * l.length) < 2 ^ 64 := by
    have : b * 2 ^ (8 * l.length) ≤ 255 * 2 ^ 56 := Int.mul_le_mul (by omega) hm (by omega) (by decide)
    omega
  have hb0 : 0 ≤ b * 2 ^ (8 * l.length) := Int.mul_nonneg h0 (by omega)
  rw [leN_snoc, pow8, show b * 2 ^ (8 * l.length) % 18446744073709551616 = b * 2 ^ (8 * l.length) from Int.emod_eq_of_lt hb0 hb]
  have hw : ∀ n : Int, 0 ≤ n → n < 2 ^ 64 → IntKind.u64.wrap n = n := fun n h0 h1 => by rw [IntKind.wrap_u64]; omega
  have hc := bits_join .u64 64 (by decide) hw (8 * l.length) (b * 2 ^ (8 * l.length)) (leN l) hb0 (Int.mul_emod_left _ _) hb hr.1 hr.2 (by omega)
  have hcomm : bits .or .u64 (leN l) (b * 2 ^ (8 * l.length)) = bits .or .u64 (b * 2 ^ (8 * l.length)) (leN l) := by simp only [bits, BitVec.or_comm]
  rw [hcomm, hc, Int.mul_comm b]
  omega
/-- The first n bytes of a number. -/
def leB (x : Int) (n : Nat) : List Int := (List.range n).map fun i => x / 2 ^ (8 * i) % 256
theorem leB_length (x : Int) (n : Nat) : (leB x n).length = n := by simp [leB]
theorem leB_succ (x : Int) (n : Nat) : leB x (n + 1) = leB x n ++ [x / 2 ^ (8 * n) % 256] := by simp [leB, List.range_succ]
theorem leB_ok (x : Int) (n : Nat) : okB (leB x n) := by
  intro y hy
  simp only [leB, List.mem_map] at hy
  obtain ⟨i, _, rfl⟩ := hy
  omega
/-- Whether there are eight bytes. -/
def mayM (s : CS) (i : Int) : Bool := decide (0 ≤ i) && (decide (i % 8 = 0) && decide (i + 8 ≤ (s.m.length : Int)))
def rdB (s : CS) (j : Nat) : List Int := (s.m.drop j).take 8
def rdM (s : CS) (i : Int) : Int := if mayM s i = true then wrap64 (leN (rdB s i.toNat)) else 0
/-- n bytes of a number, laid into a row. -/
def lay (m : List Int) (j : Nat) (v : Int) : Nat → List Int
  | 0 => m
  | n + 1 => (lay m j v n).set (j + n) (v / 2 ^ (8 * n) % 256)
def wrM (s : CS) (i v : Int) : CS := if mayM s i = true then { s with m := lay s.m i.toNat v 8 } else s
theorem lay_length (m : List Int) (j : Nat) (v : Int) : ∀ n, (lay m j v n).length = m.length
  | 0 => rfl
  | n + 1 => by rw [lay, List.length_set, lay_length m j v n]
theorem mayM_nat {s : CS} {i : Int} (h : mayM s i = true) : ∃ j : Nat, i = (j : Int) ∧ (j : Int) % 8 = 0 ∧ j + 8 ≤ s.m.length := by
  unfold mayM at h
  simp only [Bool.and_eq_true, decide_eq_true_eq] at h
  exact ⟨i.toNat, by omega, by omega, by omega⟩
theorem mayM_no {s : CS} {i : Int} (h : mayM s i = false) : i < 0 ∨ (0 ≤ i ∧ i % 8 ≠ 0) ∨ (0 ≤ i ∧ i % 8 = 0 ∧ (s.m.length : Int) < i + 8) := by
  unfold mayM at h
  simp only [Bool.and_eq_false_iff, decide_eq_false_iff_not] at h
  omega
end Go.Proofs.Ytjhgbddcenhkfaa.P

set_option linter.unusedVariables false
set_option linter.unusedSimpArgs false
namespace Go.Proofs.Ytjhgbddcenhkfaa.P
open Go.RowKit Go.Proofs.YtjhgbddcenhkfaaW.PrintWords Go.Proofs.YtjhgbddcenhkfaaW.PrintLast Go.Proofs.YtjhgbddcenhkfaaW.PrintMore
theorem mem_cut (bm j n : Nat) (h : j + 8 ≤ n) (W : World) : (Instr.slice 49 (.slice (some ⟨bm, 0, none⟩) n n) (some (.int .i64 (j : Int))) (some (.int .i64 ((j : Int) + 8))) none).run Try.prog W = .ok (.slice (some ⟨bm, j, none⟩) 8 (n - j)) W := by
  obtain ⟨i0, hi0, _, hs0, _⟩ := info_parts (show (Try.prog.info? 5).map (fun i => (i.zero, i.size, i.bytes)) = some (some (.int .u8 0), 1, 1) by kernel_rfl)
  have hel : Try.prog.elem 49 = 5 := by simp [Program.elem, Try.underlying49]
  have hu : Try.prog.underlying 49 = some (.slice (Try.prog.elem 49)) := by rw [hel]; exact Try.underlying49
  rw [run_slice_lh W 49 (some ⟨bm, 0, none⟩) n n hu .i64 .i64 (j : Int) ((j : Int) + 8) (by omega) (by omega) (by omega), hel]
  have e1 : ((j : Int) + 8).toNat = j + 8 := by omega
  simp [sizeOf, typeInfo, hi0, hs0, sliced, Result.andThen, e1, add_plain]
  omega
set_option maxRecDepth 100000 in
set_option maxHeartbeats 1000000 in
theorem bytes_run {w : World} {B E p : Nat} {A : Option Addr} {c bm : Nat} {s : CS} (h : COK w 69 B E p A c bm s) (i : Int) :
    Calls Try.prog 35 #[.pointer (some ⟨p, 0, none⟩), .int .i64 i] w fun e w' => e = .returned (if mayM s i = true then .slice (some ⟨bm, i.toNat, none⟩) 8 (s.m.length - i.toNat) else .slice none 0 0) ∧ w' = w := by
  have h38 := h.c38
  have hl := h.ml
  clear h
  by_cases hm : mayM s i = true
  · rw [if_pos hm]
    obtain ⟨j, rfl, hj8, hjl⟩ := mayM_nat hm
    clear hm
    have hcut := mem_cut bm j s.m.length hjl
    rw [Int.toNat_natCast]
    obtain ⟨n, hn⟩ : ∃ n, n = s.m.length := ⟨_, rfl⟩
    rw [← hn] at hcut h38 hjl hl ⊢
    clear hn
    have ht : Int.tmod (j : Int) 8 = 0 := by rw [Int.tmod_eq_emod_of_nonneg (by omega)]; exact hj8
    have hs1 : IntKind.i64.wrap ((n : Int) - 8) = (n : Int) - 8 := by rw [IntKind.wrap_i64]; omega
    have hs2 : IntKind.i64.wrap ((j : Int) + 8) = (j : Int) + 8 := by rw [IntKind.wrap_i64]; omega
    have hg : ¬ (j : Int) > (n : Int) - 8 := by omega
    have hg2 : ¬ (n : Int) - 8 < (j : Int) := by omega
    have hg3 : decide ((j : Int) > (n : Int) - 8) = false := decide_eq_false hg
    have hg4 : decide ((n : Int) - 8 < (j : Int)) = false := decide_eq_false hg
    go_enter Try.func35, Try.ntmps35
    go_wp2_with fail
    go_ret
    exact ⟨rfl, rfl⟩
  · have hm' : mayM s i = false := by simpa using hm
    rw [if_neg hm]
    rcases mayM_no hm' with h1 | ⟨h1, h2⟩ | ⟨h1, h2, h3⟩
    · clear hm hm'
      go_enter Try.func35, Try.ntmps35
      go_wp2_with fail
      go_ret
      exact ⟨rfl, rfl⟩
    · clear hm hm'
      have ht : ¬ Int.tmod i 8 = 0 := by rw [Int.tmod_eq_emod_of_nonneg h1]; exact h2
      have ht2 : (Int.tmod i 8 != 0) = true := by simpa using ht
      have ht3 : (i % 8 != 0) = true := by simpa using h2
      have hn1 : ¬ i < 0 := by omega
      go_enter Try.func35, Try.ntmps35
      go_wp2_with fail
      go_ret
      exact ⟨rfl, rfl⟩
    · clear hm hm'
      have ht : Int.tmod i 8 = 0 := by rw [Int.tmod_eq_emod_of_nonneg h1]; exact h2
      obtain ⟨n, hn⟩ : ∃ n, n = s.m.length := ⟨_, rfl⟩
      rw [← hn] at h38 h3 hl
      clear hn
      have hs1 : IntKind.i64.wrap ((n : Int) - 8) = (n : Int) - 8 := by rw [IntKind.wrap_i64]; omega
      have hn1 : ¬ i < 0 := by omega
      have hg : i > (n : Int) - 8 := by omega
      clear h2 h3
      go_enter Try.func35, Try.ntmps35
      go_wp2_with fail
      go_ret
      exact ⟨rfl, rfl⟩
theorem getD_mem (l : List Int) (i : Nat) (h : i < l.length) : l.getD i 0 ∈ l := by
  rw [List.getD_eq_getElem?_getD, List.getElem?_eq_getElem h]
  exact List.getElem_mem h
theorem rdB_len (s : CS) (j : Nat) (h : j + 8 ≤ s.m.length) : (rdB s j).length = 8 := by
  unfold rdB
  rw [List.length_take, List.length_drop]
  omega
theorem rdB_take (s : CS) (j k : Nat) (h : j + k < s.m.length) (hk : k < 8) : (rdB s j).take (k + 1) = (rdB s j).take k ++ [s.m.getD (j + k) 0] := by
  have hl : k < (rdB s j).length := by unfold rdB; rw [List.length_take, List.length_drop]; omega
  rw [List.take_succ_eq_append_getElem hl]
  have hg : (rdB s j)[k]? = some (s.m.getD (j + k) 0) := by
    unfold rdB
    rw [List.getElem?_take_of_lt hk, List.getElem?_drop, List.getD_eq_getElem?_getD, List.getElem?_eq_getElem h]
    rfl
  rw [List.getElem?_eq_getElem hl] at hg
  rw [Option.some.inj hg]
theorem neq_some (A : Addr) (n c : Nat) (W : World) : (binOp .neq 49 (.slice (some A) n c) (.slice none 0 0)).run Try.prog W = .ok (.bool true) W := by kernel_rfl
theorem neq_none (W : World) : (binOp .neq 49 (.slice none 0 0) (.slice none 0 0)).run Try.prog W = .ok (.bool false) W := by kernel_rfl
theorem bytes_nil (i : Int) (w : World) : Calls Try.prog 35 #[.pointer none, .int .i64 i] w fun e w' => e = .returned (.slice none 0 0) ∧ w' = w := by
  go_enter Try.func35, Try.ntmps35
  go_wp2_with fail
  go_ret
  exact ⟨rfl, rfl⟩
set_option maxRecDepth 100000 in
theorem read_nil (i : Int) (w : World) : Calls Try.prog 21 #[.pointer none, .int .i64 i] w fun e w' => e = .returned (.tuple #[.int .i64 0, .bool false]) ∧ w' = w := by
  have hnn := neq_none
  have hnn2 := neq_some
  go_enter Try.func21, Try.ntmps21
  go_wp2_with fail
  refine (bytes_nil i _).mono ?_
  rintro e w1 ⟨rfl, rfl⟩
  go_wp2_with fail
  go_loopw [7, 15] (fun v7 v15 wr => v7 = .int .u64 0 ∧ v15 = .int .i64 0 ∧ wr = w1) (fun _ v15 _ => 0)
  case atStart => exact ⟨rfl, rfl, rfl⟩
  case round =>
    obtain ⟨rfl, rfl, rfl⟩ := hrel
    go_wp2_with fail
    go_ret2
    exact ⟨rfl, rfl⟩
set_option maxRecDepth 100000 in
set_option maxHeartbeats 1000000 in
theorem read_run {w : World} {B E p : Nat} {A : Option Addr} {c bm : Nat} {s : CS} (h : COK w 69 B E p A c bm s) (hok : okB s.m) (i : Int) :
    Calls Try.prog 21 #[.pointer (some ⟨p, 0, none⟩), .int .i64 i] w fun e w' => e = .returned (.tuple #[.int .i64 (rdM s i), .bool (mayM s i)]) ∧ w' = w := by
  have HO := Aside0.mk h
  have HK := Aside0.mk hok
  by_cases hm : mayM s i = true
  · obtain ⟨j, rfl, hj8, hjl⟩ := mayM_nat hm
    have hb := bytes_run h (j : Int)
    rw [if_pos hm, Int.toNat_natCast] at hb
    have HBR := Aside0.mk hb
    rw [hm, show rdM s (j : Int) = wrap64 (leN (rdB s j)) by unfold rdM; rw [if_pos hm, Int.toNat_natCast]]
    clear h hok hb hm
    have hnn := neq_none
    have hnn2 := neq_some
    go_enter Try.func21, Try.ntmps21
    go_wp2_with fail
    refine HBR.out.mono ?_
    rintro e w1 ⟨rfl, rfl⟩
    go_wp2_with fail
    go_loopw [7, 15] (fun v7 v15 wr => ∃ k : Nat, v15 = .int .i64 k ∧ k ≤ 8 ∧ v7 = .int .u64 (leN ((rdB s j).take k)) ∧ wr = w1) (fun _ v15 _ => 8 - (intOf v15).toNat)
    case atStart => exact ⟨0, rfl, by omega, by simp [leN], rfl⟩
    case round =>
      obtain ⟨k, rfl, hk, rfl, rfl⟩ := hrel
      by_cases hlt : k < 8
      · have hcm := HO.out.cm (j + k) (by omega)
        have hl := rdB_take s j k (by omega) hlt
        have hb := HK.out _ (getD_mem s.m (j + k) (by omega))
        have hto : okB ((rdB s j).take k) := fun y hy => HK.out y (List.mem_of_mem_drop (List.mem_of_mem_take (List.mem_of_mem_take hy)))
        have htl : ((rdB s j).take k).length = k := by rw [List.length_take, rdB_len s j hjl]; omega
        have hor := leN_or ((rdB s j).take k) (s.m.getD (j + k) 0) hto hb.1 hb.2 (by omega)
        rw [htl, ← hl] at hor
        obtain ⟨y, hy⟩ : ∃ y, y = s.m.getD (j + k) 0 := ⟨_, rfl⟩
        obtain ⟨L, hL⟩ : ∃ L, L = leN ((rdB s j).take k) := ⟨_, rfl⟩
        rw [← hy] at hcm hor hb
        rw [← hL] at hor ⊢
        have w8 : IntKind.i64.wrap (8 * (k : Int)) = 8 * (k : Int) := by rw [IntKind.wrap_i64]; omega
        have wy : IntKind.u64.wrap y = y := by rw [IntKind.wrap_u64]; omega
        clear hy hL hl hto htl
        go_wp2_with fail
        go_roundw
        case rel => exact ⟨k + 1, by go_num, by omega, by rw [IntKind.wrap_u64, hor], by first | rfl | trivial⟩
        case measure => simp [intOf]; omega
      · obtain rfl : k = 8 := by omega
        have hfin : (rdB s j).take 8 = rdB s j := List.take_of_length_le (by rw [rdB_len s j hjl]; omega)
        rw [hfin]
        have hto : okB (rdB s j) := fun y hy => HK.out y (List.mem_of_mem_drop (List.mem_of_mem_take hy))
        have hr := leN_range _ hto
        obtain ⟨L, hL⟩ : ∃ L, L = leN (rdB s j) := ⟨_, rfl⟩
        rw [← hL]
        clear hfin hto hr
        go_wp2_with fail
        go_ret2
        exact ⟨rfl, by first | rfl | trivial⟩
  · have hm' : mayM s i = false := by simpa using hm
    have hb := bytes_run h i
    rw [if_neg hm] at hb
    have HBR := Aside0.mk hb
    rw [hm', show rdM s i = 0 by unfold rdM; rw [if_neg hm]]
    clear h hok hb hm hm'
    have hnn := neq_none
    have hnn2 := neq_some
    go_enter Try.func21, Try.ntmps21
    go_wp2_with fail
    refine HBR.out.mono ?_
    rintro e w1 ⟨rfl, rfl⟩
    go_wp2_with fail
    go_loopw [7, 15] (fun v7 v15 wr => v7 = .int .u64 0 ∧ v15 = .int .i64 0 ∧ wr = w1) (fun _ v15 _ => 0)
    case atStart => exact ⟨rfl, rfl, rfl⟩
    case round =>
      obtain ⟨rfl, rfl, rfl⟩ := hrel
      go_wp2_with fail
      go_ret2
      exact ⟨rfl, rfl⟩
theorem write_nil (i v : Int) (w : World) : Calls Try.prog 22 #[.pointer none, .int .i64 i, .int .i64 v] w fun e w' => e = .returned (.bool false) ∧ w' = w := by
  have hnn := neq_none
  go_enter Try.func22, Try.ntmps22
  go_wp2_with fail
  refine (bytes_nil i _).mono ?_
  rintro e w1 ⟨rfl, rfl⟩
  go_wp2_with fail
  go_loopw [14] (fun v14 wr => v14 = .int .i64 0 ∧ wr = w1) (fun v14 _ => 0)
  case atStart => exact ⟨rfl, rfl⟩
  case round =>
    obtain ⟨rfl, rfl⟩ := hrel
    go_wp2_with fail
    go_ret
    exact ⟨rfl, rfl⟩
theorem setCell_kept2 {w w1 : World} {p bm j : Nat} (h : Kept w w1 (CB p bm)) (u : Value) : Kept w (w1.setCell ⟨bm, j, none⟩ u) (CB p bm) := h.setCell (p := ⟨bm, j, none⟩) (.inl (.inr rfl)) u
set_option maxRecDepth 100000 in
set_option maxHeartbeats 1000000 in
theorem write_run {w : World} {B E p : Nat} {A : Option Addr} {c bm : Nat} {s : CS} (h : COK w 69 B E p A c bm s) (i v : Int) :
    Calls Try.prog 22 #[.pointer (some ⟨p, 0, none⟩), .int .i64 i, .int .i64 v] w fun e w' => e = .returned (.bool (mayM s i)) ∧ CTo w 69 B E p A c bm (wrM s i v) w' := by
  have HO := Aside0.mk h
  have hnn := neq_none
  have hnn2 := neq_some
  by_cases hm : mayM s i = true
  · obtain ⟨j, rfl, hj8, hjl⟩ := mayM_nat hm
    have hb := bytes_run h (j : Int)
    rw [if_pos hm, Int.toNat_natCast] at hb
    have HBR := Aside0.mk hb
    rw [show wrM s (j : Int) v = { s with m := lay s.m j v 8 } by unfold wrM; rw [if_pos hm, Int.toNat_natCast], hm]
    clear h hb hm
    go_enter Try.func22, Try.ntmps22
    go_wp2_with fail
    refine HBR.out.mono ?_
    rintro e w1 ⟨rfl, rfl⟩
    go_wp2_with fail
    go_loopw [14] (fun v14 wr => ∃ k : Nat, v14 = .int .i64 k ∧ k ≤ 8 ∧ CTo w1 69 B E p A c bm { s with m := lay s.m j v k } wr) (fun v14 _ => 8 - (intOf v14).toNat)
    case atStart => exact ⟨0, rfl, by omega, CTo.refl HO.out⟩
    case round =>
      obtain ⟨k, rfl, hk, hT⟩ := hrel
      have HT := Aside0.mk hT
      by_cases hlt : k < 8
      · have hcm := hT.1.cm (j + k) (by show j + k < (lay s.m j v k).length; rw [lay_length]; omega)
        have hf := hT.1.fm (j + k)
        have w8 : IntKind.i64.wrap (8 * (k : Int)) = 8 * (k : Int) := by rw [IntKind.wrap_i64]; omega
        clear hT
        go_wp2_with fail
        go_roundw
        case rel =>
          refine ⟨k + 1, by go_num, by omega, ?_⟩
          have hs := HT.out.1.setm (j + k) (v / 2 ^ (8 * k) % 256)
          refine ⟨?_, setCell_kept2 HT.out.2.1 _, HT.out.2.2.setCell (p := ⟨bm, j + k, none⟩) HO.out.lm _⟩
          exact hs
        case measure => simp [intOf]; omega
      · obtain rfl : k = 8 := by omega
        clear hT
        go_wp2_with fail
        go_ret
        exact ⟨rfl, HT.out⟩
  · have hm' : mayM s i = false := by simpa using hm
    have hb := bytes_run h i
    rw [if_neg hm] at hb
    have HBR := Aside0.mk hb
    rw [hm', show wrM s i v = s by unfold wrM; rw [if_neg hm]]
    clear h hb hm hm'
    go_enter Try.func22, Try.ntmps22
    go_wp2_with fail
    refine HBR.out.mono ?_
    rintro e w1 ⟨rfl, rfl⟩
    go_wp2_with fail
    go_loopw [14] (fun v14 wr => v14 = .int .i64 0 ∧ wr = w1) (fun v14 _ => 0)
    case atStart => exact ⟨rfl, rfl⟩
    case round =>
      obtain ⟨rfl, rfl⟩ := hrel
      go_wp2_with fail
      go_ret
      exact ⟨rfl, CTo.refl HO.out⟩
end Go.Proofs.Ytjhgbddcenhkfaa.P

set_option linter.unusedVariables false
set_option linter.unusedSimpArgs false
namespace Go.Proofs.Ytjhgbddcenhkfaa.P
open Go.RowKit Go.Proofs.YtjhgbddcenhkfaaW.PrintWords Go.Proofs.YtjhgbddcenhkfaaW.PrintLast Go.Proofs.YtjhgbddcenhkfaaW.PrintMore
def inReg (i : Int) : Prop := 0 ≤ i ∧ i ≤ 31
theorem and63 (b : Int) : bits .and .i64 b 63 = b % 64 := by
  have h63 : (BitVec.ofInt 64 63).toNat = 2 ^ 6 - 1 := by decide
  have hb : (BitVec.ofInt 64 b &&& BitVec.ofInt 64 63).toNat = (b % 18446744073709551616).toNat % 64 := by
    rw [BitVec.toNat_and, h63, Nat.and_two_pow_sub_one_eq_mod, BitVec.toNat_ofInt]
    rfl
  show IntKind.i64.wrap ((BitVec.ofInt 64 b &&& BitVec.ofInt 64 63).toNat : Int) = b % 64
  rw [hb, IntKind.wrap_i64]
  omega
theorem get_q {w : World} {B E p : Nat} {A : Option Addr} {c bm : Nat} {s : CS} (h : COK w 69 B E p A c bm s) (i : Int) (hi : inReg i) (n : Nat) :
    Calls Try.prog 58 #[.pointer (some ⟨p, 0, none⟩), .int .i64 i] (w.drewN n) fun e w' => e = .returned (.int .i64 (getC s i)) ∧ w' = w.drewN n := get_run (h.drewN n) i hi.1 hi.2
/-- An instruction's value. -/
def insV (x0 x1 x2 x3 x4 x5 x6 x7 : Int) : Array Value := #[.int .i64 x0, .int .i64 x1, .int .i64 x2, .int .i64 x3, .int .i64 x4, .int .i64 x5, .int .i64 x6, .int .i64 x7]

theorem below_dN0 {B : Nat} {a w : World} (h : Below B a w) (n : Nat) : Below B a (w.drewN n) := h.trans ⟨rfl, rfl, rfl, Nat.le_refl _, fun _ _ => rfl⟩
set_option maxRecDepth 100000 in
set_option maxHeartbeats 2000000 in
theorem reckon_1 {w : World} {B E p : Nat} {A : Option Addr} {c bm : Nat} {s : CS} (h : COK w 69 B E p A c bm s) (x1 x2 x3 x4 x5 x6 x7 : Int) (h1 : inReg x1) (h2 : inReg x2) (h3 : inReg x3) (h4 : inReg x4) (h6 : 0 ≤ x6 ∧ x6 ≤ 3) :
    Calls Try.prog 40 #[.pointer (some ⟨p, 0, none⟩), .agg #[.int .i64 1, .int .i64 x1, .int .i64 x2, .int .i64 x3, .int .i64 x4, .int .i64 x5, .int .i64 x6, .int .i64 x7]] w fun e w' => e = .returned (.tuple #[.int .i64 (wrap64 (getC s x2 + getC s x3)), .bool true]) ∧ Below w.heap.size w w' := by
  have hu := Try.underlying61
  have hB0 := below_alloc (Below.refl w.heap.size w) (.cells #[.int .i64 1, .int .i64 x1, .int .i64 x2, .int .i64 x3, .int .i64 x4, .int .i64 x5, .int .i64 x6, .int .i64 x7] 61)
  have hblk := blk_new w (.cells #[.int .i64 1, .int .i64 x1, .int .i64 x2, .int .i64 x3, .int .i64 x4, .int .i64 x5, .int .i64 x6, .int .i64 x7] 61)
  have hO := h.below hB0
  obtain ⟨W, hW⟩ : ∃ W, w.alloc (.cells #[.int .i64 1, .int .i64 x1, .int .i64 x2, .int .i64 x3, .int .i64 x4, .int .i64 x5, .int .i64 x6, .int .i64 x7] 61) = W := ⟨_, rfl⟩
  obtain ⟨g, hg⟩ : ∃ g, w.heap.size = g := ⟨_, rfl⟩
  rw [hW] at hB0 hblk hO
  rw [hg] at hblk
  have q0 : W.cell? ⟨g, 0, none⟩ = some (.int .i64 1) := blk_cell hblk 0
  have q1 : W.cell? ⟨g, 1, none⟩ = some (.int .i64 x1) := blk_cell hblk 1
  have q2 : W.cell? ⟨g, 2, none⟩ = some (.int .i64 x2) := blk_cell hblk 2
  have q3 : W.cell? ⟨g, 3, none⟩ = some (.int .i64 x3) := blk_cell hblk 3
  have q4 : W.cell? ⟨g, 4, none⟩ = some (.int .i64 x4) := blk_cell hblk 4
  have q5 : W.cell? ⟨g, 5, none⟩ = some (.int .i64 x5) := blk_cell hblk 5
  have q6 : W.cell? ⟨g, 6, none⟩ = some (.int .i64 x6) := blk_cell hblk 6
  have q7 : W.cell? ⟨g, 7, none⟩ = some (.int .i64 x7) := blk_cell hblk 7
  have HO := Aside0.mk hO
  have HB0 := Aside0.mk hB0
  have HBK := Aside0.mk hblk
  have HW := Aside0.mk hW
  have HG := Aside0.mk hg
  have H0 := Aside0.mk h
  have H1 := Aside0.mk h1
  have H2 := Aside0.mk h2
  have H3 := Aside0.mk h3
  have H4 := Aside0.mk h4
  clear h hO hB0 hblk hW hg h1 h2 h3 h4
  have hs : IntKind.i64.wrap (16 * x6) = 16 * x6 := by rw [IntKind.wrap_i64]; omega
  have hn : 0 ≤ 16 * x6 := by omega
  have hn1 : ¬ 16 * x6 < 0 := by omega
  go_enter Try.func40, Try.ntmps40
  go_wp2_with fail
  rw [HW.out, HG.out]
  go_big_quiet ((go_at_call 58; first | with_reducible exact Calls.quiet_of_same (get_q HO.out _ H2.out _) | with_reducible exact Calls.quiet_of_same (get_q HO.out _ H3.out _) | with_reducible exact Calls.quiet_of_same (get_q HO.out _ H1.out _)))
  obtain ⟨a, ha⟩ : ∃ a, a = getC s x2 := ⟨_, rfl⟩
  obtain ⟨b, hb⟩ : ∃ b, b = getC s x3 := ⟨_, rfl⟩
  have HA := Aside0.mk ha
  have HB := Aside0.mk hb
  rw [← ha, ← hb]
  clear ha hb
  have e63 := and63 b
  have b0 : 0 ≤ b % 64 := by omega
  have b1 : b % 64 < 64 := by omega
  go_wp2_with fail
  go_ret2
  exact ⟨by rw [HA.out, HB.out]; rfl, below_dN0 HB0.out nq⟩
set_option maxRecDepth 100000 in
set_option maxHeartbeats 2000000 in
theorem reckon_2 {w : World} {B E p : Nat} {A : Option Addr} {c bm : Nat} {s : CS} (h : COK w 69 B E p A c bm s) (x1 x2 x3 x4 x5 x6 x7 : Int) (h1 : inReg x1) (h2 : inReg x2) (h3 : inReg x3) (h4 : inReg x4) (h6 : 0 ≤ x6 ∧ x6 ≤ 3) :
    Calls Try.prog 40 #[.pointer (some ⟨p, 0, none⟩), .agg #[.int .i64 2, .int .i64 x1, .int .i64 x2, .int .i64 x3, .int .i64 x4, .int .i64 x5, .int .i64 x6, .int .i64 x7]] w fun e w' => e = .returned (.tuple #[.int .i64 (wrap64 (getC s x2 - getC s x3)), .bool true]) ∧ Below w.heap.size w w' := by
  have hu := Try.underlying61
  have hB0 := below_alloc (Below.refl w.heap.size w) (.cells #[.int .i64 2, .int .i64 x1, .int .i64 x2, .int .i64 x3, .int .i64 x4, .int .i64 x5, .int .i64 x6, .int .i64 x7] 61)
  have hblk := blk_new w (.cells #[.int .i64 2, .int .i64 x1, .int .i64 x2, .int .i64 x3, .int .i64 x4, .int .i64 x5, .int .i64 x6, .int .i64 x7] 61)
  have hO := h.below hB0
  obtain ⟨W, hW⟩ : ∃ W, w.alloc (.cells #[.int .i64 2, .int .i64 x1, .int .i64 x2, .int .i64 x3, .int .i64 x4, .int .i64 x5, .int .i64 x6, .int .i64 x7] 61) = W := ⟨_, rfl⟩
  obtain ⟨g, hg⟩ : ∃ g, w.heap.size = g := ⟨_, rfl⟩
  rw [hW] at hB0 hblk hO
  rw [hg] at hblk
  have q0 : W.cell? ⟨g, 0, none⟩ = some (.int .i64 2) := blk_cell hblk 0
  have q1 : W.cell? ⟨g, 1, none⟩ = some (.int .i64 x1) := blk_cell hblk 1
  have q2 : W.cell? ⟨g, 2, none⟩ = some (.int .i64 x2) := blk_cell hblk 2
  have q3 : W.cell? ⟨g, 3, none⟩ = some (.int .i64 x3) := blk_cell hblk 3
  have q4 : W.cell? ⟨g, 4, none⟩ = some (.int .i64 x4) := blk_cell hblk 4
  have q5 : W.cell? ⟨g, 5, none⟩ = some (.int .i64 x5) := blk_cell hblk 5
  have q6 : W.cell? ⟨g, 6, none⟩ = some (.int .i64 x6) := blk_cell hblk 6
  have q7 : W.cell? ⟨g, 7, none⟩ = some (.int .i64 x7) := blk_cell hblk 7
  have HO := Aside0.mk hO
  have HB0 := Aside0.mk hB0
  have HBK := Aside0.mk hblk
  have HW := Aside0.mk hW
  have HG := Aside0.mk hg
  have H0 := Aside0.mk h
  have H1 := Aside0.mk h1
  have H2 := Aside0.mk h2
  have H3 := Aside0.mk h3
  have H4 := Aside0.mk h4
  clear h hO hB0 hblk hW hg h1 h2 h3 h4
  have hs : IntKind.i64.wrap (16 * x6) = 16 * x6 := by rw [IntKind.wrap_i64]; omega
  have hn : 0 ≤ 16 * x6 := by omega
  have hn1 : ¬ 16 * x6 < 0 := by omega
  go_enter Try.func40, Try.ntmps40
  go_wp2_with fail
  rw [HW.out, HG.out]
  go_big_quiet ((go_at_call 58; first | with_reducible exact Calls.quiet_of_same (get_q HO.out _ H2.out _) | with_reducible exact Calls.quiet_of_same (get_q HO.out _ H3.out _) | with_reducible exact Calls.quiet_of_same (get_q HO.out _ H1.out _)))
  obtain ⟨a, ha⟩ : ∃ a, a = getC s x2 := ⟨_, rfl⟩
  obtain ⟨b, hb⟩ : ∃ b, b = getC s x3 := ⟨_, rfl⟩
  have HA := Aside0.mk ha
  have HB := Aside0.mk hb
  rw [← ha, ← hb]
  clear ha hb
  have e63 := and63 b
  have b0 : 0 ≤ b % 64 := by omega
  have b1 : b % 64 < 64 := by omega
  go_wp2_with fail
  go_ret2
  exact ⟨by rw [HA.out, HB.out]; rfl, below_dN0 HB0.out nq⟩
set_option maxRecDepth 100000 in
set_option maxHeartbeats 2000000 in
theorem reckon_7 {w : World} {B E p : Nat} {A : Option Addr} {c bm : Nat} {s : CS} (h : COK w 69 B E p A c bm s) (x1 x2 x3 x4 x5 x6 x7 : Int) (h1 : inReg x1) (h2 : inReg x2) (h3 : inReg x3) (h4 : inReg x4) (h6 : 0 ≤ x6 ∧ x6 ≤ 3) :
    Calls Try.prog 40 #[.pointer (some ⟨p, 0, none⟩), .agg #[.int .i64 7, .int .i64 x1, .int .i64 x2, .int .i64 x3, .int .i64 x4, .int .i64 x5, .int .i64 x6, .int .i64 x7]] w fun e w' => e = .returned (.tuple #[.int .i64 (bits .and .i64 (getC s x2) (getC s x3)), .bool true]) ∧ Below w.heap.size w w' := by
  have hu := Try.underlying61
  have hB0 := below_alloc (Below.refl w.heap.size w) (.cells #[.int .i64 7, .int .i64 x1, .int .i64 x2, .int .i64 x3, .int .i64 x4, .int .i64 x5, .int .i64 x6, .int .i64 x7] 61)
  have hblk := blk_new w (.cells #[.int .i64 7, .int .i64 x1, .int .i64 x2, .int .i64 x3, .int .i64 x4, .int .i64 x5, .int .i64 x6, .int .i64 x7] 61)
  have hO := h.below hB0
  obtain ⟨W, hW⟩ : ∃ W, w.alloc (.cells #[.int .i64 7, .int .i64 x1, .int .i64 x2, .int .i64 x3, .int .i64 x4, .int .i64 x5, .int .i64 x6, .int .i64 x7] 61) = W := ⟨_, rfl⟩
  obtain ⟨g, hg⟩ : ∃ g, w.heap.size = g := ⟨_, rfl⟩
  rw [hW] at hB0 hblk hO
  rw [hg] at hblk
  have q0 : W.cell? ⟨g, 0, none⟩ = some (.int .i64 7) := blk_cell hblk 0
  have q1 : W.cell? ⟨g, 1, none⟩ = some (.int .i64 x1) := blk_cell hblk 1
  have q2 : W.cell? ⟨g, 2, none⟩ = some (.int .i64 x2) := blk_cell hblk 2
  have q3 : W.cell? ⟨g, 3, none⟩ = some (.int .i64 x3) := blk_cell hblk 3
  have q4 : W.cell? ⟨g, 4, none⟩ = some (.int .i64 x4) := blk_cell hblk 4
  have q5 : W.cell? ⟨g, 5, none⟩ = some (.int .i64 x5) := blk_cell hblk 5
  have q6 : W.cell? ⟨g, 6, none⟩ = some (.int .i64 x6) := blk_cell hblk 6
  have q7 : W.cell? ⟨g, 7, none⟩ = some (.int .i64 x7) := blk_cell hblk 7
  have HO := Aside0.mk hO
  have HB0 := Aside0.mk hB0
  have HBK := Aside0.mk hblk
  have HW := Aside0.mk hW
  have HG := Aside0.mk hg
  have H0 := Aside0.mk h
  have H1 := Aside0.mk h1
  have H2 := Aside0.mk h2
  have H3 := Aside0.mk h3
  have H4 := Aside0.mk h4
  clear h hO hB0 hblk hW hg h1 h2 h3 h4
  have hs : IntKind.i64.wrap (16 * x6) = 16 * x6 := by rw [IntKind.wrap_i64]; omega
  have hn : 0 ≤ 16 * x6 := by omega
  have hn1 : ¬ 16 * x6 < 0 := by omega
  go_enter Try.func40, Try.ntmps40
  go_wp2_with fail
  rw [HW.out, HG.out]
  go_big_quiet ((go_at_call 58; first | with_reducible exact Calls.quiet_of_same (get_q HO.out _ H2.out _) | with_reducible exact Calls.quiet_of_same (get_q HO.out _ H3.out _) | with_reducible exact Calls.quiet_of_same (get_q HO.out _ H1.out _)))
  obtain ⟨a, ha⟩ : ∃ a, a = getC s x2 := ⟨_, rfl⟩
  obtain ⟨b, hb⟩ : ∃ b, b = getC s x3 := ⟨_, rfl⟩
  have HA := Aside0.mk ha
  have HB := Aside0.mk hb
  rw [← ha, ← hb]
  clear ha hb
  have e63 := and63 b
  have b0 : 0 ≤ b % 64 := by omega
  have b1 : b % 64 < 64 := by omega
  go_wp2_with fail
  go_ret2
  exact ⟨by rw [HA.out, HB.out]; rfl, below_dN0 HB0.out nq⟩
set_option maxRecDepth 100000 in
set_option maxHeartbeats 2000000 in
theorem reckon_8 {w : World} {B E p : Nat} {A : Option Addr} {c bm : Nat} {s : CS} (h : COK w 69 B E p A c bm s) (x1 x2 x3 x4 x5 x6 x7 : Int) (h1 : inReg x1) (h2 : inReg x2) (h3 : inReg x3) (h4 : inReg x4) (h6 : 0 ≤ x6 ∧ x6 ≤ 3) :
    Calls Try.prog 40 #[.pointer (some ⟨p, 0, none⟩), .agg #[.int .i64 8, .int .i64 x1, .int .i64 x2, .int .i64 x3, .int .i64 x4, .int .i64 x5, .int .i64 x6, .int .i64 x7]] w fun e w' => e = .returned (.tuple #[.int .i64 (bits .or .i64 (getC s x2) (getC s x3)), .bool true]) ∧ Below w.heap.size w w' := by
  have hu := Try.underlying61
  have hB0 := below_alloc (Below.refl w.heap.size w) (.cells #[.int .i64 8, .int .i64 x1, .int .i64 x2, .int .i64 x3, .int .i64 x4, .int .i64 x5, .int .i64 x6, .int .i64 x7] 61)
  have hblk := blk_new w (.cells #[.int .i64 8, .int .i64 x1, .int .i64 x2, .int .i64 x3, .int .i64 x4, .int .i64 x5, .int .i64 x6, .int .i64 x7] 61)
  have hO := h.below hB0
  obtain ⟨W, hW⟩ : ∃ W, w.alloc (.cells #[.int .i64 8, .int .i64 x1, .int .i64 x2, .int .i64 x3, .int .i64 x4, .int .i64 x5, .int .i64 x6, .int .i64 x7] 61) = W := ⟨_, rfl⟩
  obtain ⟨g, hg⟩ : ∃ g, w.heap.size = g := ⟨_, rfl⟩
  rw [hW] at hB0 hblk hO
  rw [hg] at hblk
  have q0 : W.cell? ⟨g, 0, none⟩ = some (.int .i64 8) := blk_cell hblk 0
  have q1 : W.cell? ⟨g, 1, none⟩ = some (.int .i64 x1) := blk_cell hblk 1
  have q2 : W.cell? ⟨g, 2, none⟩ = some (.int .i64 x2) := blk_cell hblk 2
  have q3 : W.cell? ⟨g, 3, none⟩ = some (.int .i64 x3) := blk_cell hblk 3
  have q4 : W.cell? ⟨g, 4, none⟩ = some (.int .i64 x4) := blk_cell hblk 4
  have q5 : W.cell? ⟨g, 5, none⟩ = some (.int .i64 x5) := blk_cell hblk 5
  have q6 : W.cell? ⟨g, 6, none⟩ = some (.int .i64 x6) := blk_cell hblk 6
  have q7 : W.cell? ⟨g, 7, none⟩ = some (.int .i64 x7) := blk_cell hblk 7
  have HO := Aside0.mk hO
  have HB0 := Aside0.mk hB0
  have HBK := Aside0.mk hblk
  have HW := Aside0.mk hW
  have HG := Aside0.mk hg
  have H0 := Aside0.mk h
  have H1 := Aside0.mk h1
  have H2 := Aside0.mk h2
  have H3 := Aside0.mk h3
  have H4 := Aside0.mk h4
  clear h hO hB0 hblk hW hg h1 h2 h3 h4
  have hs : IntKind.i64.wrap (16 * x6) = 16 * x6 := by rw [IntKind.wrap_i64]; omega
  have hn : 0 ≤ 16 * x6 := by omega
  have hn1 : ¬ 16 * x6 < 0 := by omega
  go_enter Try.func40, Try.ntmps40
  go_wp2_with fail
  rw [HW.out, HG.out]
  go_big_quiet ((go_at_call 58; first | with_reducible exact Calls.quiet_of_same (get_q HO.out _ H2.out _) | with_reducible exact Calls.quiet_of_same (get_q HO.out _ H3.out _) | with_reducible exact Calls.quiet_of_same (get_q HO.out _ H1.out _)))
  obtain ⟨a, ha⟩ : ∃ a, a = getC s x2 := ⟨_, rfl⟩
  obtain ⟨b, hb⟩ : ∃ b, b = getC s x3 := ⟨_, rfl⟩
  have HA := Aside0.mk ha
  have HB := Aside0.mk hb
  rw [← ha, ← hb]
  clear ha hb
  have e63 := and63 b
  have b0 : 0 ≤ b % 64 := by omega
  have b1 : b % 64 < 64 := by omega
  go_wp2_with fail
  go_ret2
  exact ⟨by rw [HA.out, HB.out]; rfl, below_dN0 HB0.out nq⟩
set_option maxRecDepth 100000 in
set_option maxHeartbeats 2000000 in
theorem reckon_9 {w : World} {B E p : Nat} {A : Option Addr} {c bm : Nat} {s : CS} (h : COK w 69 B E p A c bm s) (x1 x2 x3 x4 x5 x6 x7 : Int) (h1 : inReg x1) (h2 : inReg x2) (h3 : inReg x3) (h4 : inReg x4) (h6 : 0 ≤ x6 ∧ x6 ≤ 3) :
    Calls Try.prog 40 #[.pointer (some ⟨p, 0, none⟩), .agg #[.int .i64 9, .int .i64 x1, .int .i64 x2, .int .i64 x3, .int .i64 x4, .int .i64 x5, .int .i64 x6, .int .i64 x7]] w fun e w' => e = .returned (.tuple #[.int .i64 (bits .xor .i64 (getC s x2) (getC s x3)), .bool true]) ∧ Below w.heap.size w w' := by
  have hu := Try.underlying61
  have hB0 := below_alloc (Below.refl w.heap.size w) (.cells #[.int .i64 9, .int .i64 x1, .int .i64 x2, .int .i64 x3, .int .i64 x4, .int .i64 x5, .int .i64 x6, .int .i64 x7] 61)
  have hblk := blk_new w (.cells #[.int .i64 9, .int .i64 x1, .int .i64 x2, .int .i64 x3, .int .i64 x4, .int .i64 x5, .int .i64 x6, .int .i64 x7] 61)
  have hO := h.below hB0
  obtain ⟨W, hW⟩ : ∃ W, w.alloc (.cells #[.int .i64 9, .int .i64 x1, .int .i64 x2, .int .i64 x3, .int .i64 x4, .int .i64 x5, .int .i64 x6, .int .i64 x7] 61) = W := ⟨_, rfl⟩
  obtain ⟨g, hg⟩ : ∃ g, w.heap.size = g := ⟨_, rfl⟩
  rw [hW] at hB0 hblk hO
  rw [hg] at hblk
  have q0 : W.cell? ⟨g, 0, none⟩ = some (.int .i64 9) := blk_cell hblk 0
  have q1 : W.cell? ⟨g, 1, none⟩ = some (.int .i64 x1) := blk_cell hblk 1
  have q2 : W.cell? ⟨g, 2, none⟩ = some (.int .i64 x2) := blk_cell hblk 2
  have q3 : W.cell? ⟨g, 3, none⟩ = some (.int .i64 x3) := blk_cell hblk 3
  have q4 : W.cell? ⟨g, 4, none⟩ = some (.int .i64 x4) := blk_cell hblk 4
  have q5 : W.cell? ⟨g, 5, none⟩ = some (.int .i64 x5) := blk_cell hblk 5
  have q6 : W.cell? ⟨g, 6, none⟩ = some (.int .i64 x6) := blk_cell hblk 6
  have q7 : W.cell? ⟨g, 7, none⟩ = some (.int .i64 x7) := blk_cell hblk 7
  have HO := Aside0.mk hO
  have HB0 := Aside0.mk hB0
  have HBK := Aside0.mk hblk
  have HW := Aside0.mk hW
  have HG := Aside0.mk hg
  have H0 := Aside0.mk h
  have H1 := Aside0.mk h1
  have H2 := Aside0.mk h2
  have H3 := Aside0.mk h3
  have H4 := Aside0.mk h4
  clear h hO hB0 hblk hW hg h1 h2 h3 h4
  have hs : IntKind.i64.wrap (16 * x6) = 16 * x6 := by rw [IntKind.wrap_i64]; omega
  have hn : 0 ≤ 16 * x6 := by omega
  have hn1 : ¬ 16 * x6 < 0 := by omega
  go_enter Try.func40, Try.ntmps40
  go_wp2_with fail
  rw [HW.out, HG.out]
  go_big_quiet ((go_at_call 58; first | with_reducible exact Calls.quiet_of_same (get_q HO.out _ H2.out _) | with_reducible exact Calls.quiet_of_same (get_q HO.out _ H3.out _) | with_reducible exact Calls.quiet_of_same (get_q HO.out _ H1.out _)))
  obtain ⟨a, ha⟩ : ∃ a, a = getC s x2 := ⟨_, rfl⟩
  obtain ⟨b, hb⟩ : ∃ b, b = getC s x3 := ⟨_, rfl⟩
  have HA := Aside0.mk ha
  have HB := Aside0.mk hb
  rw [← ha, ← hb]
  clear ha hb
  have e63 := and63 b
  have b0 : 0 ≤ b % 64 := by omega
  have b1 : b % 64 < 64 := by omega
  go_wp2_with fail
  go_ret2
  exact ⟨by rw [HA.out, HB.out]; rfl, below_dN0 HB0.out nq⟩
set_option maxRecDepth 100000 in
set_option maxHeartbeats 2000000 in
theorem reckon_10 {w : World} {B E p : Nat} {A : Option Addr} {c bm : Nat} {s : CS} (h : COK w 69 B E p A c bm s) (x1 x2 x3 x4 x5 x6 x7 : Int) (h1 : inReg x1) (h2 : inReg x2) (h3 : inReg x3) (h4 : inReg x4) (h6 : 0 ≤ x6 ∧ x6 ≤ 3) :
    Calls Try.prog 40 #[.pointer (some ⟨p, 0, none⟩), .agg #[.int .i64 10, .int .i64 x1, .int .i64 x2, .int .i64 x3, .int .i64 x4, .int .i64 x5, .int .i64 x6, .int .i64 x7]] w fun e w' => e = .returned (.tuple #[.int .i64 (bits .or .i64 (getC s x2) (bits .xor .i64 (-1) (getC s x3))), .bool true]) ∧ Below w.heap.size w w' := by
  have hu := Try.underlying61
  have hB0 := below_alloc (Below.refl w.heap.size w) (.cells #[.int .i64 10, .int .i64 x1, .int .i64 x2, .int .i64 x3, .int .i64 x4, .int .i64 x5, .int .i64 x6, .int .i64 x7] 61)
  have hblk := blk_new w (.cells #[.int .i64 10, .int .i64 x1, .int .i64 x2, .int .i64 x3, .int .i64 x4, .int .i64 x5, .int .i64 x6, .int .i64 x7] 61)
  have hO := h.below hB0
  obtain ⟨W, hW⟩ : ∃ W, w.alloc (.cells #[.int .i64 10, .int .i64 x1, .int .i64 x2, .int .i64 x3, .int .i64 x4, .int .i64 x5, .int .i64 x6, .int .i64 x7] 61) = W := ⟨_, rfl⟩
  obtain ⟨g, hg⟩ : ∃ g, w.heap.size = g := ⟨_, rfl⟩
  rw [hW] at hB0 hblk hO
  rw [hg] at hblk
  have q0 : W.cell? ⟨g, 0, none⟩ = some (.int .i64 10) := blk_cell hblk 0
  have q1 : W.cell? ⟨g, 1, none⟩ = some (.int .i64 x1) := blk_cell hblk 1
  have q2 : W.cell? ⟨g, 2, none⟩ = some (.int .i64 x2) := blk_cell hblk 2
  have q3 : W.cell? ⟨g, 3, none⟩ = some (.int .i64 x3) := blk_cell hblk 3
  have q4 : W.cell? ⟨g, 4, none⟩ = some (.int .i64 x4) := blk_cell hblk 4
  have q5 : W.cell? ⟨g, 5, none⟩ = some (.int .i64 x5) := blk_cell hblk 5
  have q6 : W.cell? ⟨g, 6, none⟩ = some (.int .i64 x6) := blk_cell hblk 6
  have q7 : W.cell? ⟨g, 7, none⟩ = some (.int .i64 x7) := blk_cell hblk 7
  have HO := Aside0.mk hO
  have HB0 := Aside0.mk hB0
  have HBK := Aside0.mk hblk
  have HW := Aside0.mk hW
  have HG := Aside0.mk hg
  have H0 := Aside0.mk h
  have H1 := Aside0.mk h1
  have H2 := Aside0.mk h2
  have H3 := Aside0.mk h3
  have H4 := Aside0.mk h4
  clear h hO hB0 hblk hW hg h1 h2 h3 h4
  have hs : IntKind.i64.wrap (16 * x6) = 16 * x6 := by rw [IntKind.wrap_i64]; omega
  have hn : 0 ≤ 16 * x6 := by omega
  have hn1 : ¬ 16 * x6 < 0 := by omega
  go_enter Try.func40, Try.ntmps40
  go_wp2_with fail
  rw [HW.out, HG.out]
  go_big_quiet ((go_at_call 58; first | with_reducible exact Calls.quiet_of_same (get_q HO.out _ H2.out _) | with_reducible exact Calls.quiet_of_same (get_q HO.out _ H3.out _) | with_reducible exact Calls.quiet_of_same (get_q HO.out _ H1.out _)))
  obtain ⟨a, ha⟩ : ∃ a, a = getC s x2 := ⟨_, rfl⟩
  obtain ⟨b, hb⟩ : ∃ b, b = getC s x3 := ⟨_, rfl⟩
  have HA := Aside0.mk ha
  have HB := Aside0.mk hb
  rw [← ha, ← hb]
  clear ha hb
  have e63 := and63 b
  have b0 : 0 ≤ b % 64 := by omega
  have b1 : b % 64 < 64 := by omega
  go_wp2_with fail
  go_ret2
  exact ⟨by rw [HA.out, HB.out]; rfl, below_dN0 HB0.out nq⟩
set_option maxRecDepth 100000 in
set_option maxHeartbeats 2000000 in
theorem reckon_11 {w : World} {B E p : Nat} {A : Option Addr} {c bm : Nat} {s : CS} (h : COK w 69 B E p A c bm s) (x1 x2 x3 x4 x5 x6 x7 : Int) (h1 : inReg x1) (h2 : inReg x2) (h3 : inReg x3) (h4 : inReg x4) (h6 : 0 ≤ x6 ∧ x6 ≤ 3) :
    Calls Try.prog 40 #[.pointer (some ⟨p, 0, none⟩), .agg #[.int .i64 11, .int .i64 x1, .int .i64 x2, .int .i64 x3, .int .i64 x4, .int .i64 x5, .int .i64 x6, .int .i64 x7]] w fun e w' => e = .returned (.tuple #[.int .i64 (wrap64 (getC s x4 + wrap64 (getC s x2 * getC s x3))), .bool true]) ∧ Below w.heap.size w w' := by
  have hu := Try.underlying61
  have hB0 := below_alloc (Below.refl w.heap.size w) (.cells #[.int .i64 11, .int .i64 x1, .int .i64 x2, .int .i64 x3, .int .i64 x4, .int .i64 x5, .int .i64 x6, .int .i64 x7] 61)
  have hblk := blk_new w (.cells #[.int .i64 11, .int .i64 x1, .int .i64 x2, .int .i64 x3, .int .i64 x4, .int .i64 x5, .int .i64 x6, .int .i64 x7] 61)
  have hO := h.below hB0
  obtain ⟨W, hW⟩ : ∃ W, w.alloc (.cells #[.int .i64 11, .int .i64 x1, .int .i64 x2, .int .i64 x3, .int .i64 x4, .int .i64 x5, .int .i64 x6, .int .i64 x7] 61) = W := ⟨_, rfl⟩
  obtain ⟨g, hg⟩ : ∃ g, w.heap.size = g := ⟨_, rfl⟩
  rw [hW] at hB0 hblk hO
  rw [hg] at hblk
  have q0 : W.cell? ⟨g, 0, none⟩ = some (.int .i64 11) := blk_cell hblk 0
  have q1 : W.cell? ⟨g, 1, none⟩ = some (.int .i64 x1) := blk_cell hblk 1
  have q2 : W.cell? ⟨g, 2, none⟩ = some (.int .i64 x2) := blk_cell hblk 2
  have q3 : W.cell? ⟨g, 3, none⟩ = some (.int .i64 x3) := blk_cell hblk 3
  have q4 : W.cell? ⟨g, 4, none⟩ = some (.int .i64 x4) := blk_cell hblk 4
  have q5 : W.cell? ⟨g, 5, none⟩ = some (.int .i64 x5) := blk_cell hblk 5
  have q6 : W.cell? ⟨g, 6, none⟩ = some (.int .i64 x6) := blk_cell hblk 6
  have q7 : W.cell? ⟨g, 7, none⟩ = some (.int .i64 x7) := blk_cell hblk 7
  have HO := Aside0.mk hO
  have HB0 := Aside0.mk hB0
  have HBK := Aside0.mk hblk
  have HW := Aside0.mk hW
  have HG := Aside0.mk hg
  have H0 := Aside0.mk h
  have H1 := Aside0.mk h1
  have H2 := Aside0.mk h2
  have H3 := Aside0.mk h3
  have H4 := Aside0.mk h4
  clear h hO hB0 hblk hW hg h1 h2 h3 h4
  have hs : IntKind.i64.wrap (16 * x6) = 16 * x6 := by rw [IntKind.wrap_i64]; omega
  have hn : 0 ≤ 16 * x6 := by omega
  have hn1 : ¬ 16 * x6 < 0 := by omega
  go_enter Try.func40, Try.ntmps40
  go_wp2_with fail
  rw [HW.out, HG.out]
  go_big_quiet ((go_at_call 58; first | with_reducible exact Calls.quiet_of_same (get_q HO.out _ H2.out _) | with_reducible exact Calls.quiet_of_same (get_q HO.out _ H3.out _) | with_reducible exact Calls.quiet_of_same (get_q HO.out _ H1.out _)))
  obtain ⟨a, ha⟩ : ∃ a, a = getC s x2 := ⟨_, rfl⟩
  obtain ⟨b, hb⟩ : ∃ b, b = getC s x3 := ⟨_, rfl⟩
  have HA := Aside0.mk ha
  have HB := Aside0.mk hb
  rw [← ha, ← hb]
  clear ha hb
  have e63 := and63 b
  have b0 : 0 ≤ b % 64 := by omega
  have b1 : b % 64 < 64 := by omega
  go_wp2_with (refine (get_run (HO.out.drewN _) _ H4.out.1 H4.out.2).mono ?_; rintro e w2 ⟨rfl, rfl⟩)
  go_ret2
  exact ⟨by rw [HA.out, HB.out]; rfl, below_dN0 HB0.out nq⟩
set_option maxRecDepth 100000 in
set_option maxHeartbeats 2000000 in
theorem reckon_12 {w : World} {B E p : Nat} {A : Option Addr} {c bm : Nat} {s : CS} (h : COK w 69 B E p A c bm s) (x1 x2 x3 x4 x5 x6 x7 : Int) (h1 : inReg x1) (h2 : inReg x2) (h3 : inReg x3) (h4 : inReg x4) (h6 : 0 ≤ x6 ∧ x6 ≤ 3) :
    Calls Try.prog 40 #[.pointer (some ⟨p, 0, none⟩), .agg #[.int .i64 12, .int .i64 x1, .int .i64 x2, .int .i64 x3, .int .i64 x4, .int .i64 x5, .int .i64 x6, .int .i64 x7]] w fun e w' => e = .returned (.tuple #[.int .i64 (wrap64 (getC s x4 - wrap64 (getC s x2 * getC s x3))), .bool true]) ∧ Below w.heap.size w w' := by
  have hu := Try.underlying61
  have hB0 := below_alloc (Below.refl w.heap.size w) (.cells #[.int .i64 12, .int .i64 x1, .int .i64 x2, .int .i64 x3, .int .i64 x4, .int .i64 x5, .int .i64 x6, .int .i64 x7] 61)
  have hblk := blk_new w (.cells #[.int .i64 12, .int .i64 x1, .int .i64 x2, .int .i64 x3, .int .i64 x4, .int .i64 x5, .int .i64 x6, .int .i64 x7] 61)
  have hO := h.below hB0
  obtain ⟨W, hW⟩ : ∃ W, w.alloc (.cells #[.int .i64 12, .int .i64 x1, .int .i64 x2, .int .i64 x3, .int .i64 x4, .int .i64 x5, .int .i64 x6, .int .i64 x7] 61) = W := ⟨_, rfl⟩
  obtain ⟨g, hg⟩ : ∃ g, w.heap.size = g := ⟨_, rfl⟩
  rw [hW] at hB0 hblk hO
  rw [hg] at hblk
  have q0 : W.cell? ⟨g, 0, none⟩ = some (.int .i64 12) := blk_cell hblk 0
  have q1 : W.cell? ⟨g, 1, none⟩ = some (.int .i64 x1) := blk_cell hblk 1
  have q2 : W.cell? ⟨g, 2, none⟩ = some (.int .i64 x2) := blk_cell hblk 2
  have q3 : W.cell? ⟨g, 3, none⟩ = some (.int .i64 x3) := blk_cell hblk 3
  have q4 : W.cell? ⟨g, 4, none⟩ = some (.int .i64 x4) := blk_cell hblk 4
  have q5 : W.cell? ⟨g, 5, none⟩ = some (.int .i64 x5) := blk_cell hblk 5
  have q6 : W.cell? ⟨g, 6, none⟩ = some (.int .i64 x6) := blk_cell hblk 6
  have q7 : W.cell? ⟨g, 7, none⟩ = some (.int .i64 x7) := blk_cell hblk 7
  have HO := Aside0.mk hO
  have HB0 := Aside0.mk hB0
  have HBK := Aside0.mk hblk
  have HW := Aside0.mk hW
  have HG := Aside0.mk hg
  have H0 := Aside0.mk h
  have H1 := Aside0.mk h1
  have H2 := Aside0.mk h2
  have H3 := Aside0.mk h3
  have H4 := Aside0.mk h4
  clear h hO hB0 hblk hW hg h1 h2 h3 h4
  have hs : IntKind.i64.wrap (16 * x6) = 16 * x6 := by rw [IntKind.wrap_i64]; omega
  have hn : 0 ≤ 16 * x6 := by omega
  have hn1 : ¬ 16 * x6 < 0 := by omega
  go_enter Try.func40, Try.ntmps40
  go_wp2_with fail
  rw [HW.out, HG.out]
  go_big_quiet ((go_at_call 58; first | with_reducible exact Calls.quiet_of_same (get_q HO.out _ H2.out _) | with_reducible exact Calls.quiet_of_same (get_q HO.out _ H3.out _) | with_reducible exact Calls.quiet_of_same (get_q HO.out _ H1.out _)))
  obtain ⟨a, ha⟩ : ∃ a, a = getC s x2 := ⟨_, rfl⟩
  obtain ⟨b, hb⟩ : ∃ b, b = getC s x3 := ⟨_, rfl⟩
  have HA := Aside0.mk ha
  have HB := Aside0.mk hb
  rw [← ha, ← hb]
  clear ha hb
  have e63 := and63 b
  have b0 : 0 ≤ b % 64 := by omega
  have b1 : b % 64 < 64 := by omega
  go_wp2_with (refine (get_run (HO.out.drewN _) _ H4.out.1 H4.out.2).mono ?_; rintro e w2 ⟨rfl, rfl⟩)
  go_ret2
  exact ⟨by rw [HA.out, HB.out]; rfl, below_dN0 HB0.out nq⟩
set_option maxRecDepth 100000 in
set_option maxHeartbeats 2000000 in
theorem reckon_13 {w : World} {B E p : Nat} {A : Option Addr} {c bm : Nat} {s : CS} (h : COK w 69 B E p A c bm s) (x1 x2 x3 x4 x5 x6 x7 : Int) (h1 : inReg x1) (h2 : inReg x2) (h3 : inReg x3) (h4 : inReg x4) (h6 : 0 ≤ x6 ∧ x6 ≤ 3) :
    Calls Try.prog 40 #[.pointer (some ⟨p, 0, none⟩), .agg #[.int .i64 13, .int .i64 x1, .int .i64 x2, .int .i64 x3, .int .i64 x4, .int .i64 x5, .int .i64 x6, .int .i64 x7]] w fun e w' => e = .returned (.tuple #[.int .i64 (quoF (getC s x2) (getC s x3)), .bool true]) ∧ Below w.heap.size w w' := by
  have hu := Try.underlying61
  have hB0 := below_alloc (Below.refl w.heap.size w) (.cells #[.int .i64 13, .int .i64 x1, .int .i64 x2, .int .i64 x3, .int .i64 x4, .int .i64 x5, .int .i64 x6, .int .i64 x7] 61)
  have hblk := blk_new w (.cells #[.int .i64 13, .int .i64 x1, .int .i64 x2, .int .i64 x3, .int .i64 x4, .int .i64 x5, .int .i64 x6, .int .i64 x7] 61)
  have hO := h.below hB0
  obtain ⟨W, hW⟩ : ∃ W, w.alloc (.cells #[.int .i64 13, .int .i64 x1, .int .i64 x2, .int .i64 x3, .int .i64 x4, .int .i64 x5, .int .i64 x6, .int .i64 x7] 61) = W := ⟨_, rfl⟩
  obtain ⟨g, hg⟩ : ∃ g, w.heap.size = g := ⟨_, rfl⟩
  rw [hW] at hB0 hblk hO
  rw [hg] at hblk
  have q0 : W.cell? ⟨g, 0, none⟩ = some (.int .i64 13) := blk_cell hblk 0
  have q1 : W.cell? ⟨g, 1, none⟩ = some (.int .i64 x1) := blk_cell hblk 1
  have q2 : W.cell? ⟨g, 2, none⟩ = some (.int .i64 x2) := blk_cell hblk 2
  have q3 : W.cell? ⟨g, 3, none⟩ = some (.int .i64 x3) := blk_cell hblk 3
  have q4 : W.cell? ⟨g, 4, none⟩ = some (.int .i64 x4) := blk_cell hblk 4
  have q5 : W.cell? ⟨g, 5, none⟩ = some (.int .i64 x5) := blk_cell hblk 5
  have q6 : W.cell? ⟨g, 6, none⟩ = some (.int .i64 x6) := blk_cell hblk 6
  have q7 : W.cell? ⟨g, 7, none⟩ = some (.int .i64 x7) := blk_cell hblk 7
  have HO := Aside0.mk hO
  have HB0 := Aside0.mk hB0
  have HBK := Aside0.mk hblk
  have HW := Aside0.mk hW
  have HG := Aside0.mk hg
  have H0 := Aside0.mk h
  have H1 := Aside0.mk h1
  have H2 := Aside0.mk h2
  have H3 := Aside0.mk h3
  have H4 := Aside0.mk h4
  clear h hO hB0 hblk hW hg h1 h2 h3 h4
  have hs : IntKind.i64.wrap (16 * x6) = 16 * x6 := by rw [IntKind.wrap_i64]; omega
  have hn : 0 ≤ 16 * x6 := by omega
  have hn1 : ¬ 16 * x6 < 0 := by omega
  go_enter Try.func40, Try.ntmps40
  go_wp2_with fail
  rw [HW.out, HG.out]
  go_big_quiet ((go_at_call 58; first | with_reducible exact Calls.quiet_of_same (get_q HO.out _ H2.out _) | with_reducible exact Calls.quiet_of_same (get_q HO.out _ H3.out _) | with_reducible exact Calls.quiet_of_same (get_q HO.out _ H1.out _)))
  obtain ⟨a, ha⟩ : ∃ a, a = getC s x2 := ⟨_, rfl⟩
  obtain ⟨b, hb⟩ : ∃ b, b = getC s x3 := ⟨_, rfl⟩
  have HA := Aside0.mk ha
  have HB := Aside0.mk hb
  rw [← ha, ← hb]
  clear ha hb
  have e63 := and63 b
  have b0 : 0 ≤ b % 64 := by omega
  have b1 : b % 64 < 64 := by omega
  go_wp2_with (refine (quo_run _ _ _).mono ?_; rintro e w2 ⟨rfl, ⟨m, rfl⟩⟩)
  go_ret2
  exact ⟨by rw [HA.out, HB.out]; rfl, below_dN0 HB0.out _⟩
set_option maxRecDepth 100000 in
set_option maxHeartbeats 2000000 in
theorem reckon_14 {w : World} {B E p : Nat} {A : Option Addr} {c bm : Nat} {s : CS} (h : COK w 69 B E p A c bm s) (x1 x2 x3 x4 x5 x6 x7 : Int) (h1 : inReg x1) (h2 : inReg x2) (h3 : inReg x3) (h4 : inReg x4) (h6 : 0 ≤ x6 ∧ x6 ≤ 3) :
    Calls Try.prog 40 #[.pointer (some ⟨p, 0, none⟩), .agg #[.int .i64 14, .int .i64 x1, .int .i64 x2, .int .i64 x3, .int .i64 x4, .int .i64 x5, .int .i64 x6, .int .i64 x7]] w fun e w' => e = .returned (.tuple #[.int .i64 (wrap64 (getC s x2 * 2 ^ (getC s x3 % 64).toNat)), .bool true]) ∧ Below w.heap.size w w' := by
  have hu := Try.underlying61
  have hB0 := below_alloc (Below.refl w.heap.size w) (.cells #[.int .i64 14, .int .i64 x1, .int .i64 x2, .int .i64 x3, .int .i64 x4, .int .i64 x5, .int .i64 x6, .int .i64 x7] 61)
  have hblk := blk_new w (.cells #[.int .i64 14, .int .i64 x1, .int .i64 x2, .int .i64 x3, .int .i64 x4, .int .i64 x5, .int .i64 x6, .int .i64 x7] 61)
  have hO := h.below hB0
  obtain ⟨W, hW⟩ : ∃ W, w.alloc (.cells #[.int .i64 14, .int .i64 x1, .int .i64 x2, .int .i64 x3, .int .i64 x4, .int .i64 x5, .int .i64 x6, .int .i64 x7] 61) = W := ⟨_, rfl⟩
  obtain ⟨g, hg⟩ : ∃ g, w.heap.size = g := ⟨_, rfl⟩
  rw [hW] at hB0 hblk hO
  rw [hg] at hblk
  have q0 : W.cell? ⟨g, 0, none⟩ = some (.int .i64 14) := blk_cell hblk 0
  have q1 : W.cell? ⟨g, 1, none⟩ = some (.int .i64 x1) := blk_cell hblk 1
  have q2 : W.cell? ⟨g, 2, none⟩ = some (.int .i64 x2) := blk_cell hblk 2
  have q3 : W.cell? ⟨g, 3, none⟩ = some (.int .i64 x3) := blk_cell hblk 3
  have q4 : W.cell? ⟨g, 4, none⟩ = some (.int .i64 x4) := blk_cell hblk 4
  have q5 : W.cell? ⟨g, 5, none⟩ = some (.int .i64 x5) := blk_cell hblk 5
  have q6 : W.cell? ⟨g, 6, none⟩ = some (.int .i64 x6) := blk_cell hblk 6
  have q7 : W.cell? ⟨g, 7, none⟩ = some (.int .i64 x7) := blk_cell hblk 7
  have HO := Aside0.mk hO
  have HB0 := Aside0.mk hB0
  have HBK := Aside0.mk hblk
  have HW := Aside0.mk hW
  have HG := Aside0.mk hg
  have H0 := Aside0.mk h
  have H1 := Aside0.mk h1
  have H2 := Aside0.mk h2
  have H3 := Aside0.mk h3
  have H4 := Aside0.mk h4
  clear h hO hB0 hblk hW hg h1 h2 h3 h4
  have hs : IntKind.i64.wrap (16 * x6) = 16 * x6 := by rw [IntKind.wrap_i64]; omega
  have hn : 0 ≤ 16 * x6 := by omega
  have hn1 : ¬ 16 * x6 < 0 := by omega
  go_enter Try.func40, Try.ntmps40
  go_wp2_with fail
  rw [HW.out, HG.out]
  go_big_quiet ((go_at_call 58; first | with_reducible exact Calls.quiet_of_same (get_q HO.out _ H2.out _) | with_reducible exact Calls.quiet_of_same (get_q HO.out _ H3.out _) | with_reducible exact Calls.quiet_of_same (get_q HO.out _ H1.out _)))
  obtain ⟨a, ha⟩ : ∃ a, a = getC s x2 := ⟨_, rfl⟩
  obtain ⟨b, hb⟩ : ∃ b, b = getC s x3 := ⟨_, rfl⟩
  have HA := Aside0.mk ha
  have HB := Aside0.mk hb
  rw [← ha, ← hb]
  clear ha hb
  have e63 := and63 b
  have b0 : 0 ≤ b % 64 := by omega
  have b1 : b % 64 < 64 := by omega
  go_wp2_with fail
  go_ret2
  exact ⟨by rw [HA.out, HB.out]; rfl, below_dN0 HB0.out nq⟩
set_option maxRecDepth 100000 in
set_option maxHeartbeats 2000000 in
theorem reckon_15 {w : World} {B E p : Nat} {A : Option Addr} {c bm : Nat} {s : CS} (h : COK w 69 B E p A c bm s) (x1 x2 x3 x4 x5 x6 x7 : Int) (h1 : inReg x1) (h2 : inReg x2) (h3 : inReg x3) (h4 : inReg x4) (h6 : 0 ≤ x6 ∧ x6 ≤ 3) :
    Calls Try.prog 40 #[.pointer (some ⟨p, 0, none⟩), .agg #[.int .i64 15, .int .i64 x1, .int .i64 x2, .int .i64 x3, .int .i64 x4, .int .i64 x5, .int .i64 x6, .int .i64 x7]] w fun e w' => e = .returned (.tuple #[.int .i64 (getC s x2 / 2 ^ (getC s x3 % 64).toNat), .bool true]) ∧ Below w.heap.size w w' := by
  have hu := Try.underlying61
  have hB0 := below_alloc (Below.refl w.heap.size w) (.cells #[.int .i64 15, .int .i64 x1, .int .i64 x2, .int .i64 x3, .int .i64 x4, .int .i64 x5, .int .i64 x6, .int .i64 x7] 61)
  have hblk := blk_new w (.cells #[.int .i64 15, .int .i64 x1, .int .i64 x2, .int .i64 x3, .int .i64 x4, .int .i64 x5, .int .i64 x6, .int .i64 x7] 61)
  have hO := h.below hB0
  obtain ⟨W, hW⟩ : ∃ W, w.alloc (.cells #[.int .i64 15, .int .i64 x1, .int .i64 x2, .int .i64 x3, .int .i64 x4, .int .i64 x5, .int .i64 x6, .int .i64 x7] 61) = W := ⟨_, rfl⟩
  obtain ⟨g, hg⟩ : ∃ g, w.heap.size = g := ⟨_, rfl⟩
  rw [hW] at hB0 hblk hO
  rw [hg] at hblk
  have q0 : W.cell? ⟨g, 0, none⟩ = some (.int .i64 15) := blk_cell hblk 0
  have q1 : W.cell? ⟨g, 1, none⟩ = some (.int .i64 x1) := blk_cell hblk 1
  have q2 : W.cell? ⟨g, 2, none⟩ = some (.int .i64 x2) := blk_cell hblk 2
  have q3 : W.cell? ⟨g, 3, none⟩ = some (.int .i64 x3) := blk_cell hblk 3
  have q4 : W.cell? ⟨g, 4, none⟩ = some (.int .i64 x4) := blk_cell hblk 4
  have q5 : W.cell? ⟨g, 5, none⟩ = some (.int .i64 x5) := blk_cell hblk 5
  have q6 : W.cell? ⟨g, 6, none⟩ = some (.int .i64 x6) := blk_cell hblk 6
  have q7 : W.cell? ⟨g, 7, none⟩ = some (.int .i64 x7) := blk_cell hblk 7
  have HO := Aside0.mk hO
  have HB0 := Aside0.mk hB0
  have HBK := Aside0.mk hblk
  have HW := Aside0.mk hW
  have HG := Aside0.mk hg
  have H0 := Aside0.mk h
  have H1 := Aside0.mk h1
  have H2 := Aside0.mk h2
  have H3 := Aside0.mk h3
  have H4 := Aside0.mk h4
  clear h hO hB0 hblk hW hg h1 h2 h3 h4
  have hs : IntKind.i64.wrap (16 * x6) = 16 * x6 := by rw [IntKind.wrap_i64]; omega
  have hn : 0 ≤ 16 * x6 := by omega
  have hn1 : ¬ 16 * x6 < 0 := by omega
  go_enter Try.func40, Try.ntmps40
  go_wp2_with fail
  rw [HW.out, HG.out]
  go_big_quiet ((go_at_call 58; first | with_reducible exact Calls.quiet_of_same (get_q HO.out _ H2.out _) | with_reducible exact Calls.quiet_of_same (get_q HO.out _ H3.out _) | with_reducible exact Calls.quiet_of_same (get_q HO.out _ H1.out _)))
  obtain ⟨a, ha⟩ : ∃ a, a = getC s x2 := ⟨_, rfl⟩
  obtain ⟨b, hb⟩ : ∃ b, b = getC s x3 := ⟨_, rfl⟩
  have HA := Aside0.mk ha
  have HB := Aside0.mk hb
  rw [← ha, ← hb]
  clear ha hb
  have e63 := and63 b
  have b0 : 0 ≤ b % 64 := by omega
  have b1 : b % 64 < 64 := by omega
  go_wp2_with fail
  go_ret2
  exact ⟨by rw [HA.out, HB.out]; rfl, below_dN0 HB0.out nq⟩
set_option maxRecDepth 100000 in
set_option maxHeartbeats 2000000 in
theorem reckon_16 {w : World} {B E p : Nat} {A : Option Addr} {c bm : Nat} {s : CS} (h : COK w 69 B E p A c bm s) (x1 x2 x3 x4 x5 x6 x7 : Int) (h1 : inReg x1) (h2 : inReg x2) (h3 : inReg x3) (h4 : inReg x4) (h6 : 0 ≤ x6 ∧ x6 ≤ 3) :
    Calls Try.prog 40 #[.pointer (some ⟨p, 0, none⟩), .agg #[.int .i64 16, .int .i64 x1, .int .i64 x2, .int .i64 x3, .int .i64 x4, .int .i64 x5, .int .i64 x6, .int .i64 x7]] w fun e w' => e = .returned (.tuple #[.int .i64 (wrap64 (x5 * 2 ^ (16 * x6).toNat)), .bool true]) ∧ Below w.heap.size w w' := by
  have hu := Try.underlying61
  have hB0 := below_alloc (Below.refl w.heap.size w) (.cells #[.int .i64 16, .int .i64 x1, .int .i64 x2, .int .i64 x3, .int .i64 x4, .int .i64 x5, .int .i64 x6, .int .i64 x7] 61)
  have hblk := blk_new w (.cells #[.int .i64 16, .int .i64 x1, .int .i64 x2, .int .i64 x3, .int .i64 x4, .int .i64 x5, .int .i64 x6, .int .i64 x7] 61)
  have hO := h.below hB0
  obtain ⟨W, hW⟩ : ∃ W, w.alloc (.cells #[.int .i64 16, .int .i64 x1, .int .i64 x2, .int .i64 x3, .int .i64 x4, .int .i64 x5, .int .i64 x6, .int .i64 x7] 61) = W := ⟨_, rfl⟩
  obtain ⟨g, hg⟩ : ∃ g, w.heap.size = g := ⟨_, rfl⟩
  rw [hW] at hB0 hblk hO
  rw [hg] at hblk
  have q0 : W.cell? ⟨g, 0, none⟩ = some (.int .i64 16) := blk_cell hblk 0
  have q1 : W.cell? ⟨g, 1, none⟩ = some (.int .i64 x1) := blk_cell hblk 1
  have q2 : W.cell? ⟨g, 2, none⟩ = some (.int .i64 x2) := blk_cell hblk 2
  have q3 : W.cell? ⟨g, 3, none⟩ = some (.int .i64 x3) := blk_cell hblk 3
  have q4 : W.cell? ⟨g, 4, none⟩ = some (.int .i64 x4) := blk_cell hblk 4
  have q5 : W.cell? ⟨g, 5, none⟩ = some (.int .i64 x5) := blk_cell hblk 5
  have q6 : W.cell? ⟨g, 6, none⟩ = some (.int .i64 x6) := blk_cell hblk 6
  have q7 : W.cell? ⟨g, 7, none⟩ = some (.int .i64 x7) := blk_cell hblk 7
  have HO := Aside0.mk hO
  have HB0 := Aside0.mk hB0
  have HBK := Aside0.mk hblk
  have HW := Aside0.mk hW
  have HG := Aside0.mk hg
  have H0 := Aside0.mk h
  have H1 := Aside0.mk h1
  have H2 := Aside0.mk h2
  have H3 := Aside0.mk h3
  have H4 := Aside0.mk h4
  clear h hO hB0 hblk hW hg h1 h2 h3 h4
  have hs : IntKind.i64.wrap (16 * x6) = 16 * x6 := by rw [IntKind.wrap_i64]; omega
  have hn : 0 ≤ 16 * x6 := by omega
  have hn1 : ¬ 16 * x6 < 0 := by omega
  go_enter Try.func40, Try.ntmps40
  go_wp2_with fail
  rw [HW.out, HG.out]
  go_big_quiet ((go_at_call 58; first | with_reducible exact Calls.quiet_of_same (get_q HO.out _ H2.out _) | with_reducible exact Calls.quiet_of_same (get_q HO.out _ H3.out _) | with_reducible exact Calls.quiet_of_same (get_q HO.out _ H1.out _)))
  obtain ⟨a, ha⟩ : ∃ a, a = getC s x2 := ⟨_, rfl⟩
  obtain ⟨b, hb⟩ : ∃ b, b = getC s x3 := ⟨_, rfl⟩
  have HA := Aside0.mk ha
  have HB := Aside0.mk hb
  rw [← ha, ← hb]
  clear ha hb
  have e63 := and63 b
  have b0 : 0 ≤ b % 64 := by omega
  have b1 : b % 64 < 64 := by omega
  go_wp2_with fail
  go_ret2
  exact ⟨rfl, below_dN0 HB0.out nq⟩
set_option maxRecDepth 100000 in
set_option maxHeartbeats 2000000 in
theorem reckon_17 {w : World} {B E p : Nat} {A : Option Addr} {c bm : Nat} {s : CS} (h : COK w 69 B E p A c bm s) (x1 x2 x3 x4 x5 x6 x7 : Int) (h1 : inReg x1) (h2 : inReg x2) (h3 : inReg x3) (h4 : inReg x4) (h6 : 0 ≤ x6 ∧ x6 ≤ 3) :
    Calls Try.prog 40 #[.pointer (some ⟨p, 0, none⟩), .agg #[.int .i64 17, .int .i64 x1, .int .i64 x2, .int .i64 x3, .int .i64 x4, .int .i64 x5, .int .i64 x6, .int .i64 x7]] w fun e w' => e = .returned (.tuple #[.int .i64 (bits .or .i64 (bits .andNot .i64 (getC s x1) (wrap64 (65535 * 2 ^ (16 * x6).toNat))) (wrap64 (x5 * 2 ^ (16 * x6).toNat))), .bool true]) ∧ Below w.heap.size w w' := by
  have hu := Try.underlying61
  have hB0 := below_alloc (Below.refl w.heap.size w) (.cells #[.int .i64 17, .int .i64 x1, .int .i64 x2, .int .i64 x3, .int .i64 x4, .int .i64 x5, .int .i64 x6, .int .i64 x7] 61)
  have hblk := blk_new w (.cells #[.int .i64 17, .int .i64 x1, .int .i64 x2, .int .i64 x3, .int .i64 x4, .int .i64 x5, .int .i64 x6, .int .i64 x7] 61)
  have hO := h.below hB0
  obtain ⟨W, hW⟩ : ∃ W, w.alloc (.cells #[.int .i64 17, .int .i64 x1, .int .i64 x2, .int .i64 x3, .int .i64 x4, .int .i64 x5, .int .i64 x6, .int .i64 x7] 61) = W := ⟨_, rfl⟩
  obtain ⟨g, hg⟩ : ∃ g, w.heap.size = g := ⟨_, rfl⟩
  rw [hW] at hB0 hblk hO
  rw [hg] at hblk
  have q0 : W.cell? ⟨g, 0, none⟩ = some (.int .i64 17) := blk_cell hblk 0
  have q1 : W.cell? ⟨g, 1, none⟩ = some (.int .i64 x1) := blk_cell hblk 1
  have q2 : W.cell? ⟨g, 2, none⟩ = some (.int .i64 x2) := blk_cell hblk 2
  have q3 : W.cell? ⟨g, 3, none⟩ = some (.int .i64 x3) := blk_cell hblk 3
  have q4 : W.cell? ⟨g, 4, none⟩ = some (.int .i64 x4) := blk_cell hblk 4
  have q5 : W.cell? ⟨g, 5, none⟩ = some (.int .i64 x5) := blk_cell hblk 5
  have q6 : W.cell? ⟨g, 6, none⟩ = some (.int .i64 x6) := blk_cell hblk 6
  have q7 : W.cell? ⟨g, 7, none⟩ = some (.int .i64 x7) := blk_cell hblk 7
  have HO := Aside0.mk hO
  have HB0 := Aside0.mk hB0
  have HBK := Aside0.mk hblk
  have HW := Aside0.mk hW
  have HG := Aside0.mk hg
  have H0 := Aside0.mk h
  have H1 := Aside0.mk h1
  have H2 := Aside0.mk h2
  have H3 := Aside0.mk h3
  have H4 := Aside0.mk h4
  clear h hO hB0 hblk hW hg h1 h2 h3 h4
  have hs : IntKind.i64.wrap (16 * x6) = 16 * x6 := by rw [IntKind.wrap_i64]; omega
  have hn : 0 ≤ 16 * x6 := by omega
  have hn1 : ¬ 16 * x6 < 0 := by omega
  go_enter Try.func40, Try.ntmps40
  go_wp2_with fail
  rw [HW.out, HG.out]
  go_big_quiet ((go_at_call 58; first | with_reducible exact Calls.quiet_of_same (get_q HO.out _ H2.out _) | with_reducible exact Calls.quiet_of_same (get_q HO.out _ H3.out _) | with_reducible exact Calls.quiet_of_same (get_q HO.out _ H1.out _)))
  obtain ⟨a, ha⟩ : ∃ a, a = getC s x2 := ⟨_, rfl⟩
  obtain ⟨b, hb⟩ : ∃ b, b = getC s x3 := ⟨_, rfl⟩
  have HA := Aside0.mk ha
  have HB := Aside0.mk hb
  rw [← ha, ← hb]
  clear ha hb
  have e63 := and63 b
  have b0 : 0 ≤ b % 64 := by omega
  have b1 : b % 64 < 64 := by omega
  have r1 : (W.drewN nq).cell? ⟨g, 1, none⟩ = some (.int .i64 x1) := q1
  have r6 : (W.drewN nq).cell? ⟨g, 6, none⟩ = some (.int .i64 x6) := q6
  have HO2 := Aside0.mk (HO.out.drewN nq)
  have HB2 := Aside0.mk (below_dN0 HB0.out nq)
  go_wp2_with fail
  obtain ⟨W2, hW2⟩ : ∃ W2, W.drewN nq = W2 := ⟨_, rfl⟩
  rw [hW2] at r1 r6 HO2 HB2 ⊢
  clear hW2 q0 q1 q2 q3 q4 q5 q6 q7
  go_big_quiet ((go_at_call 58; with_reducible exact Calls.quiet_of_same (get_q HO2.out _ H1.out _)))
  go_wp2_with fail
  go_ret2
  exact ⟨rfl, below_dN0 HB2.out _⟩
set_option maxRecDepth 100000 in
set_option maxHeartbeats 2000000 in
theorem reckon_18 {w : World} {B E p : Nat} {A : Option Addr} {c bm : Nat} {s : CS} (h : COK w 69 B E p A c bm s) (x1 x2 x3 x4 x5 x6 x7 : Int) (h1 : inReg x1) (h2 : inReg x2) (h3 : inReg x3) (h4 : inReg x4) (h6 : 0 ≤ x6 ∧ x6 ≤ 3) :
    Calls Try.prog 40 #[.pointer (some ⟨p, 0, none⟩), .agg #[.int .i64 18, .int .i64 x1, .int .i64 x2, .int .i64 x3, .int .i64 x4, .int .i64 x5, .int .i64 x6, .int .i64 x7]] w fun e w' => e = .returned (.tuple #[.int .i64 (bits .xor .i64 (-1) (wrap64 (x5 * 2 ^ (16 * x6).toNat))), .bool true]) ∧ Below w.heap.size w w' := by
  have hu := Try.underlying61
  have hB0 := below_alloc (Below.refl w.heap.size w) (.cells #[.int .i64 18, .int .i64 x1, .int .i64 x2, .int .i64 x3, .int .i64 x4, .int .i64 x5, .int .i64 x6, .int .i64 x7] 61)
  have hblk := blk_new w (.cells #[.int .i64 18, .int .i64 x1, .int .i64 x2, .int .i64 x3, .int .i64 x4, .int .i64 x5, .int .i64 x6, .int .i64 x7] 61)
  have hO := h.below hB0
  obtain ⟨W, hW⟩ : ∃ W, w.alloc (.cells #[.int .i64 18, .int .i64 x1, .int .i64 x2, .int .i64 x3, .int .i64 x4, .int .i64 x5, .int .i64 x6, .int .i64 x7] 61) = W := ⟨_, rfl⟩
  obtain ⟨g, hg⟩ : ∃ g, w.heap.size = g := ⟨_, rfl⟩
  rw [hW] at hB0 hblk hO
  rw [hg] at hblk
  have q0 : W.cell? ⟨g, 0, none⟩ = some (.int .i64 18) := blk_cell hblk 0
  have q1 : W.cell? ⟨g, 1, none⟩ = some (.int .i64 x1) := blk_cell hblk 1
  have q2 : W.cell? ⟨g, 2, none⟩ = some (.int .i64 x2) := blk_cell hblk 2
  have q3 : W.cell? ⟨g, 3, none⟩ = some (.int .i64 x3) := blk_cell hblk 3
  have q4 : W.cell? ⟨g, 4, none⟩ = some (.int .i64 x4) := blk_cell hblk 4
  have q5 : W.cell? ⟨g, 5, none⟩ = some (.int .i64 x5) := blk_cell hblk 5
  have q6 : W.cell? ⟨g, 6, none⟩ = some (.int .i64 x6) := blk_cell hblk 6
  have q7 : W.cell? ⟨g, 7, none⟩ = some (.int .i64 x7) := blk_cell hblk 7
  have HO := Aside0.mk hO
  have HB0 := Aside0.mk hB0
  have HBK := Aside0.mk hblk
  have HW := Aside0.mk hW
  have HG := Aside0.mk hg
  have H0 := Aside0.mk h
  have H1 := Aside0.mk h1
  have H2 := Aside0.mk h2
  have H3 := Aside0.mk h3
  have H4 := Aside0.mk h4
  clear h hO hB0 hblk hW hg h1 h2 h3 h4
  have hs : IntKind.i64.wrap (16 * x6) = 16 * x6 := by rw [IntKind.wrap_i64]; omega
  have hn : 0 ≤ 16 * x6 := by omega
  have hn1 : ¬ 16 * x6 < 0 := by omega
  go_enter Try.func40, Try.ntmps40
  go_wp2_with fail
  rw [HW.out, HG.out]
  go_big_quiet ((go_at_call 58; first | with_reducible exact Calls.quiet_of_same (get_q HO.out _ H2.out _) | with_reducible exact Calls.quiet_of_same (get_q HO.out _ H3.out _) | with_reducible exact Calls.quiet_of_same (get_q HO.out _ H1.out _)))
  obtain ⟨a, ha⟩ : ∃ a, a = getC s x2 := ⟨_, rfl⟩
  obtain ⟨b, hb⟩ : ∃ b, b = getC s x3 := ⟨_, rfl⟩
  have HA := Aside0.mk ha
  have HB := Aside0.mk hb
  rw [← ha, ← hb]
  clear ha hb
  have e63 := and63 b
  have b0 : 0 ≤ b % 64 := by omega
  have b1 : b % 64 < 64 := by omega
  go_wp2_with fail
  go_ret2
  exact ⟨rfl, below_dN0 HB0.out nq⟩
set_option maxRecDepth 100000 in
set_option maxHeartbeats 2000000 in
theorem reckon_21 (r : Int) {w : World} {B E p : Nat} {A : Option Addr} {c bm : Nat} {s : CS} (h : COK w 69 B E p A c bm s) (x1 x2 x3 x4 x5 x6 x7 : Int) (h1 : inReg x1) (h2 : inReg x2) (h3 : inReg x3) (h4 : inReg x4) (h6 : 0 ≤ x6 ∧ x6 ≤ 3) (hr : Aside0 (r = (if hold x7 s.fN s.fZ s.fC s.fV = true then getC s x2 else getC s x3))) :
    Calls Try.prog 40 #[.pointer (some ⟨p, 0, none⟩), .agg #[.int .i64 21, .int .i64 x1, .int .i64 x2, .int .i64 x3, .int .i64 x4, .int .i64 x5, .int .i64 x6, .int .i64 x7]] w fun e w' => e = .returned (.tuple #[.int .i64 r, .bool true]) ∧ Below w.heap.size w w' := by
  have hu := Try.underlying61
  have hB0 := below_alloc (Below.refl w.heap.size w) (.cells #[.int .i64 21, .int .i64 x1, .int .i64 x2, .int .i64 x3, .int .i64 x4, .int .i64 x5, .int .i64 x6, .int .i64 x7] 61)
  have hblk := blk_new w (.cells #[.int .i64 21, .int .i64 x1, .int .i64 x2, .int .i64 x3, .int .i64 x4, .int .i64 x5, .int .i64 x6, .int .i64 x7] 61)
  have hO := h.below hB0
  obtain ⟨W, hW⟩ : ∃ W, w.alloc (.cells #[.int .i64 21, .int .i64 x1, .int .i64 x2, .int .i64 x3, .int .i64 x4, .int .i64 x5, .int .i64 x6, .int .i64 x7] 61) = W := ⟨_, rfl⟩
  obtain ⟨g, hg⟩ : ∃ g, w.heap.size = g := ⟨_, rfl⟩
  rw [hW] at hB0 hblk hO
  rw [hg] at hblk
  have q0 : W.cell? ⟨g, 0, none⟩ = some (.int .i64 21) := blk_cell hblk 0
  have q1 : W.cell? ⟨g, 1, none⟩ = some (.int .i64 x1) := blk_cell hblk 1
  have q2 : W.cell? ⟨g, 2, none⟩ = some (.int .i64 x2) := blk_cell hblk 2
  have q3 : W.cell? ⟨g, 3, none⟩ = some (.int .i64 x3) := blk_cell hblk 3
  have q4 : W.cell? ⟨g, 4, none⟩ = some (.int .i64 x4) := blk_cell hblk 4
  have q5 : W.cell? ⟨g, 5, none⟩ = some (.int .i64 x5) := blk_cell hblk 5
  have q6 : W.cell? ⟨g, 6, none⟩ = some (.int .i64 x6) := blk_cell hblk 6
  have q7 : W.cell? ⟨g, 7, none⟩ = some (.int .i64 x7) := blk_cell hblk 7
  have HO := Aside0.mk hO
  have HB0 := Aside0.mk hB0
  have HBK := Aside0.mk hblk
  have HW := Aside0.mk hW
  have HG := Aside0.mk hg
  have H0 := Aside0.mk h
  have H1 := Aside0.mk h1
  have H2 := Aside0.mk h2
  have H3 := Aside0.mk h3
  have H4 := Aside0.mk h4
  clear h hO hB0 hblk hW hg h1 h2 h3 h4
  have hs : IntKind.i64.wrap (16 * x6) = 16 * x6 := by rw [IntKind.wrap_i64]; omega
  have hn : 0 ≤ 16 * x6 := by omega
  have hn1 : ¬ 16 * x6 < 0 := by omega
  go_enter Try.func40, Try.ntmps40
  go_wp2_with fail
  rw [HW.out, HG.out]
  go_big_quiet ((go_at_call 58; first | with_reducible exact Calls.quiet_of_same (get_q HO.out _ H2.out _) | with_reducible exact Calls.quiet_of_same (get_q HO.out _ H3.out _) | with_reducible exact Calls.quiet_of_same (get_q HO.out _ H1.out _)))
  obtain ⟨a, ha⟩ : ∃ a, a = getC s x2 := ⟨_, rfl⟩
  obtain ⟨b, hb⟩ : ∃ b, b = getC s x3 := ⟨_, rfl⟩
  have HA := Aside0.mk ha
  have HB := Aside0.mk hb
  rw [← ha, ← hb]
  clear ha hb
  have e63 := and63 b
  have b0 : 0 ≤ b % 64 := by omega
  have b1 : b % 64 < 64 := by omega
  go_wp2_with (refine (choose_run (HO.out.drewN _) _ _ _).mono ?_; rintro e w2 ⟨he, hb⟩; obtain ⟨v, hv⟩ : ∃ v, v = (if hold x7 s.fN s.fZ s.fC s.fV = true then a else b) := ⟨_, rfl⟩; rw [← hv] at he; subst he; have HV := Aside0.mk hv; clear hv; have HBC := Aside0.mk hb; clear hb)
  go_ret2
  exact ⟨by rw [hr.out, HV.out, HA.out, HB.out]; rfl, below_step (below_dN0 HB0.out nq) HBC.out⟩
set_option maxRecDepth 100000 in
set_option maxHeartbeats 2000000 in
theorem reckon_22 (r : Int) {w : World} {B E p : Nat} {A : Option Addr} {c bm : Nat} {s : CS} (h : COK w 69 B E p A c bm s) (x1 x2 x3 x4 x5 x6 x7 : Int) (h1 : inReg x1) (h2 : inReg x2) (h3 : inReg x3) (h4 : inReg x4) (h6 : 0 ≤ x6 ∧ x6 ≤ 3) (hr : Aside0 (r = (if hold x7 s.fN s.fZ s.fC s.fV = true then getC s x2 else wrap64 (getC s x3 + 1)))) :
    Calls Try.prog 40 #[.pointer (some ⟨p, 0, none⟩), .agg #[.int .i64 22, .int .i64 x1, .int .i64 x2, .int .i64 x3, .int .i64 x4, .int .i64 x5, .int .i64 x6, .int .i64 x7]] w fun e w' => e = .returned (.tuple #[.int .i64 r, .bool true]) ∧ Below w.heap.size w w' := by
  have hu := Try.underlying61
  have hB0 := below_alloc (Below.refl w.heap.size w) (.cells #[.int .i64 22, .int .i64 x1, .int .i64 x2, .int .i64 x3, .int .i64 x4, .int .i64 x5, .int .i64 x6, .int .i64 x7] 61)
  have hblk := blk_new w (.cells #[.int .i64 22, .int .i64 x1, .int .i64 x2, .int .i64 x3, .int .i64 x4, .int .i64 x5, .int .i64 x6, .int .i64 x7] 61)
  have hO := h.below hB0
  obtain ⟨W, hW⟩ : ∃ W, w.alloc (.cells #[.int .i64 22, .int .i64 x1, .int .i64 x2, .int .i64 x3, .int .i64 x4, .int .i64 x5, .int .i64 x6, .int .i64 x7] 61) = W := ⟨_, rfl⟩
  obtain ⟨g, hg⟩ : ∃ g, w.heap.size = g := ⟨_, rfl⟩
  rw [hW] at hB0 hblk hO
  rw [hg] at hblk
  have q0 : W.cell? ⟨g, 0, none⟩ = some (.int .i64 22) := blk_cell hblk 0
  have q1 : W.cell? ⟨g, 1, none⟩ = some (.int .i64 x1) := blk_cell hblk 1
  have q2 : W.cell? ⟨g, 2, none⟩ = some (.int .i64 x2) := blk_cell hblk 2
  have q3 : W.cell? ⟨g, 3, none⟩ = some (.int .i64 x3) := blk_cell hblk 3
  have q4 : W.cell? ⟨g, 4, none⟩ = some (.int .i64 x4) := blk_cell hblk 4
  have q5 : W.cell? ⟨g, 5, none⟩ = some (.int .i64 x5) := blk_cell hblk 5
  have q6 : W.cell? ⟨g, 6, none⟩ = some (.int .i64 x6) := blk_cell hblk 6
  have q7 : W.cell? ⟨g, 7, none⟩ = some (.int .i64 x7) := blk_cell hblk 7
  have HO := Aside0.mk hO
  have HB0 := Aside0.mk hB0
  have HBK := Aside0.mk hblk
  have HW := Aside0.mk hW
  have HG := Aside0.mk hg
  have H0 := Aside0.mk h
  have H1 := Aside0.mk h1
  have H2 := Aside0.mk h2
  have H3 := Aside0.mk h3
  have H4 := Aside0.mk h4
  clear h hO hB0 hblk hW hg h1 h2 h3 h4
  have hs : IntKind.i64.wrap (16 * x6) = 16 * x6 := by rw [IntKind.wrap_i64]; omega
  have hn : 0 ≤ 16 * x6 := by omega
  have hn1 : ¬ 16 * x6 < 0 := by omega
  go_enter Try.func40, Try.ntmps40
  go_wp2_with fail
  rw [HW.out, HG.out]
  go_big_quiet ((go_at_call 58; first | with_reducible exact Calls.quiet_of_same (get_q HO.out _ H2.out _) | with_reducible exact Calls.quiet_of_same (get_q HO.out _ H3.out _) | with_reducible exact Calls.quiet_of_same (get_q HO.out _ H1.out _)))
  obtain ⟨a, ha⟩ : ∃ a, a = getC s x2 := ⟨_, rfl⟩
  obtain ⟨b, hb⟩ : ∃ b, b = getC s x3 := ⟨_, rfl⟩
  have HA := Aside0.mk ha
  have HB := Aside0.mk hb
  rw [← ha, ← hb]
  clear ha hb
  have e63 := and63 b
  have b0 : 0 ≤ b % 64 := by omega
  have b1 : b % 64 < 64 := by omega
  go_wp2_with (refine (choose_run (HO.out.drewN _) _ _ _).mono ?_; rintro e w2 ⟨he, hb⟩; obtain ⟨v, hv⟩ : ∃ v, v = (if hold x7 s.fN s.fZ s.fC s.fV = true then a else wrap64 (b + 1)) := ⟨_, rfl⟩; rw [← hv] at he; subst he; have HV := Aside0.mk hv; clear hv; have HBC := Aside0.mk hb; clear hb)
  go_ret2
  exact ⟨by rw [hr.out, HV.out, HA.out, HB.out]; rfl, below_step (below_dN0 HB0.out nq) HBC.out⟩
set_option maxRecDepth 100000 in
set_option maxHeartbeats 2000000 in
theorem reckon_29 {w : World} {B E p : Nat} {A : Option Addr} {c bm : Nat} {s : CS} (h : COK w 69 B E p A c bm s) (x1 x2 x3 x4 x5 x6 x7 : Int) (h1 : inReg x1) (h2 : inReg x2) (h3 : inReg x3) (h4 : inReg x4) (h6 : 0 ≤ x6 ∧ x6 ≤ 3) :
    Calls Try.prog 40 #[.pointer (some ⟨p, 0, none⟩), .agg #[.int .i64 29, .int .i64 x1, .int .i64 x2, .int .i64 x3, .int .i64 x4, .int .i64 x5, .int .i64 x6, .int .i64 x7]] w fun e w' => e = .returned (.tuple #[.int .i64 0, .bool false]) ∧ Below w.heap.size w w' := by
  have hu := Try.underlying61
  have hB0 := below_alloc (Below.refl w.heap.size w) (.cells #[.int .i64 29, .int .i64 x1, .int .i64 x2, .int .i64 x3, .int .i64 x4, .int .i64 x5, .int .i64 x6, .int .i64 x7] 61)
  have hblk := blk_new w (.cells #[.int .i64 29, .int .i64 x1, .int .i64 x2, .int .i64 x3, .int .i64 x4, .int .i64 x5, .int .i64 x6, .int .i64 x7] 61)
  have hO := h.below hB0
  obtain ⟨W, hW⟩ : ∃ W, w.alloc (.cells #[.int .i64 29, .int .i64 x1, .int .i64 x2, .int .i64 x3, .int .i64 x4, .int .i64 x5, .int .i64 x6, .int .i64 x7] 61) = W := ⟨_, rfl⟩
  obtain ⟨g, hg⟩ : ∃ g, w.heap.size = g := ⟨_, rfl⟩
  rw [hW] at hB0 hblk hO
  rw [hg] at hblk
  have q0 : W.cell? ⟨g, 0, none⟩ = some (.int .i64 29) := blk_cell hblk 0
  have q1 : W.cell? ⟨g, 1, none⟩ = some (.int .i64 x1) := blk_cell hblk 1
  have q2 : W.cell? ⟨g, 2, none⟩ = some (.int .i64 x2) := blk_cell hblk 2
  have q3 : W.cell? ⟨g, 3, none⟩ = some (.int .i64 x3) := blk_cell hblk 3
  have q4 : W.cell? ⟨g, 4, none⟩ = some (.int .i64 x4) := blk_cell hblk 4
  have q5 : W.cell? ⟨g, 5, none⟩ = some (.int .i64 x5) := blk_cell hblk 5
  have q6 : W.cell? ⟨g, 6, none⟩ = some (.int .i64 x6) := blk_cell hblk 6
  have q7 : W.cell? ⟨g, 7, none⟩ = some (.int .i64 x7) := blk_cell hblk 7
  have HO := Aside0.mk hO
  have HB0 := Aside0.mk hB0
  have HBK := Aside0.mk hblk
  have HW := Aside0.mk hW
  have HG := Aside0.mk hg
  have H0 := Aside0.mk h
  have H1 := Aside0.mk h1
  have H2 := Aside0.mk h2
  have H3 := Aside0.mk h3
  have H4 := Aside0.mk h4
  clear h hO hB0 hblk hW hg h1 h2 h3 h4
  have hs : IntKind.i64.wrap (16 * x6) = 16 * x6 := by rw [IntKind.wrap_i64]; omega
  have hn : 0 ≤ 16 * x6 := by omega
  have hn1 : ¬ 16 * x6 < 0 := by omega
  go_enter Try.func40, Try.ntmps40
  go_wp2_with fail
  rw [HW.out, HG.out]
  go_big_quiet ((go_at_call 58; first | with_reducible exact Calls.quiet_of_same (get_q HO.out _ H2.out _) | with_reducible exact Calls.quiet_of_same (get_q HO.out _ H3.out _) | with_reducible exact Calls.quiet_of_same (get_q HO.out _ H1.out _)))
  obtain ⟨a, ha⟩ : ∃ a, a = getC s x2 := ⟨_, rfl⟩
  obtain ⟨b, hb⟩ : ∃ b, b = getC s x3 := ⟨_, rfl⟩
  have HA := Aside0.mk ha
  have HB := Aside0.mk hb
  rw [← ha, ← hb]
  clear ha hb
  have e63 := and63 b
  have b0 : 0 ≤ b % 64 := by omega
  have b1 : b % 64 < 64 := by omega
  go_wp2_with fail
  go_ret2
  exact ⟨rfl, below_dN0 HB0.out nq⟩
set_option maxRecDepth 100000 in
set_option maxHeartbeats 2000000 in
theorem reckon_30 {w : World} {B E p : Nat} {A : Option Addr} {c bm : Nat} {s : CS} (h : COK w 69 B E p A c bm s) (x1 x2 x3 x4 x5 x6 x7 : Int) (h1 : inReg x1) (h2 : inReg x2) (h3 : inReg x3) (h4 : inReg x4) (h6 : 0 ≤ x6 ∧ x6 ≤ 3) :
    Calls Try.prog 40 #[.pointer (some ⟨p, 0, none⟩), .agg #[.int .i64 30, .int .i64 x1, .int .i64 x2, .int .i64 x3, .int .i64 x4, .int .i64 x5, .int .i64 x6, .int .i64 x7]] w fun e w' => e = .returned (.tuple #[.int .i64 0, .bool false]) ∧ Below w.heap.size w w' := by
  have hu := Try.underlying61
  have hB0 := below_alloc (Below.refl w.heap.size w) (.cells #[.int .i64 30, .int .i64 x1, .int .i64 x2, .int .i64 x3, .int .i64 x4, .int .i64 x5, .int .i64 x6, .int .i64 x7] 61)
  have hblk := blk_new w (.cells #[.int .i64 30, .int .i64 x1, .int .i64 x2, .int .i64 x3, .int .i64 x4, .int .i64 x5, .int .i64 x6, .int .i64 x7] 61)
  have hO := h.below hB0
  obtain ⟨W, hW⟩ : ∃ W, w.alloc (.cells #[.int .i64 30, .int .i64 x1, .int .i64 x2, .int .i64 x3, .int .i64 x4, .int .i64 x5, .int .i64 x6, .int .i64 x7] 61) = W := ⟨_, rfl⟩
  obtain ⟨g, hg⟩ : ∃ g, w.heap.size = g := ⟨_, rfl⟩
  rw [hW] at hB0 hblk hO
  rw [hg] at hblk
  have q0 : W.cell? ⟨g, 0, none⟩ = some (.int .i64 30) := blk_cell hblk 0
  have q1 : W.cell? ⟨g, 1, none⟩ = some (.int .i64 x1) := blk_cell hblk 1
  have q2 : W.cell? ⟨g, 2, none⟩ = some (.int .i64 x2) := blk_cell hblk 2
  have q3 : W.cell? ⟨g, 3, none⟩ = some (.int .i64 x3) := blk_cell hblk 3
  have q4 : W.cell? ⟨g, 4, none⟩ = some (.int .i64 x4) := blk_cell hblk 4
  have q5 : W.cell? ⟨g, 5, none⟩ = some (.int .i64 x5) := blk_cell hblk 5
  have q6 : W.cell? ⟨g, 6, none⟩ = some (.int .i64 x6) := blk_cell hblk 6
  have q7 : W.cell? ⟨g, 7, none⟩ = some (.int .i64 x7) := blk_cell hblk 7
  have HO := Aside0.mk hO
  have HB0 := Aside0.mk hB0
  have HBK := Aside0.mk hblk
  have HW := Aside0.mk hW
  have HG := Aside0.mk hg
  have H0 := Aside0.mk h
  have H1 := Aside0.mk h1
  have H2 := Aside0.mk h2
  have H3 := Aside0.mk h3
  have H4 := Aside0.mk h4
  clear h hO hB0 hblk hW hg h1 h2 h3 h4
  have hs : IntKind.i64.wrap (16 * x6) = 16 * x6 := by rw [IntKind.wrap_i64]; omega
  have hn : 0 ≤ 16 * x6 := by omega
  have hn1 : ¬ 16 * x6 < 0 := by omega
  go_enter Try.func40, Try.ntmps40
  go_wp2_with fail
  rw [HW.out, HG.out]
  go_big_quiet ((go_at_call 58; first | with_reducible exact Calls.quiet_of_same (get_q HO.out _ H2.out _) | with_reducible exact Calls.quiet_of_same (get_q HO.out _ H3.out _) | with_reducible exact Calls.quiet_of_same (get_q HO.out _ H1.out _)))
  obtain ⟨a, ha⟩ : ∃ a, a = getC s x2 := ⟨_, rfl⟩
  obtain ⟨b, hb⟩ : ∃ b, b = getC s x3 := ⟨_, rfl⟩
  have HA := Aside0.mk ha
  have HB := Aside0.mk hb
  rw [← ha, ← hb]
  clear ha hb
  have e63 := and63 b
  have b0 : 0 ≤ b % 64 := by omega
  have b1 : b % 64 < 64 := by omega
  go_wp2_with fail
  go_ret2
  exact ⟨rfl, below_dN0 HB0.out nq⟩
set_option maxRecDepth 100000 in
set_option maxHeartbeats 2000000 in
theorem reckon_31 {w : World} {B E p : Nat} {A : Option Addr} {c bm : Nat} {s : CS} (h : COK w 69 B E p A c bm s) (x1 x2 x3 x4 x5 x6 x7 : Int) (h1 : inReg x1) (h2 : inReg x2) (h3 : inReg x3) (h4 : inReg x4) (h6 : 0 ≤ x6 ∧ x6 ≤ 3) :
    Calls Try.prog 40 #[.pointer (some ⟨p, 0, none⟩), .agg #[.int .i64 31, .int .i64 x1, .int .i64 x2, .int .i64 x3, .int .i64 x4, .int .i64 x5, .int .i64 x6, .int .i64 x7]] w fun e w' => e = .returned (.tuple #[.int .i64 0, .bool false]) ∧ Below w.heap.size w w' := by
  have hu := Try.underlying61
  have hB0 := below_alloc (Below.refl w.heap.size w) (.cells #[.int .i64 31, .int .i64 x1, .int .i64 x2, .int .i64 x3, .int .i64 x4, .int .i64 x5, .int .i64 x6, .int .i64 x7] 61)
  have hblk := blk_new w (.cells #[.int .i64 31, .int .i64 x1, .int .i64 x2, .int .i64 x3, .int .i64 x4, .int .i64 x5, .int .i64 x6, .int .i64 x7] 61)
  have hO := h.below hB0
  obtain ⟨W, hW⟩ : ∃ W, w.alloc (.cells #[.int .i64 31, .int .i64 x1, .int .i64 x2, .int .i64 x3, .int .i64 x4, .int .i64 x5, .int .i64 x6, .int .i64 x7] 61) = W := ⟨_, rfl⟩
  obtain ⟨g, hg⟩ : ∃ g, w.heap.size = g := ⟨_, rfl⟩
  rw [hW] at hB0 hblk hO
  rw [hg] at hblk
  have q0 : W.cell? ⟨g, 0, none⟩ = some (.int .i64 31) := blk_cell hblk 0
  have q1 : W.cell? ⟨g, 1, none⟩ = some (.int .i64 x1) := blk_cell hblk 1
  have q2 : W.cell? ⟨g, 2, none⟩ = some (.int .i64 x2) := blk_cell hblk 2
  have q3 : W.cell? ⟨g, 3, none⟩ = some (.int .i64 x3) := blk_cell hblk 3
  have q4 : W.cell? ⟨g, 4, none⟩ = some (.int .i64 x4) := blk_cell hblk 4
  have q5 : W.cell? ⟨g, 5, none⟩ = some (.int .i64 x5) := blk_cell hblk 5
  have q6 : W.cell? ⟨g, 6, none⟩ = some (.int .i64 x6) := blk_cell hblk 6
  have q7 : W.cell? ⟨g, 7, none⟩ = some (.int .i64 x7) := blk_cell hblk 7
  have HO := Aside0.mk hO
  have HB0 := Aside0.mk hB0
  have HBK := Aside0.mk hblk
  have HW := Aside0.mk hW
  have HG := Aside0.mk hg
  have H0 := Aside0.mk h
  have H1 := Aside0.mk h1
  have H2 := Aside0.mk h2
  have H3 := Aside0.mk h3
  have H4 := Aside0.mk h4
  clear h hO hB0 hblk hW hg h1 h2 h3 h4
  have hs : IntKind.i64.wrap (16 * x6) = 16 * x6 := by rw [IntKind.wrap_i64]; omega
  have hn : 0 ≤ 16 * x6 := by omega
  have hn1 : ¬ 16 * x6 < 0 := by omega
  go_enter Try.func40, Try.ntmps40
  go_wp2_with fail
  rw [HW.out, HG.out]
  go_big_quiet ((go_at_call 58; first | with_reducible exact Calls.quiet_of_same (get_q HO.out _ H2.out _) | with_reducible exact Calls.quiet_of_same (get_q HO.out _ H3.out _) | with_reducible exact Calls.quiet_of_same (get_q HO.out _ H1.out _)))
  obtain ⟨a, ha⟩ : ∃ a, a = getC s x2 := ⟨_, rfl⟩
  obtain ⟨b, hb⟩ : ∃ b, b = getC s x3 := ⟨_, rfl⟩
  have HA := Aside0.mk ha
  have HB := Aside0.mk hb
  rw [← ha, ← hb]
  clear ha hb
  have e63 := and63 b
  have b0 : 0 ≤ b % 64 := by omega
  have b1 : b % 64 < 64 := by omega
  go_wp2_with fail
  go_ret2
  exact ⟨rfl, below_dN0 HB0.out nq⟩
end Go.Proofs.Ytjhgbddcenhkfaa.P

set_option linter.unusedVariables false
set_option linter.unusedSimpArgs false
namespace Go.Proofs.Ytjhgbddcenhkfaa.P
open Go.RowKit Go.Proofs.YtjhgbddcenhkfaaW.PrintWords Go.Proofs.YtjhgbddcenhkfaaW.PrintLast Go.Proofs.YtjhgbddcenhkfaaW.PrintMore
theorem CTo.start {w W W' : World} {T : TypeId} {B E p : Nat} {A : Option Addr} {c bm : Nat} {s : CS} (hb : Below w.heap.size w W) (hB : B ≤ w.heap.size) (h : CTo W T B E p A c bm s W') : CTo w T B E p A c bm s W' := CTo.after (Kept.of_below hb _) (hb.mono hB) h
theorem CTo.drewN {w W : World} {T : TypeId} {B E p : Nat} {A : Option Addr} {c bm : Nat} {s : CS} (h : CTo w T B E p A c bm s W) (n : Nat) : CTo w T B E p A c bm s (W.drewN n) := ⟨h.1.drewN n, h.2.1.drewN n, below_dN0 h.2.2 n⟩
theorem CTo.drew {w W : World} {T : TypeId} {B E p : Nat} {A : Option Addr} {c bm : Nat} {s : CS} (h : CTo w T B E p A c bm s W) : CTo w T B E p A c bm s W.drew := ⟨h.1.below (below_drew (Below.refl _ _)), h.2.1.drew, below_drew h.2.2⟩
theorem COK.drew {w : World} {T : TypeId} {B E p : Nat} {A : Option Addr} {c bm : Nat} {s : CS} (h : COK w T B E p A c bm s) : COK w.drew T B E p A c bm s := h.below (below_drew (Below.refl _ w))
def xC (s : CS) (i : Int) : Int := s.x.getD i.toNat 0
def setX (s : CS) (i v : Int) : CS := { s with x := s.x.set i.toNat v }
theorem COK.setX {w : World} {T : TypeId} {B E p : Nat} {A : Option Addr} {c bm : Nat} {s : CS} (h : COK w T B E p A c bm s) (j : Nat) (hj : j < 32) (v : Int) : CTo w T B E p A c bm (setX s (j : Int) v) (w.setCell ⟨p, 1 + j, none⟩ (.int .i64 v)) := by
  unfold P.setX
  rw [Int.toNat_natCast]
  exact ⟨h.setx j hj v, setCell_kept _ p bm (1 + j) p (.inl rfl) _, (Below.refl _ _).setCell (p := ⟨p, 1 + j, none⟩) h.lp _⟩
def ldS (s : CS) (i ad : Int) : CS := if mayM s ad = true then putC s i (rdM s ad) else s
def flagS (s : CS) (f : Bool × Bool × Bool × Bool) : CS := { s with fN := f.1, fZ := f.2.1, fC := f.2.2.1, fV := f.2.2.2 }

set_option maxRecDepth 100000 in
set_option maxHeartbeats 2000000 in
theorem differ_4 {w : World} {B E p : Nat} {A : Option Addr} {c bm : Nat} {s : CS} (h : COK w 69 B E p A c bm s) (x1 x2 x3 x4 x5 x6 x7 : Int) (h1 : inReg x1) (h2 : inReg x2) (h3 : inReg x3) (h4 : inReg x4) (h6 : 0 ≤ x6 ∧ x6 ≤ 3) :
    Calls Try.prog 39 #[.pointer (some ⟨p, 0, none⟩), .agg #[.int .i64 4, .int .i64 x1, .int .i64 x2, .int .i64 x3, .int .i64 x4, .int .i64 x5, .int .i64 x6, .int .i64 x7]] w fun e w' => e = .returned (.bool true) ∧ CTo w 69 B E p A c bm (setX s x1 (wrap64 (xC s x2 + x5))) w' := by
  have hu := Try.underlying61
  have hB0 := below_alloc (Below.refl w.heap.size w) (.cells #[.int .i64 4, .int .i64 x1, .int .i64 x2, .int .i64 x3, .int .i64 x4, .int .i64 x5, .int .i64 x6, .int .i64 x7] 61)
  have hblk := blk_new w (.cells #[.int .i64 4, .int .i64 x1, .int .i64 x2, .int .i64 x3, .int .i64 x4, .int .i64 x5, .int .i64 x6, .int .i64 x7] 61)
  have hO := h.below hB0
  obtain ⟨W, hW⟩ : ∃ W, w.alloc (.cells #[.int .i64 4, .int .i64 x1, .int .i64 x2, .int .i64 x3, .int .i64 x4, .int .i64 x5, .int .i64 x6, .int .i64 x7] 61) = W := ⟨_, rfl⟩
  obtain ⟨g, hg⟩ : ∃ g, w.heap.size = g := ⟨_, rfl⟩
  rw [hW] at hB0 hblk hO
  rw [hg] at hblk
  have q0 : W.cell? ⟨g, 0, none⟩ = some (.int .i64 4) := blk_cell hblk 0
  have q1 : W.cell? ⟨g, 1, none⟩ = some (.int .i64 x1) := blk_cell hblk 1
  have q2 : W.cell? ⟨g, 2, none⟩ = some (.int .i64 x2) := blk_cell hblk 2
  have q3 : W.cell? ⟨g, 3, none⟩ = some (.int .i64 x3) := blk_cell hblk 3
  have q4 : W.cell? ⟨g, 4, none⟩ = some (.int .i64 x4) := blk_cell hblk 4
  have q5 : W.cell? ⟨g, 5, none⟩ = some (.int .i64 x5) := blk_cell hblk 5
  have q6 : W.cell? ⟨g, 6, none⟩ = some (.int .i64 x6) := blk_cell hblk 6
  have q7 : W.cell? ⟨g, 7, none⟩ = some (.int .i64 x7) := blk_cell hblk 7
  have HO := Aside0.mk hO
  have HB0 := Aside0.mk hB0
  have HBK := Aside0.mk hblk
  have HW := Aside0.mk hW
  have HG := Aside0.mk hg
  have H0 := Aside0.mk h
  have H1 := Aside0.mk h1
  have H2 := Aside0.mk h2
  have H3 := Aside0.mk h3
  have H4 := Aside0.mk h4
  clear h hO hB0 hblk hW hg h1 h2 h3 h4
  have hs : IntKind.i64.wrap (16 * x6) = 16 * x6 := by rw [IntKind.wrap_i64]; omega
  have hn : 0 ≤ 16 * x6 := by omega
  have hn1 : ¬ 16 * x6 < 0 := by omega
  obtain ⟨j1, rfl⟩ := Int.eq_ofNat_of_zero_le H1.out.1
  obtain ⟨j2, rfl⟩ := Int.eq_ofNat_of_zero_le H2.out.1
  have hj1 : j1 < 32 := by have := H1.out.2; omega
  have hj2 : j2 < 32 := by have := H2.out.2; omega
  have hi1 : (j1 : Int) < 32 := by omega
  have hi2 : (j2 : Int) < 32 := by omega
  have hi3 : 0 ≤ (j1 : Int) := by omega
  have hi4 : 0 ≤ (j2 : Int) := by omega
  have p2 := HO.out.cx j2 hj2
  have f1 := HO.out.fr (1 + j1)
  obtain ⟨a, ha⟩ : ∃ a, a = s.x.getD j2 0 := ⟨_, rfl⟩
  rw [← ha] at p2
  have HA := Aside0.mk ha
  clear ha
  go_enter Try.func39, Try.ntmps39
  go_wp2_with fail
  rw [HW.out, HG.out]
  go_big_quiet (fail)
  have HB2 := Aside0.mk (below_dN0 HB0.out nq)
  have HO2 := Aside0.mk (HO.out.drewN nq)
  have r0 : (W.drewN nq).cell? ⟨g, 0, none⟩ = _ := q0
  have r1 : (W.drewN nq).cell? ⟨g, 1, none⟩ = _ := q1
  have r2 : (W.drewN nq).cell? ⟨g, 2, none⟩ = _ := q2
  have r3 : (W.drewN nq).cell? ⟨g, 3, none⟩ = _ := q3
  have r4 : (W.drewN nq).cell? ⟨g, 4, none⟩ = _ := q4
  have r5 : (W.drewN nq).cell? ⟨g, 5, none⟩ = _ := q5
  have r6 : (W.drewN nq).cell? ⟨g, 6, none⟩ = _ := q6
  have r7 : (W.drewN nq).cell? ⟨g, 7, none⟩ = _ := q7
  have f1' : (W.drewN nq).frozen? ⟨p, 1 + j1, none⟩ = false := f1
  have p1' := HO2.out.cx j1 hj1
  go_upto_region 5 with (fail)
  obtain ⟨W2, hW2⟩ : ∃ W2, W.drewN nq = W2 := ⟨_, rfl⟩
  rw [hW2] at r0 r1 r2 r3 r4 r5 r6 r7 HO2 HB2 f1' p1' ⊢
  clear hW2 q0 q1 q2 q3 q4 q5 q6 q7
  go_still_tail 9, (by kernel_rfl)
  go_wp2_with fail
  go_ret
  exact ⟨rfl, by rw [show xC s (j2 : Int) = a from by rw [HA.out]; rfl]; exact (CTo.start HB2.out H0.out.le (HO2.out.setX j1 hj1 _)).drew⟩
set_option maxRecDepth 100000 in
set_option maxHeartbeats 2000000 in
theorem differ_5 {w : World} {B E p : Nat} {A : Option Addr} {c bm : Nat} {s : CS} (h : COK w 69 B E p A c bm s) (x1 x2 x3 x4 x5 x6 x7 : Int) (h1 : inReg x1) (h2 : inReg x2) (h3 : inReg x3) (h4 : inReg x4) (h6 : 0 ≤ x6 ∧ x6 ≤ 3) :
    Calls Try.prog 39 #[.pointer (some ⟨p, 0, none⟩), .agg #[.int .i64 5, .int .i64 x1, .int .i64 x2, .int .i64 x3, .int .i64 x4, .int .i64 x5, .int .i64 x6, .int .i64 x7]] w fun e w' => e = .returned (.bool true) ∧ CTo w 69 B E p A c bm (setX s x1 (wrap64 (xC s x2 - x5))) w' := by
  have hu := Try.underlying61
  have hB0 := below_alloc (Below.refl w.heap.size w) (.cells #[.int .i64 5, .int .i64 x1, .int .i64 x2, .int .i64 x3, .int .i64 x4, .int .i64 x5, .int .i64 x6, .int .i64 x7] 61)
  have hblk := blk_new w (.cells #[.int .i64 5, .int .i64 x1, .int .i64 x2, .int .i64 x3, .int .i64 x4, .int .i64 x5, .int .i64 x6, .int .i64 x7] 61)
  have hO := h.below hB0
  obtain ⟨W, hW⟩ : ∃ W, w.alloc (.cells #[.int .i64 5, .int .i64 x1, .int .i64 x2, .int .i64 x3, .int .i64 x4, .int .i64 x5, .int .i64 x6, .int .i64 x7] 61) = W := ⟨_, rfl⟩
  obtain ⟨g, hg⟩ : ∃ g, w.heap.size = g := ⟨_, rfl⟩
  rw [hW] at hB0 hblk hO
  rw [hg] at hblk
  have q0 : W.cell? ⟨g, 0, none⟩ = some (.int .i64 5) := blk_cell hblk 0
  have q1 : W.cell? ⟨g, 1, none⟩ = some (.int .i64 x1) := blk_cell hblk 1
  have q2 : W.cell? ⟨g, 2, none⟩ = some (.int .i64 x2) := blk_cell hblk 2
  have q3 : W.cell? ⟨g, 3, none⟩ = some (.int .i64 x3) := blk_cell hblk 3
  have q4 : W.cell? ⟨g, 4, none⟩ = some (.int .i64 x4) := blk_cell hblk 4
  have q5 : W.cell? ⟨g, 5, none⟩ = some (.int .i64 x5) := blk_cell hblk 5
  have q6 : W.cell? ⟨g, 6, none⟩ = some (.int .i64 x6) := blk_cell hblk 6
  have q7 : W.cell? ⟨g, 7, none⟩ = some (.int .i64 x7) := blk_cell hblk 7
  have HO := Aside0.mk hO
  have HB0 := Aside0.mk hB0
  have HBK := Aside0.mk hblk
  have HW := Aside0.mk hW
  have HG := Aside0.mk hg
  have H0 := Aside0.mk h
  have H1 := Aside0.mk h1
  have H2 := Aside0.mk h2
  have H3 := Aside0.mk h3
  have H4 := Aside0.mk h4
  clear h hO hB0 hblk hW hg h1 h2 h3 h4
  have hs : IntKind.i64.wrap (16 * x6) = 16 * x6 := by rw [IntKind.wrap_i64]; omega
  have hn : 0 ≤ 16 * x6 := by omega
  have hn1 : ¬ 16 * x6 < 0 := by omega
  obtain ⟨j1, rfl⟩ := Int.eq_ofNat_of_zero_le H1.out.1
  obtain ⟨j2, rfl⟩ := Int.eq_ofNat_of_zero_le H2.out.1
  have hj1 : j1 < 32 := by have := H1.out.2; omega
  have hj2 : j2 < 32 := by have := H2.out.2; omega
  have hi1 : (j1 : Int) < 32 := by omega
  have hi2 : (j2 : Int) < 32 := by omega
  have hi3 : 0 ≤ (j1 : Int) := by omega
  have hi4 : 0 ≤ (j2 : Int) := by omega
  have p2 := HO.out.cx j2 hj2
  have f1 := HO.out.fr (1 + j1)
  obtain ⟨a, ha⟩ : ∃ a, a = s.x.getD j2 0 := ⟨_, rfl⟩
  rw [← ha] at p2
  have HA := Aside0.mk ha
  clear ha
  go_enter Try.func39, Try.ntmps39
  go_wp2_with fail
  rw [HW.out, HG.out]
  go_big_quiet (fail)
  have HB2 := Aside0.mk (below_dN0 HB0.out nq)
  have HO2 := Aside0.mk (HO.out.drewN nq)
  have r0 : (W.drewN nq).cell? ⟨g, 0, none⟩ = _ := q0
  have r1 : (W.drewN nq).cell? ⟨g, 1, none⟩ = _ := q1
  have r2 : (W.drewN nq).cell? ⟨g, 2, none⟩ = _ := q2
  have r3 : (W.drewN nq).cell? ⟨g, 3, none⟩ = _ := q3
  have r4 : (W.drewN nq).cell? ⟨g, 4, none⟩ = _ := q4
  have r5 : (W.drewN nq).cell? ⟨g, 5, none⟩ = _ := q5
  have r6 : (W.drewN nq).cell? ⟨g, 6, none⟩ = _ := q6
  have r7 : (W.drewN nq).cell? ⟨g, 7, none⟩ = _ := q7
  have f1' : (W.drewN nq).frozen? ⟨p, 1 + j1, none⟩ = false := f1
  have p1' := HO2.out.cx j1 hj1
  go_upto_region 8 with (fail)
  obtain ⟨W2, hW2⟩ : ∃ W2, W.drewN nq = W2 := ⟨_, rfl⟩
  rw [hW2] at r0 r1 r2 r3 r4 r5 r6 r7 HO2 HB2 f1' p1' ⊢
  clear hW2 q0 q1 q2 q3 q4 q5 q6 q7
  go_still_tail 9, (by kernel_rfl)
  go_wp2_with fail
  go_ret
  exact ⟨rfl, by rw [show xC s (j2 : Int) = a from by rw [HA.out]; rfl]; exact (CTo.start HB2.out H0.out.le (HO2.out.setX j1 hj1 _)).drew⟩
theorem flag_set {w : World} {T : TypeId} {B E p : Nat} {A : Option Addr} {c bm : Nat} {s : CS} (h : COK w T B E p A c bm s) (n z cc v : Bool) :
    CTo w T B E p A c bm (flagS s (n, z, cc, v)) ((((w.setCell ⟨p, 33, none⟩ (.bool n)).setCell ⟨p, 34, none⟩ (.bool z)).setCell ⟨p, 35, none⟩ (.bool cc)).setCell ⟨p, 36, none⟩ (.bool v)) :=
  ⟨(((h.setN n).setZ z).setC cc).setV v, ((((Kept.refl w _).setCell (p := ⟨p, 33, none⟩) (.inl (.inl rfl)) _).setCell (p := ⟨p, 34, none⟩) (.inl (.inl rfl)) _).setCell (p := ⟨p, 35, none⟩) (.inl (.inl rfl)) _).setCell (p := ⟨p, 36, none⟩) (.inl (.inl rfl)) _,
    ((((Below.refl B w).setCell (p := ⟨p, 33, none⟩) h.lp _).setCell (p := ⟨p, 34, none⟩) h.lp _).setCell (p := ⟨p, 35, none⟩) h.lp _).setCell (p := ⟨p, 36, none⟩) h.lp _⟩
set_option maxRecDepth 100000 in
set_option maxHeartbeats 2000000 in
theorem differ_6 {w : World} {B E p : Nat} {A : Option Addr} {c bm : Nat} {s : CS} (h : COK w 69 B E p A c bm s) (x1 x2 x3 x4 x5 x6 x7 : Int) (h1 : inReg x1) (h2 : inReg x2) (h3 : inReg x3) (h4 : inReg x4) (h6 : 0 ≤ x6 ∧ x6 ≤ 3) :
    Calls Try.prog 39 #[.pointer (some ⟨p, 0, none⟩), .agg #[.int .i64 6, .int .i64 x1, .int .i64 x2, .int .i64 x3, .int .i64 x4, .int .i64 x5, .int .i64 x6, .int .i64 x7]] w fun e w' => e = .returned (.bool true) ∧ CTo w 69 B E p A c bm (flagS (putC s x1 (lessF (xC s x2) x5).1) (lessF (xC s x2) x5).2) w' := by
  have hu := Try.underlying61
  have hB0 := below_alloc (Below.refl w.heap.size w) (.cells #[.int .i64 6, .int .i64 x1, .int .i64 x2, .int .i64 x3, .int .i64 x4, .int .i64 x5, .int .i64 x6, .int .i64 x7] 61)
  have hblk := blk_new w (.cells #[.int .i64 6, .int .i64 x1, .int .i64 x2, .int .i64 x3, .int .i64 x4, .int .i64 x5, .int .i64 x6, .int .i64 x7] 61)
  have hO := h.below hB0
  obtain ⟨W, hW⟩ : ∃ W, w.alloc (.cells #[.int .i64 6, .int .i64 x1, .int .i64 x2, .int .i64 x3, .int .i64 x4, .int .i64 x5, .int .i64 x6, .int .i64 x7] 61) = W := ⟨_, rfl⟩
  obtain ⟨g, hg⟩ : ∃ g, w.heap.size = g := ⟨_, rfl⟩
  rw [hW] at hB0 hblk hO
  rw [hg] at hblk
  have q0 : W.cell? ⟨g, 0, none⟩ = some (.int .i64 6) := blk_cell hblk 0
  have q1 : W.cell? ⟨g, 1, none⟩ = some (.int .i64 x1) := blk_cell hblk 1
  have q2 : W.cell? ⟨g, 2, none⟩ = some (.int .i64 x2) := blk_cell hblk 2
  have q3 : W.cell? ⟨g, 3, none⟩ = some (.int .i64 x3) := blk_cell hblk 3
  have q4 : W.cell? ⟨g, 4, none⟩ = some (.int .i64 x4) := blk_cell hblk 4
  have q5 : W.cell? ⟨g, 5, none⟩ = some (.int .i64 x5) := blk_cell hblk 5
  have q6 : W.cell? ⟨g, 6, none⟩ = some (.int .i64 x6) := blk_cell hblk 6
  have q7 : W.cell? ⟨g, 7, none⟩ = some (.int .i64 x7) := blk_cell hblk 7
  have HO := Aside0.mk hO
  have HB0 := Aside0.mk hB0
  have HBK := Aside0.mk hblk
  have HW := Aside0.mk hW
  have HG := Aside0.mk hg
  have H0 := Aside0.mk h
  have H1 := Aside0.mk h1
  have H2 := Aside0.mk h2
  have H3 := Aside0.mk h3
  have H4 := Aside0.mk h4
  clear h hO hB0 hblk hW hg h1 h2 h3 h4
  have hs : IntKind.i64.wrap (16 * x6) = 16 * x6 := by rw [IntKind.wrap_i64]; omega
  have hn : 0 ≤ 16 * x6 := by omega
  have hn1 : ¬ 16 * x6 < 0 := by omega
  obtain ⟨j2, rfl⟩ := Int.eq_ofNat_of_zero_le H2.out.1
  have hj2 : j2 < 32 := by have := H2.out.2; omega
  have hi2 : (j2 : Int) < 32 := by omega
  have hi4 : 0 ≤ (j2 : Int) := by omega
  have p2 := HO.out.cx j2 hj2
  obtain ⟨a, ha⟩ : ∃ a, a = s.x.getD j2 0 := ⟨_, rfl⟩
  rw [← ha] at p2
  have HA := Aside0.mk ha
  clear ha
  go_enter Try.func39, Try.ntmps39
  go_wp2_with fail
  rw [HW.out, HG.out]
  go_big_quiet (fail)
  have HB2 := Aside0.mk (below_dN0 HB0.out nq)
  obtain ⟨b2, hb2⟩ : ∃ b2, b2 = x5 := ⟨_, rfl⟩
  obtain ⟨a2, ha2⟩ : ∃ a2, a2 = a := ⟨_, rfl⟩
  rw [← hb2, ← ha2]
  have HA2 := Aside0.mk ha2
  have HB3 := Aside0.mk hb2
  clear ha2 hb2
  have hls := less_run a2 b2
  obtain ⟨F, hF⟩ : ∃ F, F = lessF a2 b2 := ⟨_, rfl⟩
  rw [← hF] at hls
  have HLS := Aside0.mk hls
  have HF := Aside0.mk hF
  clear hls hF
  have huF := Try.underlying23
  go_wp2_with fail
  refine (HLS.out _).mono ?_
  rintro e w3 ⟨rfl, hb3⟩
  have hO3 := (HO.out.drewN nq).below hb3
  have hO4 := hO3.below (below_alloc (Below.refl w3.heap.size w3) (.cells #[.bool F.2.1, .bool F.2.2.1, .bool F.2.2.2.1, .bool F.2.2.2.2] 23))
  have hB4 := Aside0.mk (below_alloc (below_step (below_dN0 HB0.out nq) hb3) (.cells #[.bool F.2.1, .bool F.2.2.1, .bool F.2.2.2.1, .bool F.2.2.2.2] 23))
  have hg4 := blk_new w3 (.cells #[.bool F.2.1, .bool F.2.2.1, .bool F.2.2.2.1, .bool F.2.2.2.2] 23)
  have hq4 := blk_below (blk_drewN HBK.out nq) hb3
  have hq5 := blk_below hq4 (below_alloc (Below.refl w3.heap.size w3) (.cells #[.bool F.2.1, .bool F.2.2.1, .bool F.2.2.2.1, .bool F.2.2.2.2] 23))
  have s1 : w3.cell? ⟨g, 1, none⟩ = some (.int .i64 x1) := blk_cell hq4 1
  have s2 := blk_cell hq5 1
  have s3 : (w3.alloc (.cells #[.bool F.2.1, .bool F.2.2.1, .bool F.2.2.2.1, .bool F.2.2.2.2] 23)).cell? ⟨g, 1, none⟩ = some (.int .i64 x1) := s2
  have HG4 := Aside0.mk hg4
  have HO4 := Aside0.mk hO4
  have hp3 : p ≠ w3.heap.size := by have := hO3.lt; omega
  have hm3 : bm ≠ w3.heap.size := by have := hO3.ltm; omega
  have HPM := Aside0.mk (And.intro hp3 hm3)
  clear hb3 hO3 hO4 hg4 hq4 hq5 hp3 hm3 s2
  go_wp2_with fail
  refine (put_run HO4.out x1 F.1 H1.out.1 H1.out.2).mono ?_
  rintro e w4 ⟨rfl, hT⟩
  have hgb := blk_kept HG4.out hT.2.1 (fun h => h.elim (fun h => HPM.out.1 h.symm) (fun h => HPM.out.2 h.symm))
  have t0 : w4.cell? ⟨w3.heap.size, 0, none⟩ = some (.bool F.2.1) := blk_cell hgb 0
  have t1 : w4.cell? ⟨w3.heap.size, 1, none⟩ = some (.bool F.2.2.1) := blk_cell hgb 1
  have t2 : w4.cell? ⟨w3.heap.size, 2, none⟩ = some (.bool F.2.2.2.1) := blk_cell hgb 2
  have t3 : w4.cell? ⟨w3.heap.size, 3, none⟩ = some (.bool F.2.2.2.2) := blk_cell hgb 3
  have u0 := hT.1.fr 33
  have u1 := hT.1.fr 34
  have u2 := hT.1.fr 35
  have u3 := hT.1.fr 36
  have v0 := hT.1.c33
  have v1 := hT.1.c34
  have v2 := hT.1.c35
  have v3 := hT.1.c36
  have HT := Aside0.mk hT
  clear hT hgb
  go_wp2_with fail
  go_ret
  exact ⟨rfl, by rw [show xC s (j2 : Int) = a2 from by rw [HA2.out, HA.out]; rfl, show x5 = b2 from HB3.out.symm, ← HF.out]; exact CTo.start hB4.out H0.out.le (HT.out.trans (flag_set HT.out.1 _ _ _ _))⟩
set_option maxRecDepth 100000 in
set_option maxHeartbeats 2000000 in
theorem differ_3 {w : World} {B E p : Nat} {A : Option Addr} {c bm : Nat} {s : CS} (h : COK w 69 B E p A c bm s) (x1 x2 x3 x4 x5 x6 x7 : Int) (h1 : inReg x1) (h2 : inReg x2) (h3 : inReg x3) (h4 : inReg x4) (h6 : 0 ≤ x6 ∧ x6 ≤ 3) :
    Calls Try.prog 39 #[.pointer (some ⟨p, 0, none⟩), .agg #[.int .i64 3, .int .i64 x1, .int .i64 x2, .int .i64 x3, .int .i64 x4, .int .i64 x5, .int .i64 x6, .int .i64 x7]] w fun e w' => e = .returned (.bool true) ∧ CTo w 69 B E p A c bm (flagS (putC s x1 (lessF (getC s x2) (getC s x3)).1) (lessF (getC s x2) (getC s x3)).2) w' := by
  have hu := Try.underlying61
  have hB0 := below_alloc (Below.refl w.heap.size w) (.cells #[.int .i64 3, .int .i64 x1, .int .i64 x2, .int .i64 x3, .int .i64 x4, .int .i64 x5, .int .i64 x6, .int .i64 x7] 61)
  have hblk := blk_new w (.cells #[.int .i64 3, .int .i64 x1, .int .i64 x2, .int .i64 x3, .int .i64 x4, .int .i64 x5, .int .i64 x6, .int .i64 x7] 61)
  have hO := h.below hB0
  obtain ⟨W, hW⟩ : ∃ W, w.alloc (.cells #[.int .i64 3, .int .i64 x1, .int .i64 x2, .int .i64 x3, .int .i64 x4, .int .i64 x5, .int .i64 x6, .int .i64 x7] 61) = W := ⟨_, rfl⟩
  obtain ⟨g, hg⟩ : ∃ g, w.heap.size = g := ⟨_, rfl⟩
  rw [hW] at hB0 hblk hO
  rw [hg] at hblk
  have q0 : W.cell? ⟨g, 0, none⟩ = some (.int .i64 3) := blk_cell hblk 0
  have q1 : W.cell? ⟨g, 1, none⟩ = some (.int .i64 x1) := blk_cell hblk 1
  have q2 : W.cell? ⟨g, 2, none⟩ = some (.int .i64 x2) := blk_cell hblk 2
  have q3 : W.cell? ⟨g, 3, none⟩ = some (.int .i64 x3) := blk_cell hblk 3
  have q4 : W.cell? ⟨g, 4, none⟩ = some (.int .i64 x4) := blk_cell hblk 4
  have q5 : W.cell? ⟨g, 5, none⟩ = some (.int .i64 x5) := blk_cell hblk 5
  have q6 : W.cell? ⟨g, 6, none⟩ = some (.int .i64 x6) := blk_cell hblk 6
  have q7 : W.cell? ⟨g, 7, none⟩ = some (.int .i64 x7) := blk_cell hblk 7
  have HO := Aside0.mk hO
  have HB0 := Aside0.mk hB0
  have HBK := Aside0.mk hblk
  have HW := Aside0.mk hW
  have HG := Aside0.mk hg
  have H0 := Aside0.mk h
  have H1 := Aside0.mk h1
  have H2 := Aside0.mk h2
  have H3 := Aside0.mk h3
  have H4 := Aside0.mk h4
  clear h hO hB0 hblk hW hg h1 h2 h3 h4
  have hs : IntKind.i64.wrap (16 * x6) = 16 * x6 := by rw [IntKind.wrap_i64]; omega
  have hn : 0 ≤ 16 * x6 := by omega
  have hn1 : ¬ 16 * x6 < 0 := by omega
  obtain ⟨j2, rfl⟩ := Int.eq_ofNat_of_zero_le H2.out.1
  have hj2 : j2 < 32 := by have := H2.out.2; omega
  have hi2 : (j2 : Int) < 32 := by omega
  have hi4 : 0 ≤ (j2 : Int) := by omega
  have p2 := HO.out.cx j2 hj2
  obtain ⟨a, ha⟩ : ∃ a, a = s.x.getD j2 0 := ⟨_, rfl⟩
  rw [← ha] at p2
  have HA := Aside0.mk ha
  clear ha
  go_enter Try.func39, Try.ntmps39
  go_wp2_with fail
  rw [HW.out, HG.out]
  go_big_quiet (fail)
  have HB2 := Aside0.mk (below_dN0 HB0.out nq)
  have HO2 := Aside0.mk (HO.out.drewN nq)
  have r0 : (W.drewN nq).cell? ⟨g, 0, none⟩ = _ := q0
  have r1 : (W.drewN nq).cell? ⟨g, 1, none⟩ = _ := q1
  have r2 : (W.drewN nq).cell? ⟨g, 2, none⟩ = _ := q2
  have r3 : (W.drewN nq).cell? ⟨g, 3, none⟩ = _ := q3
  have r4 : (W.drewN nq).cell? ⟨g, 4, none⟩ = _ := q4
  have r5 : (W.drewN nq).cell? ⟨g, 5, none⟩ = _ := q5
  have r6 : (W.drewN nq).cell? ⟨g, 6, none⟩ = _ := q6
  have r7 : (W.drewN nq).cell? ⟨g, 7, none⟩ = _ := q7
  have HBK2 := Aside0.mk (blk_drewN HBK.out nq)
  go_upto_region 11 with (fail)
  obtain ⟨W2, hW2⟩ : ∃ W2, W.drewN nq = W2 := ⟨_, rfl⟩
  rw [hW2] at r0 r1 r2 r3 r4 r5 r6 r7 HO2 HB2 HBK2 ⊢
  clear hW2 q0 q1 q2 q3 q4 q5 q6 q7
  go_big_quiet ((go_at_call 58; first | with_reducible exact Calls.quiet_of_same (get_q HO2.out _ H2.out _) | with_reducible exact Calls.quiet_of_same (get_q HO2.out _ H3.out _) | with_reducible exact Calls.quiet_of_same (get_q HO2.out _ H1.out _)))
  obtain ⟨a2, ha2⟩ : ∃ a2, a2 = getC s (j2 : Int) := ⟨_, rfl⟩
  obtain ⟨b2, hb2⟩ : ∃ b2, b2 = getC s x3 := ⟨_, rfl⟩
  rw [← ha2, ← hb2]
  have HA2 := Aside0.mk ha2
  have HB3 := Aside0.mk hb2
  clear ha2 hb2
  have hls := less_run a2 b2
  obtain ⟨F, hF⟩ : ∃ F, F = lessF a2 b2 := ⟨_, rfl⟩
  rw [← hF] at hls
  have HLS := Aside0.mk hls
  have HF := Aside0.mk hF
  clear hls hF
  have huF := Try.underlying23
  go_wp2_with fail
  refine (HLS.out _).mono ?_
  rintro e w3 ⟨rfl, hb3⟩
  have hO3 := (HO2.out.drewN nq).below hb3
  have hO4 := hO3.below (below_alloc (Below.refl w3.heap.size w3) (.cells #[.bool F.2.1, .bool F.2.2.1, .bool F.2.2.2.1, .bool F.2.2.2.2] 23))
  have hB4 := Aside0.mk (below_alloc (below_step (below_dN0 HB2.out nq) hb3) (.cells #[.bool F.2.1, .bool F.2.2.1, .bool F.2.2.2.1, .bool F.2.2.2.2] 23))
  have hg4 := blk_new w3 (.cells #[.bool F.2.1, .bool F.2.2.1, .bool F.2.2.2.1, .bool F.2.2.2.2] 23)
  have hq4 := blk_below (blk_drewN HBK2.out nq) hb3
  have hq5 := blk_below hq4 (below_alloc (Below.refl w3.heap.size w3) (.cells #[.bool F.2.1, .bool F.2.2.1, .bool F.2.2.2.1, .bool F.2.2.2.2] 23))
  have s1 : w3.cell? ⟨g, 1, none⟩ = some (.int .i64 x1) := blk_cell hq4 1
  have s2 := blk_cell hq5 1
  have s3 : (w3.alloc (.cells #[.bool F.2.1, .bool F.2.2.1, .bool F.2.2.2.1, .bool F.2.2.2.2] 23)).cell? ⟨g, 1, none⟩ = some (.int .i64 x1) := s2
  have HG4 := Aside0.mk hg4
  have HO4 := Aside0.mk hO4
  have hp3 : p ≠ w3.heap.size := by have := hO3.lt; omega
  have hm3 : bm ≠ w3.heap.size := by have := hO3.ltm; omega
  have HPM := Aside0.mk (And.intro hp3 hm3)
  clear hb3 hO3 hO4 hg4 hq4 hq5 hp3 hm3 s2
  go_wp2_with fail
  refine (put_run HO4.out x1 F.1 H1.out.1 H1.out.2).mono ?_
  rintro e w4 ⟨rfl, hT⟩
  have hgb := blk_kept HG4.out hT.2.1 (fun h => h.elim (fun h => HPM.out.1 h.symm) (fun h => HPM.out.2 h.symm))
  have t0 : w4.cell? ⟨w3.heap.size, 0, none⟩ = some (.bool F.2.1) := blk_cell hgb 0
  have t1 : w4.cell? ⟨w3.heap.size, 1, none⟩ = some (.bool F.2.2.1) := blk_cell hgb 1
  have t2 : w4.cell? ⟨w3.heap.size, 2, none⟩ = some (.bool F.2.2.2.1) := blk_cell hgb 2
  have t3 : w4.cell? ⟨w3.heap.size, 3, none⟩ = some (.bool F.2.2.2.2) := blk_cell hgb 3
  have u0 := hT.1.fr 33
  have u1 := hT.1.fr 34
  have u2 := hT.1.fr 35
  have u3 := hT.1.fr 36
  have v0 := hT.1.c33
  have v1 := hT.1.c34
  have v2 := hT.1.c35
  have v3 := hT.1.c36
  have HT := Aside0.mk hT
  clear hT hgb
  go_wp2_with fail
  go_ret
  exact ⟨rfl, by rw [← HA2.out, ← HB3.out, ← HF.out]; exact CTo.start hB4.out H0.out.le (HT.out.trans (flag_set HT.out.1 _ _ _ _))⟩
set_option maxRecDepth 100000 in
set_option maxHeartbeats 2000000 in
theorem differ_no (x0 : Int) (o3 : ¬ x0 = 3) (o4 : ¬ x0 = 4) (o5 : ¬ x0 = 5) (o6 : ¬ x0 = 6) {w : World} {B E p : Nat} {A : Option Addr} {c bm : Nat} {s : CS} (h : COK w 69 B E p A c bm s) (x1 x2 x3 x4 x5 x6 x7 : Int) (h1 : inReg x1) (h2 : inReg x2) (h3 : inReg x3) (h4 : inReg x4) (h6 : 0 ≤ x6 ∧ x6 ≤ 3) :
    Calls Try.prog 39 #[.pointer (some ⟨p, 0, none⟩), .agg #[.int .i64 x0, .int .i64 x1, .int .i64 x2, .int .i64 x3, .int .i64 x4, .int .i64 x5, .int .i64 x6, .int .i64 x7]] w fun e w' => e = .returned (.bool false) ∧ Below w.heap.size w w' := by
  have hu := Try.underlying61
  have hB0 := below_alloc (Below.refl w.heap.size w) (.cells #[.int .i64 x0, .int .i64 x1, .int .i64 x2, .int .i64 x3, .int .i64 x4, .int .i64 x5, .int .i64 x6, .int .i64 x7] 61)
  have hblk := blk_new w (.cells #[.int .i64 x0, .int .i64 x1, .int .i64 x2, .int .i64 x3, .int .i64 x4, .int .i64 x5, .int .i64 x6, .int .i64 x7] 61)
  have hO := h.below hB0
  obtain ⟨W, hW⟩ : ∃ W, w.alloc (.cells #[.int .i64 x0, .int .i64 x1, .int .i64 x2, .int .i64 x3, .int .i64 x4, .int .i64 x5, .int .i64 x6, .int .i64 x7] 61) = W := ⟨_, rfl⟩
  obtain ⟨g, hg⟩ : ∃ g, w.heap.size = g := ⟨_, rfl⟩
  rw [hW] at hB0 hblk hO
  rw [hg] at hblk
  have q0 : W.cell? ⟨g, 0, none⟩ = some (.int .i64 x0) := blk_cell hblk 0
  have q1 : W.cell? ⟨g, 1, none⟩ = some (.int .i64 x1) := blk_cell hblk 1
  have q2 : W.cell? ⟨g, 2, none⟩ = some (.int .i64 x2) := blk_cell hblk 2
  have q3 : W.cell? ⟨g, 3, none⟩ = some (.int .i64 x3) := blk_cell hblk 3
  have q4 : W.cell? ⟨g, 4, none⟩ = some (.int .i64 x4) := blk_cell hblk 4
  have q5 : W.cell? ⟨g, 5, none⟩ = some (.int .i64 x5) := blk_cell hblk 5
  have q6 : W.cell? ⟨g, 6, none⟩ = some (.int .i64 x6) := blk_cell hblk 6
  have q7 : W.cell? ⟨g, 7, none⟩ = some (.int .i64 x7) := blk_cell hblk 7
  have HO := Aside0.mk hO
  have HB0 := Aside0.mk hB0
  have HBK := Aside0.mk hblk
  have HW := Aside0.mk hW
  have HG := Aside0.mk hg
  have H0 := Aside0.mk h
  have H1 := Aside0.mk h1
  have H2 := Aside0.mk h2
  have H3 := Aside0.mk h3
  have H4 := Aside0.mk h4
  clear h hO hB0 hblk hW hg h1 h2 h3 h4
  have hs : IntKind.i64.wrap (16 * x6) = 16 * x6 := by rw [IntKind.wrap_i64]; omega
  have hn : 0 ≤ 16 * x6 := by omega
  have hn1 : ¬ 16 * x6 < 0 := by omega
  obtain ⟨j2, rfl⟩ := Int.eq_ofNat_of_zero_le H2.out.1
  have hj2 : j2 < 32 := by have := H2.out.2; omega
  have hi2 : (j2 : Int) < 32 := by omega
  have hi4 : 0 ≤ (j2 : Int) := by omega
  have p2 := HO.out.cx j2 hj2
  obtain ⟨a, ha⟩ : ∃ a, a = s.x.getD j2 0 := ⟨_, rfl⟩
  rw [← ha] at p2
  have HA := Aside0.mk ha
  clear ha
  have c3 : (x0 == 3) = false := by simpa using o3
  have c4 : (x0 == 4) = false := by simpa using o4
  have c5 : (x0 == 5) = false := by simpa using o5
  have c6 : (x0 == 6) = false := by simpa using o6
  go_enter Try.func39, Try.ntmps39
  go_wp2_with fail
  rw [HW.out, HG.out]
  go_big_quiet (fail)
  have HB2 := Aside0.mk (below_dN0 HB0.out nq)
  go_wp2_with fail
  go_ret
  exact ⟨rfl, HB2.out⟩
set_option maxRecDepth 100000 in
set_option maxHeartbeats 2000000 in
theorem mem_20 {w : World} {B E p : Nat} {A : Option Addr} {c bm : Nat} {s : CS} (h : COK w 69 B E p A c bm s) (x1 x2 x3 x4 x5 x6 x7 : Int) (h1 : inReg x1) (h2 : inReg x2) (h3 : inReg x3) (h4 : inReg x4) (h6 : 0 ≤ x6 ∧ x6 ≤ 3) :
    Calls Try.prog 38 #[.pointer (some ⟨p, 0, none⟩), .agg #[.int .i64 20, .int .i64 x1, .int .i64 x2, .int .i64 x3, .int .i64 x4, .int .i64 x5, .int .i64 x6, .int .i64 x7]] w fun e w' => e = .returned (.bool (mayM s (wrap64 (xC s x2 + wrap64 (8 * x5))))) ∧ CTo w 69 B E p A c bm (wrM s (wrap64 (xC s x2 + wrap64 (8 * x5))) (getC s x1)) w' := by
  have hu := Try.underlying61
  have hB0 := below_alloc (Below.refl w.heap.size w) (.cells #[.int .i64 20, .int .i64 x1, .int .i64 x2, .int .i64 x3, .int .i64 x4, .int .i64 x5, .int .i64 x6, .int .i64 x7] 61)
  have hblk := blk_new w (.cells #[.int .i64 20, .int .i64 x1, .int .i64 x2, .int .i64 x3, .int .i64 x4, .int .i64 x5, .int .i64 x6, .int .i64 x7] 61)
  have hO := h.below hB0
  obtain ⟨W, hW⟩ : ∃ W, w.alloc (.cells #[.int .i64 20, .int .i64 x1, .int .i64 x2, .int .i64 x3, .int .i64 x4, .int .i64 x5, .int .i64 x6, .int .i64 x7] 61) = W := ⟨_, rfl⟩
  obtain ⟨g, hg⟩ : ∃ g, w.heap.size = g := ⟨_, rfl⟩
  rw [hW] at hB0 hblk hO
  rw [hg] at hblk
  have q0 : W.cell? ⟨g, 0, none⟩ = some (.int .i64 20) := blk_cell hblk 0
  have q1 : W.cell? ⟨g, 1, none⟩ = some (.int .i64 x1) := blk_cell hblk 1
  have q2 : W.cell? ⟨g, 2, none⟩ = some (.int .i64 x2) := blk_cell hblk 2
  have q3 : W.cell? ⟨g, 3, none⟩ = some (.int .i64 x3) := blk_cell hblk 3
  have q4 : W.cell? ⟨g, 4, none⟩ = some (.int .i64 x4) := blk_cell hblk 4
  have q5 : W.cell? ⟨g, 5, none⟩ = some (.int .i64 x5) := blk_cell hblk 5
  have q6 : W.cell? ⟨g, 6, none⟩ = some (.int .i64 x6) := blk_cell hblk 6
  have q7 : W.cell? ⟨g, 7, none⟩ = some (.int .i64 x7) := blk_cell hblk 7
  have HO := Aside0.mk hO
  have HB0 := Aside0.mk hB0
  have HBK := Aside0.mk hblk
  have HW := Aside0.mk hW
  have HG := Aside0.mk hg
  have H0 := Aside0.mk h
  have H1 := Aside0.mk h1
  have H2 := Aside0.mk h2
  have H3 := Aside0.mk h3
  have H4 := Aside0.mk h4
  clear h hO hB0 hblk hW hg h1 h2 h3 h4
  have hs : IntKind.i64.wrap (16 * x6) = 16 * x6 := by rw [IntKind.wrap_i64]; omega
  have hn : 0 ≤ 16 * x6 := by omega
  have hn1 : ¬ 16 * x6 < 0 := by omega
  obtain ⟨j2, rfl⟩ := Int.eq_ofNat_of_zero_le H2.out.1
  have hj2 : j2 < 32 := by have := H2.out.2; omega
  have hi2 : (j2 : Int) < 32 := by omega
  have hi4 : 0 ≤ (j2 : Int) := by omega
  have p2 := HO.out.cx j2 hj2
  obtain ⟨a, ha⟩ : ∃ a, a = s.x.getD j2 0 := ⟨_, rfl⟩
  rw [← ha] at p2
  have HA := Aside0.mk ha
  clear ha
  go_enter Try.func38, Try.ntmps38
  go_wp2_with fail
  rw [HW.out, HG.out]
  go_big_quiet (fail)
  have HB2 := Aside0.mk (below_dN0 HB0.out nq)
  obtain ⟨ad, had⟩ : ∃ ad, ad = wrap64 (a + wrap64 (8 * x5)) := ⟨_, rfl⟩
  have HAD := Aside0.mk had
  rw [← had]
  clear had
  go_wp2_with fail
  refine (get_run (HO.out.drewN nq) x1 H1.out.1 H1.out.2).mono ?_
  rintro e w2 ⟨rfl, rfl⟩
  go_wp2_with fail
  refine (write_run (HO.out.drewN nq) ad (getC s x1)).mono ?_
  rintro e w3 ⟨rfl, hT⟩
  have HT := Aside0.mk hT
  clear hT
  go_wp2_with fail
  go_ret
  exact ⟨by rw [show xC s (j2 : Int) = a from by rw [HA.out]; rfl, ← HAD.out]; rfl, by rw [show xC s (j2 : Int) = a from by rw [HA.out]; rfl, ← HAD.out]; exact CTo.start HB2.out H0.out.le HT.out⟩
set_option maxRecDepth 100000 in
set_option maxHeartbeats 2000000 in
theorem mem_19 {w : World} {B E p : Nat} {A : Option Addr} {c bm : Nat} {s : CS} (h : COK w 69 B E p A c bm s) (x1 x2 x3 x4 x5 x6 x7 : Int) (h1 : inReg x1) (h2 : inReg x2) (h3 : inReg x3) (h4 : inReg x4) (h6 : 0 ≤ x6 ∧ x6 ≤ 3) (hok : okB s.m) :
    Calls Try.prog 38 #[.pointer (some ⟨p, 0, none⟩), .agg #[.int .i64 19, .int .i64 x1, .int .i64 x2, .int .i64 x3, .int .i64 x4, .int .i64 x5, .int .i64 x6, .int .i64 x7]] w fun e w' => e = .returned (.bool (mayM s (wrap64 (xC s x2 + wrap64 (8 * x5))))) ∧ CTo w 69 B E p A c bm (ldS s x1 (wrap64 (xC s x2 + wrap64 (8 * x5)))) w' := by
  have hu := Try.underlying61
  have hB0 := below_alloc (Below.refl w.heap.size w) (.cells #[.int .i64 19, .int .i64 x1, .int .i64 x2, .int .i64 x3, .int .i64 x4, .int .i64 x5, .int .i64 x6, .int .i64 x7] 61)
  have hblk := blk_new w (.cells #[.int .i64 19, .int .i64 x1, .int .i64 x2, .int .i64 x3, .int .i64 x4, .int .i64 x5, .int .i64 x6, .int .i64 x7] 61)
  have hO := h.below hB0
  obtain ⟨W, hW⟩ : ∃ W, w.alloc (.cells #[.int .i64 19, .int .i64 x1, .int .i64 x2, .int .i64 x3, .int .i64 x4, .int .i64 x5, .int .i64 x6, .int .i64 x7] 61) = W := ⟨_, rfl⟩
  obtain ⟨g, hg⟩ : ∃ g, w.heap.size = g := ⟨_, rfl⟩
  rw [hW] at hB0 hblk hO
  rw [hg] at hblk
  have q0 : W.cell? ⟨g, 0, none⟩ = some (.int .i64 19) := blk_cell hblk 0
  have q1 : W.cell? ⟨g, 1, none⟩ = some (.int .i64 x1) := blk_cell hblk 1
  have q2 : W.cell? ⟨g, 2, none⟩ = some (.int .i64 x2) := blk_cell hblk 2
  have q3 : W.cell? ⟨g, 3, none⟩ = some (.int .i64 x3) := blk_cell hblk 3
  have q4 : W.cell? ⟨g, 4, none⟩ = some (.int .i64 x4) := blk_cell hblk 4
  have q5 : W.cell? ⟨g, 5, none⟩ = some (.int .i64 x5) := blk_cell hblk 5
  have q6 : W.cell? ⟨g, 6, none⟩ = some (.int .i64 x6) := blk_cell hblk 6
  have q7 : W.cell? ⟨g, 7, none⟩ = some (.int .i64 x7) := blk_cell hblk 7
  have HO := Aside0.mk hO
  have HB0 := Aside0.mk hB0
  have HBK := Aside0.mk hblk
  have HW := Aside0.mk hW
  have HG := Aside0.mk hg
  have H0 := Aside0.mk h
  have H1 := Aside0.mk h1
  have H2 := Aside0.mk h2
  have H3 := Aside0.mk h3
  have H4 := Aside0.mk h4
  clear h hO hB0 hblk hW hg h1 h2 h3 h4
  have hs : IntKind.i64.wrap (16 * x6) = 16 * x6 := by rw [IntKind.wrap_i64]; omega
  have hn : 0 ≤ 16 * x6 := by omega
  have hn1 : ¬ 16 * x6 < 0 := by omega
  obtain ⟨j2, rfl⟩ := Int.eq_ofNat_of_zero_le H2.out.1
  have hj2 : j2 < 32 := by have := H2.out.2; omega
  have hi2 : (j2 : Int) < 32 := by omega
  have hi4 : 0 ≤ (j2 : Int) := by omega
  have p2 := HO.out.cx j2 hj2
  obtain ⟨a, ha⟩ : ∃ a, a = s.x.getD j2 0 := ⟨_, rfl⟩
  rw [← ha] at p2
  have HA := Aside0.mk ha
  clear ha
  go_enter Try.func38, Try.ntmps38
  go_wp2_with fail
  rw [HW.out, HG.out]
  go_big_quiet (fail)
  have HB2 := Aside0.mk (below_dN0 HB0.out nq)
  obtain ⟨ad, had⟩ : ∃ ad, ad = wrap64 (a + wrap64 (8 * x5)) := ⟨_, rfl⟩
  have HAD := Aside0.mk had
  rw [← had]
  clear had
  have hrd := read_run (HO.out.drewN nq) hok ad
  obtain ⟨v, hv⟩ : ∃ v, v = rdM s ad := ⟨_, rfl⟩
  obtain ⟨mm, hmm⟩ : ∃ mm, mm = mayM s ad := ⟨_, rfl⟩
  rw [← hv, ← hmm] at hrd
  have HV := Aside0.mk hv
  have HM := Aside0.mk hmm
  have HRD := Aside0.mk hrd
  clear hrd hv hmm hok
  go_wp2_with fail
  refine HRD.out.mono ?_
  rintro e w2 ⟨rfl, rfl⟩
  cases mm
  · go_wp2_with fail
    go_ret
    exact ⟨by rw [show xC s (j2 : Int) = a from by rw [HA.out]; rfl, ← HAD.out, ← HM.out]; rfl, by rw [show xC s (j2 : Int) = a from by rw [HA.out]; rfl, ← HAD.out]; unfold ldS; rw [← HM.out, if_neg (by simp)]; exact CTo.start HB2.out H0.out.le (CTo.refl (HO.out.drewN nq))⟩
  go_wp2_with fail
  refine (put_run (HO.out.drewN nq) x1 v H1.out.1 H1.out.2).mono ?_
  rintro e w3 ⟨rfl, hT⟩
  have HT := Aside0.mk hT
  clear hT
  go_wp2_with fail
  go_ret
  exact ⟨by rw [show xC s (j2 : Int) = a from by rw [HA.out]; rfl, ← HAD.out, ← HM.out]; rfl, by rw [show xC s (j2 : Int) = a from by rw [HA.out]; rfl, ← HAD.out]; unfold ldS; rw [← HM.out, if_pos rfl, ← HV.out]; exact CTo.start HB2.out H0.out.le HT.out⟩
set_option maxRecDepth 100000 in
set_option maxHeartbeats 2000000 in
theorem goal_23 {w : World} {B E p : Nat} {A : Option Addr} {c bm : Nat} {s : CS} (h : COK w 69 B E p A c bm s) (x1 x2 x3 x4 x5 x6 x7 : Int) (h1 : inReg x1) (h2 : inReg x2) (h3 : inReg x3) (h4 : inReg x4) (h6 : 0 ≤ x6 ∧ x6 ≤ 3) :
    Calls Try.prog 37 #[.pointer (some ⟨p, 0, none⟩), .agg #[.int .i64 23, .int .i64 x1, .int .i64 x2, .int .i64 x3, .int .i64 x4, .int .i64 x5, .int .i64 x6, .int .i64 x7]] w fun e w' => e = .returned (.tuple #[.int .i64 (wrap64 (s.pl + x5)), .bool true]) ∧ Below w.heap.size w w' := by
  have hu := Try.underlying61
  have hB0 := below_alloc (Below.refl w.heap.size w) (.cells #[.int .i64 23, .int .i64 x1, .int .i64 x2, .int .i64 x3, .int .i64 x4, .int .i64 x5, .int .i64 x6, .int .i64 x7] 61)
  have hblk := blk_new w (.cells #[.int .i64 23, .int .i64 x1, .int .i64 x2, .int .i64 x3, .int .i64 x4, .int .i64 x5, .int .i64 x6, .int .i64 x7] 61)
  have hO := h.below hB0
  obtain ⟨W, hW⟩ : ∃ W, w.alloc (.cells #[.int .i64 23, .int .i64 x1, .int .i64 x2, .int .i64 x3, .int .i64 x4, .int .i64 x5, .int .i64 x6, .int .i64 x7] 61) = W := ⟨_, rfl⟩
  obtain ⟨g, hg⟩ : ∃ g, w.heap.size = g := ⟨_, rfl⟩
  rw [hW] at hB0 hblk hO
  rw [hg] at hblk
  have q0 : W.cell? ⟨g, 0, none⟩ = some (.int .i64 23) := blk_cell hblk 0
  have q1 : W.cell? ⟨g, 1, none⟩ = some (.int .i64 x1) := blk_cell hblk 1
  have q2 : W.cell? ⟨g, 2, none⟩ = some (.int .i64 x2) := blk_cell hblk 2
  have q3 : W.cell? ⟨g, 3, none⟩ = some (.int .i64 x3) := blk_cell hblk 3
  have q4 : W.cell? ⟨g, 4, none⟩ = some (.int .i64 x4) := blk_cell hblk 4
  have q5 : W.cell? ⟨g, 5, none⟩ = some (.int .i64 x5) := blk_cell hblk 5
  have q6 : W.cell? ⟨g, 6, none⟩ = some (.int .i64 x6) := blk_cell hblk 6
  have q7 : W.cell? ⟨g, 7, none⟩ = some (.int .i64 x7) := blk_cell hblk 7
  have HO := Aside0.mk hO
  have HB0 := Aside0.mk hB0
  have HBK := Aside0.mk hblk
  have HW := Aside0.mk hW
  have HG := Aside0.mk hg
  have H0 := Aside0.mk h
  have H1 := Aside0.mk h1
  have H2 := Aside0.mk h2
  have H3 := Aside0.mk h3
  have H4 := Aside0.mk h4
  clear h hO hB0 hblk hW hg h1 h2 h3 h4
  have hs : IntKind.i64.wrap (16 * x6) = 16 * x6 := by rw [IntKind.wrap_i64]; omega
  have hn : 0 ≤ 16 * x6 := by omega
  have hn1 : ¬ 16 * x6 < 0 := by omega
  have h37 := HO.out.c37
  obtain ⟨pl, hpl⟩ : ∃ pl, pl = s.pl := ⟨_, rfl⟩
  rw [← hpl] at h37
  try rw [← hpl]
  have HPL := Aside0.mk hpl
  clear hpl
  have wp1 : IntKind.i64.wrap (pl + x5) = wrap64 (pl + x5) := by rw [IntKind.wrap_i64]; unfold wrap64; omega
  have wp2 : IntKind.i64.wrap (pl + 1) = wrap64 (pl + 1) := by rw [IntKind.wrap_i64]; unfold wrap64; omega
  go_enter Try.func37, Try.ntmps37
  go_wp2_with fail
  rw [HW.out, HG.out]
  go_big_quiet (fail)
  go_wp2_with fail
  go_ret2
  exact ⟨rfl, below_dN0 HB0.out nq⟩
set_option maxRecDepth 100000 in
set_option maxHeartbeats 2000000 in
theorem goal_24 {w : World} {B E p : Nat} {A : Option Addr} {c bm : Nat} {s : CS} (h : COK w 69 B E p A c bm s) (x1 x2 x3 x4 x5 x6 x7 : Int) (h1 : inReg x1) (h2 : inReg x2) (h3 : inReg x3) (h4 : inReg x4) (h6 : 0 ≤ x6 ∧ x6 ≤ 3) :
    Calls Try.prog 37 #[.pointer (some ⟨p, 0, none⟩), .agg #[.int .i64 24, .int .i64 x1, .int .i64 x2, .int .i64 x3, .int .i64 x4, .int .i64 x5, .int .i64 x6, .int .i64 x7]] w fun e w' => e = .returned (.tuple #[.int .i64 (wrap64 (s.pl + x5)), .bool true]) ∧ Below w.heap.size w w' := by
  have hu := Try.underlying61
  have hB0 := below_alloc (Below.refl w.heap.size w) (.cells #[.int .i64 24, .int .i64 x1, .int .i64 x2, .int .i64 x3, .int .i64 x4, .int .i64 x5, .int .i64 x6, .int .i64 x7] 61)
  have hblk := blk_new w (.cells #[.int .i64 24, .int .i64 x1, .int .i64 x2, .int .i64 x3, .int .i64 x4, .int .i64 x5, .int .i64 x6, .int .i64 x7] 61)
  have hO := h.below hB0
  obtain ⟨W, hW⟩ : ∃ W, w.alloc (.cells #[.int .i64 24, .int .i64 x1, .int .i64 x2, .int .i64 x3, .int .i64 x4, .int .i64 x5, .int .i64 x6, .int .i64 x7] 61) = W := ⟨_, rfl⟩
  obtain ⟨g, hg⟩ : ∃ g, w.heap.size = g := ⟨_, rfl⟩
  rw [hW] at hB0 hblk hO
  rw [hg] at hblk
  have q0 : W.cell? ⟨g, 0, none⟩ = some (.int .i64 24) := blk_cell hblk 0
  have q1 : W.cell? ⟨g, 1, none⟩ = some (.int .i64 x1) := blk_cell hblk 1
  have q2 : W.cell? ⟨g, 2, none⟩ = some (.int .i64 x2) := blk_cell hblk 2
  have q3 : W.cell? ⟨g, 3, none⟩ = some (.int .i64 x3) := blk_cell hblk 3
  have q4 : W.cell? ⟨g, 4, none⟩ = some (.int .i64 x4) := blk_cell hblk 4
  have q5 : W.cell? ⟨g, 5, none⟩ = some (.int .i64 x5) := blk_cell hblk 5
  have q6 : W.cell? ⟨g, 6, none⟩ = some (.int .i64 x6) := blk_cell hblk 6
  have q7 : W.cell? ⟨g, 7, none⟩ = some (.int .i64 x7) := blk_cell hblk 7
  have HO := Aside0.mk hO
  have HB0 := Aside0.mk hB0
  have HBK := Aside0.mk hblk
  have HW := Aside0.mk hW
  have HG := Aside0.mk hg
  have H0 := Aside0.mk h
  have H1 := Aside0.mk h1
  have H2 := Aside0.mk h2
  have H3 := Aside0.mk h3
  have H4 := Aside0.mk h4
  clear h hO hB0 hblk hW hg h1 h2 h3 h4
  have hs : IntKind.i64.wrap (16 * x6) = 16 * x6 := by rw [IntKind.wrap_i64]; omega
  have hn : 0 ≤ 16 * x6 := by omega
  have hn1 : ¬ 16 * x6 < 0 := by omega
  have h37 := HO.out.c37
  obtain ⟨pl, hpl⟩ : ∃ pl, pl = s.pl := ⟨_, rfl⟩
  rw [← hpl] at h37
  try rw [← hpl]
  have HPL := Aside0.mk hpl
  clear hpl
  have wp1 : IntKind.i64.wrap (pl + x5) = wrap64 (pl + x5) := by rw [IntKind.wrap_i64]; unfold wrap64; omega
  have wp2 : IntKind.i64.wrap (pl + 1) = wrap64 (pl + 1) := by rw [IntKind.wrap_i64]; unfold wrap64; omega
  go_enter Try.func37, Try.ntmps37
  go_wp2_with fail
  rw [HW.out, HG.out]
  go_big_quiet (fail)
  go_wp2_with fail
  go_ret2
  exact ⟨rfl, below_dN0 HB0.out nq⟩
set_option maxRecDepth 100000 in
set_option maxHeartbeats 2000000 in
theorem goal_26t {w : World} {B E p : Nat} {A : Option Addr} {c bm : Nat} {s : CS} (h : COK w 69 B E p A c bm s) (x1 x2 x3 x4 x5 x6 x7 : Int) (h1 : inReg x1) (h2 : inReg x2) (h3 : inReg x3) (h4 : inReg x4) (h6 : 0 ≤ x6 ∧ x6 ≤ 3) (h8 : getC s x1 = 0) :
    Calls Try.prog 37 #[.pointer (some ⟨p, 0, none⟩), .agg #[.int .i64 26, .int .i64 x1, .int .i64 x2, .int .i64 x3, .int .i64 x4, .int .i64 x5, .int .i64 x6, .int .i64 x7]] w fun e w' => e = .returned (.tuple #[.int .i64 (wrap64 (s.pl + x5)), .bool true]) ∧ Below w.heap.size w w' := by
  have hu := Try.underlying61
  have hB0 := below_alloc (Below.refl w.heap.size w) (.cells #[.int .i64 26, .int .i64 x1, .int .i64 x2, .int .i64 x3, .int .i64 x4, .int .i64 x5, .int .i64 x6, .int .i64 x7] 61)
  have hblk := blk_new w (.cells #[.int .i64 26, .int .i64 x1, .int .i64 x2, .int .i64 x3, .int .i64 x4, .int .i64 x5, .int .i64 x6, .int .i64 x7] 61)
  have hO := h.below hB0
  obtain ⟨W, hW⟩ : ∃ W, w.alloc (.cells #[.int .i64 26, .int .i64 x1, .int .i64 x2, .int .i64 x3, .int .i64 x4, .int .i64 x5, .int .i64 x6, .int .i64 x7] 61) = W := ⟨_, rfl⟩
  obtain ⟨g, hg⟩ : ∃ g, w.heap.size = g := ⟨_, rfl⟩
  rw [hW] at hB0 hblk hO
  rw [hg] at hblk
  have q0 : W.cell? ⟨g, 0, none⟩ = some (.int .i64 26) := blk_cell hblk 0
  have q1 : W.cell? ⟨g, 1, none⟩ = some (.int .i64 x1) := blk_cell hblk 1
  have q2 : W.cell? ⟨g, 2, none⟩ = some (.int .i64 x2) := blk_cell hblk 2
  have q3 : W.cell? ⟨g, 3, none⟩ = some (.int .i64 x3) := blk_cell hblk 3
  have q4 : W.cell? ⟨g, 4, none⟩ = some (.int .i64 x4) := blk_cell hblk 4
  have q5 : W.cell? ⟨g, 5, none⟩ = some (.int .i64 x5) := blk_cell hblk 5
  have q6 : W.cell? ⟨g, 6, none⟩ = some (.int .i64 x6) := blk_cell hblk 6
  have q7 : W.cell? ⟨g, 7, none⟩ = some (.int .i64 x7) := blk_cell hblk 7
  have HO := Aside0.mk hO
  have HB0 := Aside0.mk hB0
  have HBK := Aside0.mk hblk
  have HW := Aside0.mk hW
  have HG := Aside0.mk hg
  have H0 := Aside0.mk h
  have H1 := Aside0.mk h1
  have H2 := Aside0.mk h2
  have H3 := Aside0.mk h3
  have H4 := Aside0.mk h4
  clear h hO hB0 hblk hW hg h1 h2 h3 h4
  have hs : IntKind.i64.wrap (16 * x6) = 16 * x6 := by rw [IntKind.wrap_i64]; omega
  have hn : 0 ≤ 16 * x6 := by omega
  have hn1 : ¬ 16 * x6 < 0 := by omega
  have h37 := HO.out.c37
  obtain ⟨pl, hpl⟩ : ∃ pl, pl = s.pl := ⟨_, rfl⟩
  rw [← hpl] at h37
  try rw [← hpl]
  have HPL := Aside0.mk hpl
  clear hpl
  have wp1 : IntKind.i64.wrap (pl + x5) = wrap64 (pl + x5) := by rw [IntKind.wrap_i64]; unfold wrap64; omega
  have wp2 : IntKind.i64.wrap (pl + 1) = wrap64 (pl + 1) := by rw [IntKind.wrap_i64]; unfold wrap64; omega
  go_enter Try.func37, Try.ntmps37
  go_wp2_with fail
  rw [HW.out, HG.out]
  refine (get_run HO.out x1 H1.out.1 H1.out.2).mono ?_
  rintro e w2 ⟨rfl, rfl⟩
  obtain ⟨v, hv⟩ : ∃ v, v = getC s x1 := ⟨_, rfl⟩
  rw [← hv] at h8 ⊢
  have e8 : (v == 0) = true := by simpa using h8
  have n8 : (v != 0) = false := by simpa using h8
  clear hv h8
  go_wp2_with fail
  go_big_quiet (fail)
  go_wp2_with fail
  go_ret2
  exact ⟨rfl, below_dN0 HB0.out nq⟩
set_option maxRecDepth 100000 in
set_option maxHeartbeats 2000000 in
theorem goal_26f {w : World} {B E p : Nat} {A : Option Addr} {c bm : Nat} {s : CS} (h : COK w 69 B E p A c bm s) (x1 x2 x3 x4 x5 x6 x7 : Int) (h1 : inReg x1) (h2 : inReg x2) (h3 : inReg x3) (h4 : inReg x4) (h6 : 0 ≤ x6 ∧ x6 ≤ 3) (h8 : ¬ getC s x1 = 0) :
    Calls Try.prog 37 #[.pointer (some ⟨p, 0, none⟩), .agg #[.int .i64 26, .int .i64 x1, .int .i64 x2, .int .i64 x3, .int .i64 x4, .int .i64 x5, .int .i64 x6, .int .i64 x7]] w fun e w' => e = .returned (.tuple #[.int .i64 (wrap64 (s.pl + 1)), .bool true]) ∧ Below w.heap.size w w' := by
  have hu := Try.underlying61
  have hB0 := below_alloc (Below.refl w.heap.size w) (.cells #[.int .i64 26, .int .i64 x1, .int .i64 x2, .int .i64 x3, .int .i64 x4, .int .i64 x5, .int .i64 x6, .int .i64 x7] 61)
  have hblk := blk_new w (.cells #[.int .i64 26, .int .i64 x1, .int .i64 x2, .int .i64 x3, .int .i64 x4, .int .i64 x5, .int .i64 x6, .int .i64 x7] 61)
  have hO := h.below hB0
  obtain ⟨W, hW⟩ : ∃ W, w.alloc (.cells #[.int .i64 26, .int .i64 x1, .int .i64 x2, .int .i64 x3, .int .i64 x4, .int .i64 x5, .int .i64 x6, .int .i64 x7] 61) = W := ⟨_, rfl⟩
  obtain ⟨g, hg⟩ : ∃ g, w.heap.size = g := ⟨_, rfl⟩
  rw [hW] at hB0 hblk hO
  rw [hg] at hblk
  have q0 : W.cell? ⟨g, 0, none⟩ = some (.int .i64 26) := blk_cell hblk 0
  have q1 : W.cell? ⟨g, 1, none⟩ = some (.int .i64 x1) := blk_cell hblk 1
  have q2 : W.cell? ⟨g, 2, none⟩ = some (.int .i64 x2) := blk_cell hblk 2
  have q3 : W.cell? ⟨g, 3, none⟩ = some (.int .i64 x3) := blk_cell hblk 3
  have q4 : W.cell? ⟨g, 4, none⟩ = some (.int .i64 x4) := blk_cell hblk 4
  have q5 : W.cell? ⟨g, 5, none⟩ = some (.int .i64 x5) := blk_cell hblk 5
  have q6 : W.cell? ⟨g, 6, none⟩ = some (.int .i64 x6) := blk_cell hblk 6
  have q7 : W.cell? ⟨g, 7, none⟩ = some (.int .i64 x7) := blk_cell hblk 7
  have HO := Aside0.mk hO
  have HB0 := Aside0.mk hB0
  have HBK := Aside0.mk hblk
  have HW := Aside0.mk hW
  have HG := Aside0.mk hg
  have H0 := Aside0.mk h
  have H1 := Aside0.mk h1
  have H2 := Aside0.mk h2
  have H3 := Aside0.mk h3
  have H4 := Aside0.mk h4
  clear h hO hB0 hblk hW hg h1 h2 h3 h4
  have hs : IntKind.i64.wrap (16 * x6) = 16 * x6 := by rw [IntKind.wrap_i64]; omega
  have hn : 0 ≤ 16 * x6 := by omega
  have hn1 : ¬ 16 * x6 < 0 := by omega
  have h37 := HO.out.c37
  obtain ⟨pl, hpl⟩ : ∃ pl, pl = s.pl := ⟨_, rfl⟩
  rw [← hpl] at h37
  try rw [← hpl]
  have HPL := Aside0.mk hpl
  clear hpl
  have wp1 : IntKind.i64.wrap (pl + x5) = wrap64 (pl + x5) := by rw [IntKind.wrap_i64]; unfold wrap64; omega
  have wp2 : IntKind.i64.wrap (pl + 1) = wrap64 (pl + 1) := by rw [IntKind.wrap_i64]; unfold wrap64; omega
  go_enter Try.func37, Try.ntmps37
  go_wp2_with fail
  rw [HW.out, HG.out]
  refine (get_run HO.out x1 H1.out.1 H1.out.2).mono ?_
  rintro e w2 ⟨rfl, rfl⟩
  obtain ⟨v, hv⟩ : ∃ v, v = getC s x1 := ⟨_, rfl⟩
  rw [← hv] at h8 ⊢
  have e8 : (v == 0) = false := by simpa using h8
  have n8 : (v != 0) = true := by simpa using h8
  clear hv h8
  go_wp2_with fail

  go_ret2
  exact ⟨rfl, HB0.out⟩
set_option maxRecDepth 100000 in
set_option maxHeartbeats 2000000 in
theorem goal_27t {w : World} {B E p : Nat} {A : Option Addr} {c bm : Nat} {s : CS} (h : COK w 69 B E p A c bm s) (x1 x2 x3 x4 x5 x6 x7 : Int) (h1 : inReg x1) (h2 : inReg x2) (h3 : inReg x3) (h4 : inReg x4) (h6 : 0 ≤ x6 ∧ x6 ≤ 3) (h8 : ¬ getC s x1 = 0) :
    Calls Try.prog 37 #[.pointer (some ⟨p, 0, none⟩), .agg #[.int .i64 27, .int .i64 x1, .int .i64 x2, .int .i64 x3, .int .i64 x4, .int .i64 x5, .int .i64 x6, .int .i64 x7]] w fun e w' => e = .returned (.tuple #[.int .i64 (wrap64 (s.pl + x5)), .bool true]) ∧ Below w.heap.size w w' := by
  have hu := Try.underlying61
  have hB0 := below_alloc (Below.refl w.heap.size w) (.cells #[.int .i64 27, .int .i64 x1, .int .i64 x2, .int .i64 x3, .int .i64 x4, .int .i64 x5, .int .i64 x6, .int .i64 x7] 61)
  have hblk := blk_new w (.cells #[.int .i64 27, .int .i64 x1, .int .i64 x2, .int .i64 x3, .int .i64 x4, .int .i64 x5, .int .i64 x6, .int .i64 x7] 61)
  have hO := h.below hB0
  obtain ⟨W, hW⟩ : ∃ W, w.alloc (.cells #[.int .i64 27, .int .i64 x1, .int .i64 x2, .int .i64 x3, .int .i64 x4, .int .i64 x5, .int .i64 x6, .int .i64 x7] 61) = W := ⟨_, rfl⟩
  obtain ⟨g, hg⟩ : ∃ g, w.heap.size = g := ⟨_, rfl⟩
  rw [hW] at hB0 hblk hO
  rw [hg] at hblk
  have q0 : W.cell? ⟨g, 0, none⟩ = some (.int .i64 27) := blk_cell hblk 0
  have q1 : W.cell? ⟨g, 1, none⟩ = some (.int .i64 x1) := blk_cell hblk 1
  have q2 : W.cell? ⟨g, 2, none⟩ = some (.int .i64 x2) := blk_cell hblk 2
  have q3 : W.cell? ⟨g, 3, none⟩ = some (.int .i64 x3) := blk_cell hblk 3
  have q4 : W.cell? ⟨g, 4, none⟩ = some (.int .i64 x4) := blk_cell hblk 4
  have q5 : W.cell? ⟨g, 5, none⟩ = some (.int .i64 x5) := blk_cell hblk 5
  have q6 : W.cell? ⟨g, 6, none⟩ = some (.int .i64 x6) := blk_cell hblk 6
  have q7 : W.cell? ⟨g, 7, none⟩ = some (.int .i64 x7) := blk_cell hblk 7
  have HO := Aside0.mk hO
  have HB0 := Aside0.mk hB0
  have HBK := Aside0.mk hblk
  have HW := Aside0.mk hW
  have HG := Aside0.mk hg
  have H0 := Aside0.mk h
  have H1 := Aside0.mk h1
  have H2 := Aside0.mk h2
  have H3 := Aside0.mk h3
  have H4 := Aside0.mk h4
  clear h hO hB0 hblk hW hg h1 h2 h3 h4
  have hs : IntKind.i64.wrap (16 * x6) = 16 * x6 := by rw [IntKind.wrap_i64]; omega
  have hn : 0 ≤ 16 * x6 := by omega
  have hn1 : ¬ 16 * x6 < 0 := by omega
  have h37 := HO.out.c37
  obtain ⟨pl, hpl⟩ : ∃ pl, pl = s.pl := ⟨_, rfl⟩
  rw [← hpl] at h37
  try rw [← hpl]
  have HPL := Aside0.mk hpl
  clear hpl
  have wp1 : IntKind.i64.wrap (pl + x5) = wrap64 (pl + x5) := by rw [IntKind.wrap_i64]; unfold wrap64; omega
  have wp2 : IntKind.i64.wrap (pl + 1) = wrap64 (pl + 1) := by rw [IntKind.wrap_i64]; unfold wrap64; omega
  go_enter Try.func37, Try.ntmps37
  go_wp2_with fail
  rw [HW.out, HG.out]
  refine (get_run HO.out x1 H1.out.1 H1.out.2).mono ?_
  rintro e w2 ⟨rfl, rfl⟩
  obtain ⟨v, hv⟩ : ∃ v, v = getC s x1 := ⟨_, rfl⟩
  rw [← hv] at h8 ⊢
  have e8 : (v == 0) = false := by simpa using h8
  have n8 : (v != 0) = true := by simpa using h8
  clear hv h8
  go_wp2_with fail
  go_big_quiet (fail)
  go_wp2_with fail
  go_ret2
  exact ⟨rfl, below_dN0 HB0.out nq⟩
set_option maxRecDepth 100000 in
set_option maxHeartbeats 2000000 in
theorem goal_27f {w : World} {B E p : Nat} {A : Option Addr} {c bm : Nat} {s : CS} (h : COK w 69 B E p A c bm s) (x1 x2 x3 x4 x5 x6 x7 : Int) (h1 : inReg x1) (h2 : inReg x2) (h3 : inReg x3) (h4 : inReg x4) (h6 : 0 ≤ x6 ∧ x6 ≤ 3) (h8 : getC s x1 = 0) :
    Calls Try.prog 37 #[.pointer (some ⟨p, 0, none⟩), .agg #[.int .i64 27, .int .i64 x1, .int .i64 x2, .int .i64 x3, .int .i64 x4, .int .i64 x5, .int .i64 x6, .int .i64 x7]] w fun e w' => e = .returned (.tuple #[.int .i64 (wrap64 (s.pl + 1)), .bool true]) ∧ Below w.heap.size w w' := by
  have hu := Try.underlying61
  have hB0 := below_alloc (Below.refl w.heap.size w) (.cells #[.int .i64 27, .int .i64 x1, .int .i64 x2, .int .i64 x3, .int .i64 x4, .int .i64 x5, .int .i64 x6, .int .i64 x7] 61)
  have hblk := blk_new w (.cells #[.int .i64 27, .int .i64 x1, .int .i64 x2, .int .i64 x3, .int .i64 x4, .int .i64 x5, .int .i64 x6, .int .i64 x7] 61)
  have hO := h.below hB0
  obtain ⟨W, hW⟩ : ∃ W, w.alloc (.cells #[.int .i64 27, .int .i64 x1, .int .i64 x2, .int .i64 x3, .int .i64 x4, .int .i64 x5, .int .i64 x6, .int .i64 x7] 61) = W := ⟨_, rfl⟩
  obtain ⟨g, hg⟩ : ∃ g, w.heap.size = g := ⟨_, rfl⟩
  rw [hW] at hB0 hblk hO
  rw [hg] at hblk
  have q0 : W.cell? ⟨g, 0, none⟩ = some (.int .i64 27) := blk_cell hblk 0
  have q1 : W.cell? ⟨g, 1, none⟩ = some (.int .i64 x1) := blk_cell hblk 1
  have q2 : W.cell? ⟨g, 2, none⟩ = some (.int .i64 x2) := blk_cell hblk 2
  have q3 : W.cell? ⟨g, 3, none⟩ = some (.int .i64 x3) := blk_cell hblk 3
  have q4 : W.cell? ⟨g, 4, none⟩ = some (.int .i64 x4) := blk_cell hblk 4
  have q5 : W.cell? ⟨g, 5, none⟩ = some (.int .i64 x5) := blk_cell hblk 5
  have q6 : W.cell? ⟨g, 6, none⟩ = some (.int .i64 x6) := blk_cell hblk 6
  have q7 : W.cell? ⟨g, 7, none⟩ = some (.int .i64 x7) := blk_cell hblk 7
  have HO := Aside0.mk hO
  have HB0 := Aside0.mk hB0
  have HBK := Aside0.mk hblk
  have HW := Aside0.mk hW
  have HG := Aside0.mk hg
  have H0 := Aside0.mk h
  have H1 := Aside0.mk h1
  have H2 := Aside0.mk h2
  have H3 := Aside0.mk h3
  have H4 := Aside0.mk h4
  clear h hO hB0 hblk hW hg h1 h2 h3 h4
  have hs : IntKind.i64.wrap (16 * x6) = 16 * x6 := by rw [IntKind.wrap_i64]; omega
  have hn : 0 ≤ 16 * x6 := by omega
  have hn1 : ¬ 16 * x6 < 0 := by omega
  have h37 := HO.out.c37
  obtain ⟨pl, hpl⟩ : ∃ pl, pl = s.pl := ⟨_, rfl⟩
  rw [← hpl] at h37
  try rw [← hpl]
  have HPL := Aside0.mk hpl
  clear hpl
  have wp1 : IntKind.i64.wrap (pl + x5) = wrap64 (pl + x5) := by rw [IntKind.wrap_i64]; unfold wrap64; omega
  have wp2 : IntKind.i64.wrap (pl + 1) = wrap64 (pl + 1) := by rw [IntKind.wrap_i64]; unfold wrap64; omega
  go_enter Try.func37, Try.ntmps37
  go_wp2_with fail
  rw [HW.out, HG.out]
  refine (get_run HO.out x1 H1.out.1 H1.out.2).mono ?_
  rintro e w2 ⟨rfl, rfl⟩
  obtain ⟨v, hv⟩ : ∃ v, v = getC s x1 := ⟨_, rfl⟩
  rw [← hv] at h8 ⊢
  have e8 : (v == 0) = true := by simpa using h8
  have n8 : (v != 0) = false := by simpa using h8
  clear hv h8
  go_wp2_with fail

  go_ret2
  exact ⟨rfl, HB0.out⟩
set_option maxRecDepth 100000 in
set_option maxHeartbeats 2000000 in
theorem goal_25t {w : World} {B E p : Nat} {A : Option Addr} {c bm : Nat} {s : CS} (h : COK w 69 B E p A c bm s) (x1 x2 x3 x4 x5 x6 x7 : Int) (h1 : inReg x1) (h2 : inReg x2) (h3 : inReg x3) (h4 : inReg x4) (h6 : 0 ≤ x6 ∧ x6 ≤ 3) (h8 : hold x7 s.fN s.fZ s.fC s.fV = true) :
    Calls Try.prog 37 #[.pointer (some ⟨p, 0, none⟩), .agg #[.int .i64 25, .int .i64 x1, .int .i64 x2, .int .i64 x3, .int .i64 x4, .int .i64 x5, .int .i64 x6, .int .i64 x7]] w fun e w' => e = .returned (.tuple #[.int .i64 (wrap64 (s.pl + x5)), .bool true]) ∧ Below w.heap.size w w' := by
  have hu := Try.underlying61
  have hB0 := below_alloc (Below.refl w.heap.size w) (.cells #[.int .i64 25, .int .i64 x1, .int .i64 x2, .int .i64 x3, .int .i64 x4, .int .i64 x5, .int .i64 x6, .int .i64 x7] 61)
  have hblk := blk_new w (.cells #[.int .i64 25, .int .i64 x1, .int .i64 x2, .int .i64 x3, .int .i64 x4, .int .i64 x5, .int .i64 x6, .int .i64 x7] 61)
  have hO := h.below hB0
  obtain ⟨W, hW⟩ : ∃ W, w.alloc (.cells #[.int .i64 25, .int .i64 x1, .int .i64 x2, .int .i64 x3, .int .i64 x4, .int .i64 x5, .int .i64 x6, .int .i64 x7] 61) = W := ⟨_, rfl⟩
  obtain ⟨g, hg⟩ : ∃ g, w.heap.size = g := ⟨_, rfl⟩
  rw [hW] at hB0 hblk hO
  rw [hg] at hblk
  have q0 : W.cell? ⟨g, 0, none⟩ = some (.int .i64 25) := blk_cell hblk 0
  have q1 : W.cell? ⟨g, 1, none⟩ = some (.int .i64 x1) := blk_cell hblk 1
  have q2 : W.cell? ⟨g, 2, none⟩ = some (.int .i64 x2) := blk_cell hblk 2
  have q3 : W.cell? ⟨g, 3, none⟩ = some (.int .i64 x3) := blk_cell hblk 3
  have q4 : W.cell? ⟨g, 4, none⟩ = some (.int .i64 x4) := blk_cell hblk 4
  have q5 : W.cell? ⟨g, 5, none⟩ = some (.int .i64 x5) := blk_cell hblk 5
  have q6 : W.cell? ⟨g, 6, none⟩ = some (.int .i64 x6) := blk_cell hblk 6
  have q7 : W.cell? ⟨g, 7, none⟩ = some (.int .i64 x7) := blk_cell hblk 7
  have HO := Aside0.mk hO
  have HB0 := Aside0.mk hB0
  have HBK := Aside0.mk hblk
  have HW := Aside0.mk hW
  have HG := Aside0.mk hg
  have H0 := Aside0.mk h
  have H1 := Aside0.mk h1
  have H2 := Aside0.mk h2
  have H3 := Aside0.mk h3
  have H4 := Aside0.mk h4
  clear h hO hB0 hblk hW hg h1 h2 h3 h4
  have hs : IntKind.i64.wrap (16 * x6) = 16 * x6 := by rw [IntKind.wrap_i64]; omega
  have hn : 0 ≤ 16 * x6 := by omega
  have hn1 : ¬ 16 * x6 < 0 := by omega
  have h37 := HO.out.c37
  obtain ⟨pl, hpl⟩ : ∃ pl, pl = s.pl := ⟨_, rfl⟩
  rw [← hpl] at h37
  try rw [← hpl]
  have HPL := Aside0.mk hpl
  clear hpl
  have wp1 : IntKind.i64.wrap (pl + x5) = wrap64 (pl + x5) := by rw [IntKind.wrap_i64]; unfold wrap64; omega
  have wp2 : IntKind.i64.wrap (pl + 1) = wrap64 (pl + 1) := by rw [IntKind.wrap_i64]; unfold wrap64; omega
  have huF := Try.underlying23
  have hls := hold_run x7 s.fN s.fZ s.fC s.fV
  rw [h8] at hls
  have HLS := Aside0.mk hls
  have HH8 := Aside0.mk h8
  clear hls h8
  have c33 := HO.out.c33
  have c34 := HO.out.c34
  have c35 := HO.out.c35
  have c36 := HO.out.c36
  go_enter Try.func37, Try.ntmps37
  go_wp2_with fail
  rw [HW.out, HG.out]
  go_still_tail 6, (by kernel_rfl)
  go_wp2_with fail
  refine (HLS.out _).mono ?_
  rintro e w2 ⟨rfl, hb⟩
  have r5 : w2.cell? ⟨g, 5, none⟩ = some (.int .i64 x5) := blk_cell (blk_below (blk_drew HBK.out) hb) 5
  have rp : w2.cell? ⟨p, 37, none⟩ = some (.int .i64 pl) := by rw [HPL.out]; exact (HO.out.drew.below hb).c37
  have HB2 := Aside0.mk (below_step (below_drew HB0.out) hb)
  clear hb
  go_wp2_with fail
  go_big_quiet (fail)
  go_wp2_with fail
  go_ret2
  exact ⟨rfl, below_dN0 HB2.out _⟩
set_option maxRecDepth 100000 in
set_option maxHeartbeats 2000000 in
theorem goal_25f {w : World} {B E p : Nat} {A : Option Addr} {c bm : Nat} {s : CS} (h : COK w 69 B E p A c bm s) (x1 x2 x3 x4 x5 x6 x7 : Int) (h1 : inReg x1) (h2 : inReg x2) (h3 : inReg x3) (h4 : inReg x4) (h6 : 0 ≤ x6 ∧ x6 ≤ 3) (h8 : hold x7 s.fN s.fZ s.fC s.fV = false) :
    Calls Try.prog 37 #[.pointer (some ⟨p, 0, none⟩), .agg #[.int .i64 25, .int .i64 x1, .int .i64 x2, .int .i64 x3, .int .i64 x4, .int .i64 x5, .int .i64 x6, .int .i64 x7]] w fun e w' => e = .returned (.tuple #[.int .i64 (wrap64 (s.pl + 1)), .bool true]) ∧ Below w.heap.size w w' := by
  have hu := Try.underlying61
  have hB0 := below_alloc (Below.refl w.heap.size w) (.cells #[.int .i64 25, .int .i64 x1, .int .i64 x2, .int .i64 x3, .int .i64 x4, .int .i64 x5, .int .i64 x6, .int .i64 x7] 61)
  have hblk := blk_new w (.cells #[.int .i64 25, .int .i64 x1, .int .i64 x2, .int .i64 x3, .int .i64 x4, .int .i64 x5, .int .i64 x6, .int .i64 x7] 61)
  have hO := h.below hB0
  obtain ⟨W, hW⟩ : ∃ W, w.alloc (.cells #[.int .i64 25, .int .i64 x1, .int .i64 x2, .int .i64 x3, .int .i64 x4, .int .i64 x5, .int .i64 x6, .int .i64 x7] 61) = W := ⟨_, rfl⟩
  obtain ⟨g, hg⟩ : ∃ g, w.heap.size = g := ⟨_, rfl⟩
  rw [hW] at hB0 hblk hO
  rw [hg] at hblk
  have q0 : W.cell? ⟨g, 0, none⟩ = some (.int .i64 25) := blk_cell hblk 0
  have q1 : W.cell? ⟨g, 1, none⟩ = some (.int .i64 x1) := blk_cell hblk 1
  have q2 : W.cell? ⟨g, 2, none⟩ = some (.int .i64 x2) := blk_cell hblk 2
  have q3 : W.cell? ⟨g, 3, none⟩ = some (.int .i64 x3) := blk_cell hblk 3
  have q4 : W.cell? ⟨g, 4, none⟩ = some (.int .i64 x4) := blk_cell hblk 4
  have q5 : W.cell? ⟨g, 5, none⟩ = some (.int .i64 x5) := blk_cell hblk 5
  have q6 : W.cell? ⟨g, 6, none⟩ = some (.int .i64 x6) := blk_cell hblk 6
  have q7 : W.cell? ⟨g, 7, none⟩ = some (.int .i64 x7) := blk_cell hblk 7
  have HO := Aside0.mk hO
  have HB0 := Aside0.mk hB0
  have HBK := Aside0.mk hblk
  have HW := Aside0.mk hW
  have HG := Aside0.mk hg
  have H0 := Aside0.mk h
  have H1 := Aside0.mk h1
  have H2 := Aside0.mk h2
  have H3 := Aside0.mk h3
  have H4 := Aside0.mk h4
  clear h hO hB0 hblk hW hg h1 h2 h3 h4
  have hs : IntKind.i64.wrap (16 * x6) = 16 * x6 := by rw [IntKind.wrap_i64]; omega
  have hn : 0 ≤ 16 * x6 := by omega
  have hn1 : ¬ 16 * x6 < 0 := by omega
  have h37 := HO.out.c37
  obtain ⟨pl, hpl⟩ : ∃ pl, pl = s.pl := ⟨_, rfl⟩
  rw [← hpl] at h37
  try rw [← hpl]
  have HPL := Aside0.mk hpl
  clear hpl
  have wp1 : IntKind.i64.wrap (pl + x5) = wrap64 (pl + x5) := by rw [IntKind.wrap_i64]; unfold wrap64; omega
  have wp2 : IntKind.i64.wrap (pl + 1) = wrap64 (pl + 1) := by rw [IntKind.wrap_i64]; unfold wrap64; omega
  have huF := Try.underlying23
  have hls := hold_run x7 s.fN s.fZ s.fC s.fV
  rw [h8] at hls
  have HLS := Aside0.mk hls
  have HH8 := Aside0.mk h8
  clear hls h8
  have c33 := HO.out.c33
  have c34 := HO.out.c34
  have c35 := HO.out.c35
  have c36 := HO.out.c36
  go_enter Try.func37, Try.ntmps37
  go_wp2_with fail
  rw [HW.out, HG.out]
  go_still_tail 6, (by kernel_rfl)
  go_wp2_with fail
  refine (HLS.out _).mono ?_
  rintro e w2 ⟨rfl, hb⟩
  have r5 : w2.cell? ⟨g, 5, none⟩ = some (.int .i64 x5) := blk_cell (blk_below (blk_drew HBK.out) hb) 5
  have rp : w2.cell? ⟨p, 37, none⟩ = some (.int .i64 pl) := by rw [HPL.out]; exact (HO.out.drew.below hb).c37
  have HB2 := Aside0.mk (below_step (below_drew HB0.out) hb)
  clear hb
  go_wp2_with fail

  go_ret2
  exact ⟨rfl, HB2.out⟩
set_option maxRecDepth 100000 in
set_option maxHeartbeats 2000000 in
theorem goal_28t {w : World} {B E p : Nat} {A : Option Addr} {c bm : Nat} {s : CS} (h : COK w 69 B E p A c bm s) (x1 x2 x3 x4 x5 x6 x7 : Int) (h1 : inReg x1) (h2 : inReg x2) (h3 : inReg x3) (h4 : inReg x4) (h6 : 0 ≤ x6 ∧ x6 ≤ 3) (h8 : ¬ Int.tmod (getC s x2) 4 = 0) :
    Calls Try.prog 37 #[.pointer (some ⟨p, 0, none⟩), .agg #[.int .i64 28, .int .i64 x1, .int .i64 x2, .int .i64 x3, .int .i64 x4, .int .i64 x5, .int .i64 x6, .int .i64 x7]] w fun e w' => e = .returned (.tuple #[.int .i64 (-1), .bool true]) ∧ Below w.heap.size w w' := by
  have hu := Try.underlying61
  have hB0 := below_alloc (Below.refl w.heap.size w) (.cells #[.int .i64 28, .int .i64 x1, .int .i64 x2, .int .i64 x3, .int .i64 x4, .int .i64 x5, .int .i64 x6, .int .i64 x7] 61)
  have hblk := blk_new w (.cells #[.int .i64 28, .int .i64 x1, .int .i64 x2, .int .i64 x3, .int .i64 x4, .int .i64 x5, .int .i64 x6, .int .i64 x7] 61)
  have hO := h.below hB0
  obtain ⟨W, hW⟩ : ∃ W, w.alloc (.cells #[.int .i64 28, .int .i64 x1, .int .i64 x2, .int .i64 x3, .int .i64 x4, .int .i64 x5, .int .i64 x6, .int .i64 x7] 61) = W := ⟨_, rfl⟩
  obtain ⟨g, hg⟩ : ∃ g, w.heap.size = g := ⟨_, rfl⟩
  rw [hW] at hB0 hblk hO
  rw [hg] at hblk
  have q0 : W.cell? ⟨g, 0, none⟩ = some (.int .i64 28) := blk_cell hblk 0
  have q1 : W.cell? ⟨g, 1, none⟩ = some (.int .i64 x1) := blk_cell hblk 1
  have q2 : W.cell? ⟨g, 2, none⟩ = some (.int .i64 x2) := blk_cell hblk 2
  have q3 : W.cell? ⟨g, 3, none⟩ = some (.int .i64 x3) := blk_cell hblk 3
  have q4 : W.cell? ⟨g, 4, none⟩ = some (.int .i64 x4) := blk_cell hblk 4
  have q5 : W.cell? ⟨g, 5, none⟩ = some (.int .i64 x5) := blk_cell hblk 5
  have q6 : W.cell? ⟨g, 6, none⟩ = some (.int .i64 x6) := blk_cell hblk 6
  have q7 : W.cell? ⟨g, 7, none⟩ = some (.int .i64 x7) := blk_cell hblk 7
  have HO := Aside0.mk hO
  have HB0 := Aside0.mk hB0
  have HBK := Aside0.mk hblk
  have HW := Aside0.mk hW
  have HG := Aside0.mk hg
  have H0 := Aside0.mk h
  have H1 := Aside0.mk h1
  have H2 := Aside0.mk h2
  have H3 := Aside0.mk h3
  have H4 := Aside0.mk h4
  clear h hO hB0 hblk hW hg h1 h2 h3 h4
  have hs : IntKind.i64.wrap (16 * x6) = 16 * x6 := by rw [IntKind.wrap_i64]; omega
  have hn : 0 ≤ 16 * x6 := by omega
  have hn1 : ¬ 16 * x6 < 0 := by omega
  have h37 := HO.out.c37
  obtain ⟨pl, hpl⟩ : ∃ pl, pl = s.pl := ⟨_, rfl⟩
  rw [← hpl] at h37
  try rw [← hpl]
  have HPL := Aside0.mk hpl
  clear hpl
  have wp1 : IntKind.i64.wrap (pl + x5) = wrap64 (pl + x5) := by rw [IntKind.wrap_i64]; unfold wrap64; omega
  have wp2 : IntKind.i64.wrap (pl + 1) = wrap64 (pl + 1) := by rw [IntKind.wrap_i64]; unfold wrap64; omega
  go_enter Try.func37, Try.ntmps37
  go_wp2_with fail
  rw [HW.out, HG.out]
  refine (get_run HO.out x2 H2.out.1 H2.out.2).mono ?_
  rintro e w2 ⟨rfl, rfl⟩
  obtain ⟨v, hv⟩ : ∃ v, v = getC s x2 := ⟨_, rfl⟩
  have HV := Aside0.mk hv
  rw [← hv] at h8 ⊢
  have n8 : (Int.tmod v 4 != 0) = true := by simpa using h8
  clear hv
  go_wp2_with fail

  go_ret2
  exact ⟨rfl, HB0.out⟩
set_option maxRecDepth 100000 in
set_option maxHeartbeats 2000000 in
theorem goal_28f {w : World} {B E p : Nat} {A : Option Addr} {c bm : Nat} {s : CS} (h : COK w 69 B E p A c bm s) (x1 x2 x3 x4 x5 x6 x7 : Int) (h1 : inReg x1) (h2 : inReg x2) (h3 : inReg x3) (h4 : inReg x4) (h6 : 0 ≤ x6 ∧ x6 ≤ 3) (h8 : Int.tmod (getC s x2) 4 = 0) :
    Calls Try.prog 37 #[.pointer (some ⟨p, 0, none⟩), .agg #[.int .i64 28, .int .i64 x1, .int .i64 x2, .int .i64 x3, .int .i64 x4, .int .i64 x5, .int .i64 x6, .int .i64 x7]] w fun e w' => e = .returned (.tuple #[.int .i64 (wrap64 (Int.tdiv (getC s x2) 4)), .bool true]) ∧ Below w.heap.size w w' := by
  have hu := Try.underlying61
  have hB0 := below_alloc (Below.refl w.heap.size w) (.cells #[.int .i64 28, .int .i64 x1, .int .i64 x2, .int .i64 x3, .int .i64 x4, .int .i64 x5, .int .i64 x6, .int .i64 x7] 61)
  have hblk := blk_new w (.cells #[.int .i64 28, .int .i64 x1, .int .i64 x2, .int .i64 x3, .int .i64 x4, .int .i64 x5, .int .i64 x6, .int .i64 x7] 61)
  have hO := h.below hB0
  obtain ⟨W, hW⟩ : ∃ W, w.alloc (.cells #[.int .i64 28, .int .i64 x1, .int .i64 x2, .int .i64 x3, .int .i64 x4, .int .i64 x5, .int .i64 x6, .int .i64 x7] 61) = W := ⟨_, rfl⟩
  obtain ⟨g, hg⟩ : ∃ g, w.heap.size = g := ⟨_, rfl⟩
  rw [hW] at hB0 hblk hO
  rw [hg] at hblk
  have q0 : W.cell? ⟨g, 0, none⟩ = some (.int .i64 28) := blk_cell hblk 0
  have q1 : W.cell? ⟨g, 1, none⟩ = some (.int .i64 x1) := blk_cell hblk 1
  have q2 : W.cell? ⟨g, 2, none⟩ = some (.int .i64 x2) := blk_cell hblk 2
  have q3 : W.cell? ⟨g, 3, none⟩ = some (.int .i64 x3) := blk_cell hblk 3
  have q4 : W.cell? ⟨g, 4, none⟩ = some (.int .i64 x4) := blk_cell hblk 4
  have q5 : W.cell? ⟨g, 5, none⟩ = some (.int .i64 x5) := blk_cell hblk 5
  have q6 : W.cell? ⟨g, 6, none⟩ = some (.int .i64 x6) := blk_cell hblk 6
  have q7 : W.cell? ⟨g, 7, none⟩ = some (.int .i64 x7) := blk_cell hblk 7
  have HO := Aside0.mk hO
  have HB0 := Aside0.mk hB0
  have HBK := Aside0.mk hblk
  have HW := Aside0.mk hW
  have HG := Aside0.mk hg
  have H0 := Aside0.mk h
  have H1 := Aside0.mk h1
  have H2 := Aside0.mk h2
  have H3 := Aside0.mk h3
  have H4 := Aside0.mk h4
  clear h hO hB0 hblk hW hg h1 h2 h3 h4
  have hs : IntKind.i64.wrap (16 * x6) = 16 * x6 := by rw [IntKind.wrap_i64]; omega
  have hn : 0 ≤ 16 * x6 := by omega
  have hn1 : ¬ 16 * x6 < 0 := by omega
  have h37 := HO.out.c37
  obtain ⟨pl, hpl⟩ : ∃ pl, pl = s.pl := ⟨_, rfl⟩
  rw [← hpl] at h37
  try rw [← hpl]
  have HPL := Aside0.mk hpl
  clear hpl
  have wp1 : IntKind.i64.wrap (pl + x5) = wrap64 (pl + x5) := by rw [IntKind.wrap_i64]; unfold wrap64; omega
  have wp2 : IntKind.i64.wrap (pl + 1) = wrap64 (pl + 1) := by rw [IntKind.wrap_i64]; unfold wrap64; omega
  go_enter Try.func37, Try.ntmps37
  go_wp2_with fail
  rw [HW.out, HG.out]
  refine (get_run HO.out x2 H2.out.1 H2.out.2).mono ?_
  rintro e w2 ⟨rfl, rfl⟩
  obtain ⟨v, hv⟩ : ∃ v, v = getC s x2 := ⟨_, rfl⟩
  have HV := Aside0.mk hv
  rw [← hv] at h8 ⊢
  have n8 : (Int.tmod v 4 != 0) = false := by simpa using h8
  clear hv
  go_wp2_with fail
  refine (get_run HO.out x2 H2.out.1 H2.out.2).mono ?_
  rintro e w3 ⟨rfl, rfl⟩
  rw [← HV.out]
  go_wp2_with fail

  go_ret2
  exact ⟨by rw [HV.out]; rfl, HB0.out⟩
set_option maxRecDepth 100000 in
set_option maxHeartbeats 2000000 in
theorem goal_no (x0 : Int) (o : x0 < 23 ∨ 28 < x0) {w : World} {B E p : Nat} {A : Option Addr} {c bm : Nat} {s : CS} (h : COK w 69 B E p A c bm s) (x1 x2 x3 x4 x5 x6 x7 : Int) (h1 : inReg x1) (h2 : inReg x2) (h3 : inReg x3) (h4 : inReg x4) (h6 : 0 ≤ x6 ∧ x6 ≤ 3) :
    Calls Try.prog 37 #[.pointer (some ⟨p, 0, none⟩), .agg #[.int .i64 x0, .int .i64 x1, .int .i64 x2, .int .i64 x3, .int .i64 x4, .int .i64 x5, .int .i64 x6, .int .i64 x7]] w fun e w' => e = .returned (.tuple #[.int .i64 0, .bool false]) ∧ Below w.heap.size w w' := by
  have hu := Try.underlying61
  have hB0 := below_alloc (Below.refl w.heap.size w) (.cells #[.int .i64 x0, .int .i64 x1, .int .i64 x2, .int .i64 x3, .int .i64 x4, .int .i64 x5, .int .i64 x6, .int .i64 x7] 61)
  have hblk := blk_new w (.cells #[.int .i64 x0, .int .i64 x1, .int .i64 x2, .int .i64 x3, .int .i64 x4, .int .i64 x5, .int .i64 x6, .int .i64 x7] 61)
  have hO := h.below hB0
  obtain ⟨W, hW⟩ : ∃ W, w.alloc (.cells #[.int .i64 x0, .int .i64 x1, .int .i64 x2, .int .i64 x3, .int .i64 x4, .int .i64 x5, .int .i64 x6, .int .i64 x7] 61) = W := ⟨_, rfl⟩
  obtain ⟨g, hg⟩ : ∃ g, w.heap.size = g := ⟨_, rfl⟩
  rw [hW] at hB0 hblk hO
  rw [hg] at hblk
  have q0 : W.cell? ⟨g, 0, none⟩ = some (.int .i64 x0) := blk_cell hblk 0
  have q1 : W.cell? ⟨g, 1, none⟩ = some (.int .i64 x1) := blk_cell hblk 1
  have q2 : W.cell? ⟨g, 2, none⟩ = some (.int .i64 x2) := blk_cell hblk 2
  have q3 : W.cell? ⟨g, 3, none⟩ = some (.int .i64 x3) := blk_cell hblk 3
  have q4 : W.cell? ⟨g, 4, none⟩ = some (.int .i64 x4) := blk_cell hblk 4
  have q5 : W.cell? ⟨g, 5, none⟩ = some (.int .i64 x5) := blk_cell hblk 5
  have q6 : W.cell? ⟨g, 6, none⟩ = some (.int .i64 x6) := blk_cell hblk 6
  have q7 : W.cell? ⟨g, 7, none⟩ = some (.int .i64 x7) := blk_cell hblk 7
  have HO := Aside0.mk hO
  have HB0 := Aside0.mk hB0
  have HBK := Aside0.mk hblk
  have HW := Aside0.mk hW
  have HG := Aside0.mk hg
  have H0 := Aside0.mk h
  have H1 := Aside0.mk h1
  have H2 := Aside0.mk h2
  have H3 := Aside0.mk h3
  have H4 := Aside0.mk h4
  clear h hO hB0 hblk hW hg h1 h2 h3 h4
  have hs : IntKind.i64.wrap (16 * x6) = 16 * x6 := by rw [IntKind.wrap_i64]; omega
  have hn : 0 ≤ 16 * x6 := by omega
  have hn1 : ¬ 16 * x6 < 0 := by omega
  have h37 := HO.out.c37
  obtain ⟨pl, hpl⟩ : ∃ pl, pl = s.pl := ⟨_, rfl⟩
  rw [← hpl] at h37
  try rw [← hpl]
  have HPL := Aside0.mk hpl
  clear hpl
  have wp1 : IntKind.i64.wrap (pl + x5) = wrap64 (pl + x5) := by rw [IntKind.wrap_i64]; unfold wrap64; omega
  have wp2 : IntKind.i64.wrap (pl + 1) = wrap64 (pl + 1) := by rw [IntKind.wrap_i64]; unfold wrap64; omega
  have c23 : (x0 == 23) = false := by simp; omega
  have c24 : (x0 == 24) = false := by simp; omega
  have c25 : (x0 == 25) = false := by simp; omega
  have c26 : (x0 == 26) = false := by simp; omega
  have c27 : (x0 == 27) = false := by simp; omega
  have c28 : (x0 == 28) = false := by simp; omega
  go_enter Try.func37, Try.ntmps37
  go_wp2_with fail
  rw [HW.out, HG.out]

  go_ret2
  exact ⟨rfl, by rw [← HG.out]; exact HB0.out⟩
end Go.Proofs.Ytjhgbddcenhkfaa.P

set_option linter.unusedVariables false
set_option linter.unusedSimpArgs false
namespace Go.Proofs.Ytjhgbddcenhkfaa.P
open Go.RowKit Go.Proofs.YtjhgbddcenhkfaaW.PrintWords Go.Proofs.YtjhgbddcenhkfaaW.PrintLast Go.Proofs.YtjhgbddcenhkfaaW.PrintMore
abbrev Ins := S61
structure okI (x : Ins) : Prop where
  o0 : 0 ≤ x.f0
  o1 : x.f0 ≤ 31
  r1 : inReg x.f1
  r2 : inReg x.f2
  r3 : inReg x.f3
  r4 : inReg x.f4
  sh : 0 ≤ x.f6 ∧ x.f6 ≤ 3
def insA (x : Ins) : Value := .agg #[.int .i64 x.f0, .int .i64 x.f1, .int .i64 x.f2, .int .i64 x.f3, .int .i64 x.f4, .int .i64 x.f5, .int .i64 x.f6, .int .i64 x.f7]
def goalC (s : CS) (x : Ins) : Int × Bool :=
  if x.f0 = 23 then (wrap64 (s.pl + x.f5), true) else if x.f0 = 24 then (wrap64 (s.pl + x.f5), true)
  else if x.f0 = 25 then (if hold x.f7 s.fN s.fZ s.fC s.fV = true then wrap64 (s.pl + x.f5) else wrap64 (s.pl + 1), true)
  else if x.f0 = 26 then (if getC s x.f1 = 0 then wrap64 (s.pl + x.f5) else wrap64 (s.pl + 1), true)
  else if x.f0 = 27 then (if getC s x.f1 = 0 then wrap64 (s.pl + 1) else wrap64 (s.pl + x.f5), true)
  else if x.f0 = 28 then (if Int.tmod (getC s x.f2) 4 = 0 then wrap64 (Int.tdiv (getC s x.f2) 4) else -1, true) else (0, false)
section
variable {w : World} {B E p : Nat} {A : Option Addr} {c bm : Nat} {s : CS}
theorem goal_run (h : COK w 69 B E p A c bm s) (x : Ins) (o : okI x) :
    Calls Try.prog 37 #[.pointer (some ⟨p, 0, none⟩), insA x] w fun e w' => e = .returned (.tuple #[.int .i64 (goalC s x).1, .bool (goalC s x).2]) ∧ Below w.heap.size w w' := by
  unfold insA goalC
  by_cases h23 : x.f0 = 23
  · rw [if_pos h23, h23]; exact goal_23 h _ _ _ _ _ _ _ o.r1 o.r2 o.r3 o.r4 o.sh
  rw [if_neg h23]
  by_cases h24 : x.f0 = 24
  · rw [if_pos h24, h24]; exact goal_24 h _ _ _ _ _ _ _ o.r1 o.r2 o.r3 o.r4 o.sh
  rw [if_neg h24]
  by_cases h25 : x.f0 = 25
  · rw [if_pos h25, h25]
    by_cases h8 : hold x.f7 s.fN s.fZ s.fC s.fV = true
    · rw [if_pos h8]; exact goal_25t h _ _ _ _ _ _ _ o.r1 o.r2 o.r3 o.r4 o.sh h8
    · rw [if_neg h8]; exact goal_25f h _ _ _ _ _ _ _ o.r1 o.r2 o.r3 o.r4 o.sh (by simpa using h8)
  rw [if_neg h25]
  by_cases h26 : x.f0 = 26
  · rw [if_pos h26, h26]
    by_cases h8 : getC s x.f1 = 0
    · rw [if_pos h8]; exact goal_26t h _ _ _ _ _ _ _ o.r1 o.r2 o.r3 o.r4 o.sh h8
    · rw [if_neg h8]; exact goal_26f h _ _ _ _ _ _ _ o.r1 o.r2 o.r3 o.r4 o.sh h8
  rw [if_neg h26]
  by_cases h27 : x.f0 = 27
  · rw [if_pos h27, h27]
    by_cases h8 : getC s x.f1 = 0
    · rw [if_pos h8]; exact goal_27f h _ _ _ _ _ _ _ o.r1 o.r2 o.r3 o.r4 o.sh h8
    · rw [if_neg h8]; exact goal_27t h _ _ _ _ _ _ _ o.r1 o.r2 o.r3 o.r4 o.sh h8
  rw [if_neg h27]
  by_cases h28 : x.f0 = 28
  · rw [if_pos h28, h28]
    by_cases h8 : Int.tmod (getC s x.f2) 4 = 0
    · rw [if_pos h8]; exact goal_28f h _ _ _ _ _ _ _ o.r1 o.r2 o.r3 o.r4 o.sh h8
    · rw [if_neg h8]; exact goal_28t h _ _ _ _ _ _ _ o.r1 o.r2 o.r3 o.r4 o.sh h8
  rw [if_neg h28]
  exact goal_no x.f0 (by omega) h _ _ _ _ _ _ _ o.r1 o.r2 o.r3 o.r4 o.sh
def memA (s : CS) (x : Ins) : Int := wrap64 (xC s x.f2 + wrap64 (8 * x.f5))
def memC (s : CS) (x : Ins) : CS := if x.f0 = 20 then wrM s (memA s x) (getC s x.f1) else ldS s x.f1 (memA s x)
theorem memorize_run (h : COK w 69 B E p A c bm s) (hok : okB s.m) (x : Ins) (o : okI x) (h0 : x.f0 = 19 ∨ x.f0 = 20) :
    Calls Try.prog 38 #[.pointer (some ⟨p, 0, none⟩), insA x] w fun e w' => e = .returned (.bool (mayM s (memA s x))) ∧ CTo w 69 B E p A c bm (memC s x) w' := by
  unfold insA memC
  rcases h0 with h0 | h0
  · rw [if_neg (by omega), h0]; exact mem_19 h _ _ _ _ _ _ _ o.r1 o.r2 o.r3 o.r4 o.sh hok
  · rw [if_pos h0, h0]; exact mem_20 h _ _ _ _ _ _ _ o.r1 o.r2 o.r3 o.r4 o.sh
def isDif (x : Ins) : Bool := decide (3 ≤ x.f0) && decide (x.f0 ≤ 6)
def difC (s : CS) (x : Ins) : CS :=
  if x.f0 = 3 then flagS (putC s x.f1 (lessF (getC s x.f2) (getC s x.f3)).1) (lessF (getC s x.f2) (getC s x.f3)).2
  else if x.f0 = 4 then setX s x.f1 (wrap64 (xC s x.f2 + x.f5)) else if x.f0 = 5 then setX s x.f1 (wrap64 (xC s x.f2 - x.f5))
  else if x.f0 = 6 then flagS (putC s x.f1 (lessF (xC s x.f2) x.f5).1) (lessF (xC s x.f2) x.f5).2 else s
theorem differ_run (h : COK w 69 B E p A c bm s) (x : Ins) (o : okI x) :
    Calls Try.prog 39 #[.pointer (some ⟨p, 0, none⟩), insA x] w fun e w' => e = .returned (.bool (isDif x)) ∧ CTo w 69 B E p A c bm (difC s x) w' := by
  unfold insA difC
  by_cases h3 : x.f0 = 3
  · rw [if_pos h3, show isDif x = true by unfold isDif; rw [h3]; rfl, h3]; exact differ_3 h _ _ _ _ _ _ _ o.r1 o.r2 o.r3 o.r4 o.sh
  rw [if_neg h3]
  by_cases h4 : x.f0 = 4
  · rw [if_pos h4, show isDif x = true by unfold isDif; rw [h4]; rfl, h4]; exact differ_4 h _ _ _ _ _ _ _ o.r1 o.r2 o.r3 o.r4 o.sh
  rw [if_neg h4]
  by_cases h5 : x.f0 = 5
  · rw [if_pos h5, show isDif x = true by unfold isDif; rw [h5]; rfl, h5]; exact differ_5 h _ _ _ _ _ _ _ o.r1 o.r2 o.r3 o.r4 o.sh
  rw [if_neg h5]
  by_cases h6 : x.f0 = 6
  · rw [if_pos h6, show isDif x = true by unfold isDif; rw [h6]; rfl, h6]; exact differ_6 h _ _ _ _ _ _ _ o.r1 o.r2 o.r3 o.r4 o.sh
  rw [if_neg h6, show isDif x = false by unfold isDif; rw [Bool.and_eq_false_iff, decide_eq_false_iff_not, decide_eq_false_iff_not]; omega]
  refine (differ_no x.f0 h3 h4 h5 h6 h _ _ _ _ _ _ _ o.r1 o.r2 o.r3 o.r4 o.sh).mono ?_
  rintro e w' ⟨rfl, hb⟩
  exact ⟨rfl, CTo.start hb h.le (CTo.refl (h.below hb))⟩

def reckC (s : CS) (x : Ins) : Int × Bool :=
  if x.f0 = 1 then (wrap64 (getC s x.f2 + getC s x.f3), true)
  else if x.f0 = 2 then (wrap64 (getC s x.f2 - getC s x.f3), true)
  else if x.f0 = 7 then (bits .and .i64 (getC s x.f2) (getC s x.f3), true)
  else if x.f0 = 8 then (bits .or .i64 (getC s x.f2) (getC s x.f3), true)
  else if x.f0 = 9 then (bits .xor .i64 (getC s x.f2) (getC s x.f3), true)
  else if x.f0 = 10 then (bits .or .i64 (getC s x.f2) (bits .xor .i64 (-1) (getC s x.f3)), true)
  else if x.f0 = 11 then (wrap64 (getC s x.f4 + wrap64 (getC s x.f2 * getC s x.f3)), true)
  else if x.f0 = 12 then (wrap64 (getC s x.f4 - wrap64 (getC s x.f2 * getC s x.f3)), true)
  else if x.f0 = 13 then (quoF (getC s x.f2) (getC s x.f3), true)
  else if x.f0 = 14 then (wrap64 (getC s x.f2 * 2 ^ (getC s x.f3 % 64).toNat), true)
  else if x.f0 = 15 then (getC s x.f2 / 2 ^ (getC s x.f3 % 64).toNat, true)
  else if x.f0 = 16 then (wrap64 (x.f5 * 2 ^ (16 * x.f6).toNat), true)
  else if x.f0 = 17 then (bits .or .i64 (bits .andNot .i64 (getC s x.f1) (wrap64 (65535 * 2 ^ (16 * x.f6).toNat))) (wrap64 (x.f5 * 2 ^ (16 * x.f6).toNat)), true)
  else if x.f0 = 18 then (bits .xor .i64 (-1) (wrap64 (x.f5 * 2 ^ (16 * x.f6).toNat)), true)
  else if x.f0 = 21 then (if hold x.f7 s.fN s.fZ s.fC s.fV = true then getC s x.f2 else getC s x.f3, true)
  else if x.f0 = 22 then (if hold x.f7 s.fN s.fZ s.fC s.fV = true then getC s x.f2 else wrap64 (getC s x.f3 + 1), true)
  else (0, false)
/-- What goes no elsewhere, reads no memory, sets no flags. -/
theorem reckon_run (h : COK w 69 B E p A c bm s) (x : Ins) (o : okI x) (hn : x.f0 ≠ 0) (n1 : x.f0 < 23 ∨ 28 < x.f0) (n2 : x.f0 ≠ 19) (n3 : x.f0 ≠ 20) (n4 : isDif x = false) :
    Calls Try.prog 40 #[.pointer (some ⟨p, 0, none⟩), insA x] w fun e w' => e = .returned (.tuple #[.int .i64 (reckC s x).1, .bool (reckC s x).2]) ∧ Below w.heap.size w w' := by
  unfold insA reckC
  by_cases h1 : x.f0 = 1
  · rw [if_pos h1, h1]; exact reckon_1 h _ _ _ _ _ _ _ o.r1 o.r2 o.r3 o.r4 o.sh
  rw [if_neg h1]
  by_cases h2 : x.f0 = 2
  · rw [if_pos h2, h2]; exact reckon_2 h _ _ _ _ _ _ _ o.r1 o.r2 o.r3 o.r4 o.sh
  rw [if_neg h2]
  by_cases h7 : x.f0 = 7
  · rw [if_pos h7, h7]; exact reckon_7 h _ _ _ _ _ _ _ o.r1 o.r2 o.r3 o.r4 o.sh
  rw [if_neg h7]
  by_cases h8 : x.f0 = 8
  · rw [if_pos h8, h8]; exact reckon_8 h _ _ _ _ _ _ _ o.r1 o.r2 o.r3 o.r4 o.sh
  rw [if_neg h8]
  by_cases h9 : x.f0 = 9
  · rw [if_pos h9, h9]; exact reckon_9 h _ _ _ _ _ _ _ o.r1 o.r2 o.r3 o.r4 o.sh
  rw [if_neg h9]
  by_cases h10 : x.f0 = 10
  · rw [if_pos h10, h10]; exact reckon_10 h _ _ _ _ _ _ _ o.r1 o.r2 o.r3 o.r4 o.sh
  rw [if_neg h10]
  by_cases h11 : x.f0 = 11
  · rw [if_pos h11, h11]; exact reckon_11 h _ _ _ _ _ _ _ o.r1 o.r2 o.r3 o.r4 o.sh
  rw [if_neg h11]
  by_cases h12 : x.f0 = 12
  · rw [if_pos h12, h12]; exact reckon_12 h _ _ _ _ _ _ _ o.r1 o.r2 o.r3 o.r4 o.sh
  rw [if_neg h12]
  by_cases h13 : x.f0 = 13
  · rw [if_pos h13, h13]; exact reckon_13 h _ _ _ _ _ _ _ o.r1 o.r2 o.r3 o.r4 o.sh
  rw [if_neg h13]
  by_cases h14 : x.f0 = 14
  · rw [if_pos h14, h14]; exact reckon_14 h _ _ _ _ _ _ _ o.r1 o.r2 o.r3 o.r4 o.sh
  rw [if_neg h14]
  by_cases h15 : x.f0 = 15
  · rw [if_pos h15, h15]; exact reckon_15 h _ _ _ _ _ _ _ o.r1 o.r2 o.r3 o.r4 o.sh
  rw [if_neg h15]
  by_cases h16 : x.f0 = 16
  · rw [if_pos h16, h16]; exact reckon_16 h _ _ _ _ _ _ _ o.r1 o.r2 o.r3 o.r4 o.sh
  rw [if_neg h16]
  by_cases h17 : x.f0 = 17
  · rw [if_pos h17, h17]; exact reckon_17 h _ _ _ _ _ _ _ o.r1 o.r2 o.r3 o.r4 o.sh
  rw [if_neg h17]
  by_cases h18 : x.f0 = 18
  · rw [if_pos h18, h18]; exact reckon_18 h _ _ _ _ _ _ _ o.r1 o.r2 o.r3 o.r4 o.sh
  rw [if_neg h18]
  by_cases h21 : x.f0 = 21
  · rw [if_pos h21, h21]; exact reckon_21 _ h _ _ _ _ _ _ _ o.r1 o.r2 o.r3 o.r4 o.sh (Aside0.mk rfl)
  rw [if_neg h21]
  by_cases h22 : x.f0 = 22
  · rw [if_pos h22, h22]; exact reckon_22 _ h _ _ _ _ _ _ _ o.r1 o.r2 o.r3 o.r4 o.sh (Aside0.mk rfl)
  rw [if_neg h22]
  have h3 : x.f0 = 29 ∨ x.f0 = 30 ∨ x.f0 = 31 := by
    have := o.o0
    have := o.o1
    unfold isDif at n4
    rw [Bool.and_eq_false_iff, decide_eq_false_iff_not, decide_eq_false_iff_not] at n4
    omega
  rcases h3 with h3 | h3 | h3
  · rw [h3]; exact reckon_29 h _ _ _ _ _ _ _ o.r1 o.r2 o.r3 o.r4 o.sh
  · rw [h3]; exact reckon_30 h _ _ _ _ _ _ _ o.r1 o.r2 o.r3 o.r4 o.sh
  · rw [h3]; exact reckon_31 h _ _ _ _ _ _ _ o.r1 o.r2 o.r3 o.r4 o.sh
end
end Go.Proofs.Ytjhgbddcenhkfaa.P
