/- A processor of instructions, with registers: a walk; no statement of the seat. -/
import Derived.Test.YtjhgbddcenhkfaaCpuP
import Derived.Test.YtjhgbddcenhkfaaCpuI
import Derived.Test.YtjhgbddcenhkfaaPF48
import Derived.Test.YtjhgbddcenhkfaaPF13
set_option linter.unusedVariables false
set_option linter.unusedSimpArgs false
namespace Go.Proofs.Ytjhgbddcenhkfaa.P
open Go.RowKit Go.Proofs.YtjhgbddcenhkfaaW.PrintWords Go.Proofs.YtjhgbddcenhkfaaW.PrintLast Go.Proofs.YtjhgbddcenhkfaaW.PrintMore
theorem COK.lower {w : World} {T : TypeId} {B B' E p : Nat} {A : Option Addr} {c bm : Nat} {s : CS} (h : COK w T B E p A c bm s) (hb : B' ≤ B) : COK w T B' E p A c bm s :=
  ⟨h.hT, Nat.le_trans hb h.lp, Nat.le_trans hb h.lm, h.hp, h.hm, h.ne, h.xl, h.ml, h.blk, h.mem, Kd.R_lower h.own hb⟩
theorem COK.higher {w : World} {T : TypeId} {B E E' p : Nat} {A : Option Addr} {c bm : Nat} {s : CS} (h : COK w T B E p A c bm s) (he : E ≤ E') : COK w T B E' p A c bm s :=
  ⟨h.hT, h.lp, h.lm, Nat.lt_of_lt_of_le h.hp he, Nat.lt_of_lt_of_le h.hm he, h.ne, h.xl, h.ml, h.blk, h.mem, Kd.R_mono h.own (fun k hk => ⟨hk.1, hk.2.1, Nat.lt_of_lt_of_le hk.2.2 he⟩)⟩
/-- Registers that were set, the first k. -/
def setRegs (l : List Int) : Nat → CS → CS
  | 0, s => s
  | k + 1, s => setS (setRegs l k s) (k : Int) (rd l (k : Int))
theorem SOK_regs (l : List Int) : ∀ (k : Nat) {s : CS}, SOK s → SOK (setRegs l k s)
  | 0, _, h => h
  | k + 1, _, h => (SOK_regs l k h).setS _ _
def ProcPost (l1 ws : List Int) (w : World) (e : Ending) (w' : World) : Prop := ∃ p A c bm, e = .returned (.pointer (some ⟨p, 0, none⟩)) ∧ COK w' 69 w.heap.size w'.heap.size p A c bm (setRegs l1 (min l1.length 31) (newC ws 256)) ∧ Below w.heap.size w w'
set_option maxRecDepth 100000 in
set_option maxHeartbeats 4000000 in
theorem processor_run (K : Nat) (w : World) (A0 : Option Addr) (c0 : Nat) (l0 : List Ins) (A1 : Option Addr) (c1 : Nat) (l1 : List Int) (hr0 : Kd.C k61 w A0 l0.length l0) (hc0 : l0.length ≤ c0) (hr1 : Kd.C (Kd.int .i64) w A1 l1.length l1) (hc1 : l1.length ≤ c1)
    (ws : List Int) (n : Int) (hall : encode_All.f K l0 = some (ws, 0, n)) (hl : ws.length ≤ 65536) :
    Calls Try.prog 30 #[.slice A0 l0.length c0, .slice A1 l1.length c1] w (ProcPost l1 ws w) := by
  have HR0 := Aside0.mk hr0
  have HR1 := Aside0.mk hr1
  have HALL := Aside0.mk hall
  have hmx1 := Kd.C_max hr1
  clear hr0 hr1 hall
  go_enter Try.func30, Try.ntmps30
  go_wp2_with fail
  refine (encode_All.calls K A0 c0 l0 ws 0 n w HR0.out hc0 HALL.out).mono ?_
  rintro e w1 ⟨v1, rfl, hws, hb1⟩
  have HB1 := Aside0.mk hb1
  obtain ⟨A2, c2, rfl, hc2, hC⟩ := Kd.R_reads hws
  have HC := Aside0.mk hC
  clear hb1 hws hC
  go_wp2_with fail
  refine (new_run w1 A2 c2 ws HC.out hc2 hl 256 (by decide)).mono ?_
  rintro e w2 ⟨p, A, c, bm, rfl, hO, hb2⟩
  have HB2 := Aside0.mk (show Below w.heap.size w w2 from HB1.out.trans (hb2.mono HB1.out.size))
  have HO := Aside0.mk (show COK w2 69 w.heap.size w2.heap.size p A c bm (newC ws 256) from hO.lower HB1.out.size)
  clear hb2 hO
  go_wp2_with fail
  go_loopw [10] (fun v10 wr => ∃ (k : Nat), v10 = .int .i64 k ∧ k ≤ 31 ∧ k ≤ l1.length ∧ COK wr 69 w.heap.size w2.heap.size p A c bm (setRegs l1 k (newC ws 256)) ∧ Below w.heap.size w wr ∧ w2.heap.size ≤ wr.heap.size) (fun v10 _ => 31 - (intOf v10).toNat)
  case atStart => exact ⟨0, rfl, by omega, by omega, HO.out, HB2.out, Nat.le_refl _⟩
  case round =>
    obtain ⟨k, rfl, hk, hk1, hO, hB, hZ⟩ := hrel
    have HOk := Aside0.mk hO
    have HBk := Aside0.mk hB
    have HZ := Aside0.mk hZ
    clear hO hB hZ
    by_cases hlt : k < l1.length ∧ k < 31
    · obtain ⟨hlt1, hlt2⟩ := hlt
      have hi1 : (k : Int) < (l1.length : Int) := by omega
      have hi2 : (k : Int) < 31 := by omega
      obtain ⟨ad, rfl, hc⟩ := Kd.at_int (Kd.C_below HR1.out HBk.out) (k : Int) (by omega) (by omega)
      rw [Int.toNat_natCast] at hc
      obtain ⟨v, hv⟩ : ∃ v, v = rd l1 (k : Int) := ⟨_, rfl⟩
      rw [← hv] at hc
      have HV := Aside0.mk hv
      clear hv
      go_wp2_with fail
      refine (set_run HOk.out (k : Int) v).mono ?_
      rintro e w4 ⟨rfl, hT4⟩
      have HT4 := Aside0.mk hT4
      clear hT4 hc
      go_wp2_with fail
      go_roundw
      case rel => exact ⟨k + 1, by go_num, by omega, by omega, by rw [setRegs, ← HV.out]; exact HT4.out.1, HBk.out.trans (HT4.out.2.2), Nat.le_trans HZ.out HT4.out.2.1.1⟩
      case measure => simp only [intOf]; omega
    · have hd : (¬ (k : Int) < (l1.length : Int)) ∨ ((k : Int) < (l1.length : Int) ∧ ¬ (k : Int) < 31) := by omega
      have hke : k = min l1.length 31 := by omega
      have HKE := Aside0.mk hke
      clear hke
      rcases hd with hd | ⟨hd, hd2⟩
      all_goals (
        go_wp2_with fail
        go_ret
        exact ⟨p, A, c, bm, rfl, by rw [← HKE.out]; exact HOk.out.higher HZ.out, HBk.out⟩)
end Go.Proofs.Ytjhgbddcenhkfaa.P
