/- A register that encode.Load's instructions were run for: plain; no statement of the seat. -/
import Derived.Test.YtjhgbddcenhkfaaCpuV
set_option linter.unusedVariables false
set_option linter.unusedSimpArgs false
namespace Go.Proofs.Ytjhgbddcenhkfaa.P
open Go.RowKit Go.Proofs.YtjhgbddcenhkfaaW.PrintWords Go.Proofs.YtjhgbddcenhkfaaW.PrintLast Go.Proofs.YtjhgbddcenhkfaaW.PrintMore
theorem setS_keep (s : CS) (i v : Int) : (setS s i v).ws = s.ws ∧ (setS s i v).pl = s.pl ∧ (setS s i v).fN = s.fN ∧ (setS s i v).fZ = s.fZ ∧ (setS s i v).fC = s.fC ∧ (setS s i v).fV = s.fV ∧ (setS s i v).x.length = s.x.length := by
  unfold setS
  split
  · exact ⟨rfl, rfl, rfl, rfl, rfl, rfl, List.length_set⟩
  · exact ⟨rfl, rfl, rfl, rfl, rfl, rfl, rfl⟩
theorem regs_keep (l : List Int) : ∀ (k : Nat) (s : CS), (setRegs l k s).ws = s.ws ∧ (setRegs l k s).pl = s.pl ∧ (setRegs l k s).fN = s.fN ∧ (setRegs l k s).fZ = s.fZ ∧ (setRegs l k s).fC = s.fC ∧ (setRegs l k s).fV = s.fV ∧ (setRegs l k s).x.length = s.x.length
  | 0, s => ⟨rfl, rfl, rfl, rfl, rfl, rfl, rfl⟩
  | k + 1, s => by
    have h := regs_keep l k s
    have g := setS_keep (setRegs l k s) (k : Int) (rd l (k : Int))
    rw [setRegs]
    exact ⟨g.1.trans h.1, g.2.1.trans h.2.1, g.2.2.1.trans h.2.2.1, g.2.2.2.1.trans h.2.2.2.1, g.2.2.2.2.1.trans h.2.2.2.2.1, g.2.2.2.2.2.1.trans h.2.2.2.2.2.1, g.2.2.2.2.2.2.trans h.2.2.2.2.2.2⟩
theorem regs_get (l : List Int) (s : CS) (hl : s.x.length = 32) : ∀ (k i : Nat), k ≤ 32 → i < 32 → (setRegs l k s).x.getD i 0 = if i < k then rd l (i : Int) else s.x.getD i 0
  | 0, i, _, _ => by rw [if_neg (by omega)]; rfl
  | k + 1, i, hk, hi => by
    have h := regs_get l s hl k i (by omega) hi
    have hx := (regs_keep l k s).2.2.2.2.2.2
    rw [setRegs]
    unfold setS
    rw [if_pos (by unfold isReg; rw [decide_eq_true (show (0 : Int) ≤ (k : Int) by omega), decide_eq_true (show (k : Int) ≤ 31 by omega)]; rfl)]
    dsimp only
    rw [Int.toNat_natCast]
    by_cases he : i = k
    · subst he
      rw [if_pos (by omega), List.getD_eq_getElem?_getD, List.getElem?_set_self (by omega)]
      rfl
    · rw [List.getD_eq_getElem?_getD, List.getElem?_set_ne (by omega), ← List.getD_eq_getElem?_getD, h]
      by_cases h2 : i < k
      · rw [if_pos h2, if_pos (by omega)]
      · rw [if_neg h2, if_neg (by omega)]
/-- What a run of encode.Load's instructions leaves. -/
structure LoadRun (rd n : Int) (regs : List Int) (l : List Ins) (ws : List Int) (k : Nat) (s : CS) : Prop where
  load : encode_Load.f rd n = some l
  all : encode_All.f k l = some (ws, 0, (ws.length : Int))
  len : ws.length ≤ 4
  ll : l.length ≤ 4
  run : runC 9 (setRegs regs (min regs.length 31) (newC ws 256)) = ((1, 0, (l.length : Int)), s)
  got : regC s rd = n
  other : ∀ i : Nat, i < 31 → (i : Int) ≠ rd → regC s (i : Int) = if i < regs.length then Go.Proofs.YtjhgbddcenhkfaaW.PrintWords.rd regs (i : Int) else 0
  f1 : s.fN = false
  f2 : s.fZ = false
  f3 : s.fC = false
  f4 : s.fV = false
theorem load_runs (rd n : Int) (regs : List Int) (h0 : 0 ≤ rd) (h1 : rd ≤ 30) (hn0 : -9223372036854775808 ≤ n) (hn1 : n < 9223372036854775808) : ∃ l ws k s, LoadRun rd n regs l ws k s := by
  obtain ⟨e, he⟩ : ∃ e, e = decide (n < 0) := ⟨_, rfl⟩
  obtain ⟨l, hL⟩ : ∃ l, l = load_all rd (fop e) (emp e) n := ⟨_, rfl⟩
  have hload : encode_Load.f rd n = some l := by
    unfold encode_Load.f
    rw [if_neg (by omega), if_neg (by omega), hL, he]
    by_cases hc : n < 0
    · rw [if_pos hc, decide_eq_true hc]; rfl
    · rw [if_neg hc, decide_eq_false hc]; rfl
  have hlen := load_all_len rd (fop e) (emp e) n
  rw [← hL] at hlen
  have hsh : ∀ x ∈ l, isLoad rd x := by
    have := (load_done (newC [] 256) rd n e h0 h1 (by decide) hn0 hn1).1
    rw [← hL] at this
    exact this
  obtain ⟨ws, hall, hws⟩ := all_words l (by omega) (fun x hx => (hsh x hx).enc h0 h1)
  have hwl : ws.length = l.length := by rw [← hws, List.length_map]
  obtain ⟨S, hS⟩ : ∃ S, S = setRegs regs (min regs.length 31) (newC ws 256) := ⟨_, rfl⟩
  have hk := regs_keep regs (min regs.length 31) (newC ws 256)
  rw [← hS] at hk
  have hx : S.x.length = 32 := hk.2.2.2.2.2.2.trans (by unfold newC; exact List.length_replicate)
  have hSw : S.ws = l := hk.1.trans hws
  have hSp : S.pl = 0 := hk.2.1.trans rfl
  obtain ⟨q, hd⟩ := (load_done S rd n e h0 h1 hx hn0 hn1).2
  rw [← hL] at hd
  have hrun := runN_plain l.length 9 0 0 S (by rw [hSp]; rfl) (by rw [hSw]; omega) (by rw [hSw]; omega) (by rw [hSw]; exact fun x hx => (hsh x hx).plain) (by omega)
  rw [hSw, List.drop_zero, hd, Nat.zero_add] at hrun
  refine ⟨l, ws, l.length + 1, { S with x := S.x.set rd.toNat n, pl := q }, hload, hall, by omega, by omega, by rw [← hS]; exact hrun, ?_, ?_, hk.2.2.1.trans rfl, hk.2.2.2.1.trans rfl, hk.2.2.2.2.1.trans rfl, hk.2.2.2.2.2.1.trans rfl⟩
  · unfold regC
    rw [if_pos (by omega), List.getD_eq_getElem?_getD, List.getElem?_set_self (by omega)]
    rfl
  · intro i hi hne
    unfold regC
    dsimp only
    rw [if_pos (by omega), Int.toNat_natCast, List.getD_eq_getElem?_getD, List.getElem?_set_ne (by omega), ← List.getD_eq_getElem?_getD, hS, regs_get regs (newC ws 256) (by unfold newC; exact List.length_replicate) _ i (by omega) (by omega)]
    by_cases hlt : i < regs.length
    · rw [if_pos hlt, if_pos (by omega)]
    · rw [if_neg hlt, if_neg (by omega)]
      unfold newC
      rw [List.getD_eq_getElem?_getD, List.getElem?_replicate, if_pos (by omega)]
      rfl
end Go.Proofs.Ytjhgbddcenhkfaa.P
