/- codec, in plain Lean: lists of pairs of a number and a blob; no statement of the seat. -/
import Derived.Test.YtdlkkjfbbeffbaaCodecPl2
set_option linter.unusedVariables false
set_option linter.unusedSimpArgs false
namespace Go.Proofs.Ytdlkkjfbbeffbaa.P
open Go.RowKit Go.Proofs.YtdlkkjfbbeffbaaW.PrintWords Go.Proofs.YtdlkkjfbbeffbaaW.PrintLast Go.Proofs.YtdlkkjfbbeffbaaW.PrintMore
theorem putS_inv (s : List Int × Int) (ys bs : List Int) (h : putS s ys = (bs, 0)) : s.2 = 0 ∧ bs = s.1 ++ ys := by
  unfold putS at h
  split at h
  · rename_i hs
    rw [h] at hs
    exact absurd rfl hs
  · rename_i hs
    split at h
    · cases h
    · exact ⟨by simpa using hs, (Prod.mk.inj h).1.symm⟩
theorem numS_inv (s : List Int × Int) (n : Nat) (most x : Int) (bs : List Int) (h : numS s n most x = (bs, 0)) : s.2 = 0 ∧ okN n most x ∧ bs = s.1 ++ leB x n := by
  by_cases hs : s.2 = 0
  · by_cases ho : okN n most x
    · rw [numS_ok s n most x hs ho] at h
      exact ⟨hs, ho, (putS_inv _ _ _ h).2⟩
    · rw [numS_no s n most x hs ho] at h
      cases h
  · rw [numS_stop s n most x hs] at h
    rw [h] at hs
    exact absurd rfl hs
theorem blobS_inv (s : List Int × Int) (ys bs : List Int) (h : blobS s ys = (bs, 0)) : s.2 = 0 ∧ ys.length ≤ 65536 ∧ bs = s.1 ++ (leB (ys.length : Int) 4 ++ ys) := by
  unfold blobS at h
  obtain ⟨h1, h2⟩ := putS_inv _ _ _ h
  obtain ⟨h3, h4, h5⟩ := numS_inv s 4 65536 (ys.length : Int) (numS s 4 65536 (ys.length : Int)).fst (Prod.ext rfl h1)
  refine ⟨h3, ?_, ?_⟩
  · rcases h4 with h4 | h4
    · cases h4
    · omega
  · rw [h2, h5, List.append_assoc]
def codeP (p : PairS) : List Int := leB p.1 2 ++ (leB (p.2.length : Int) 4 ++ p.2)
theorem bothS_inv (s : List Int × Int) (p : PairS) (bs : List Int) (h : bothS 2 65535 s p = (bs, 0)) : s.2 = 0 ∧ okN 2 65535 p.1 ∧ p.2.length ≤ 65536 ∧ bs = s.1 ++ codeP p := by
  unfold bothS at h
  obtain ⟨h1, h2, h3⟩ := blobS_inv _ _ _ h
  obtain ⟨h4, h5, h6⟩ := numS_inv s 2 65535 p.1 (numS s 2 65535 p.1).fst (Prod.ext rfl h1)
  exact ⟨h4, h5, h2, by rw [h3, h6, List.append_assoc]; rfl⟩
theorem bothS_stop (n : Nat) (most : Int) (s : List Int × Int) (p : PairS) (h : s.2 ≠ 0) : bothS n most s p = s := by
  unfold bothS blobS
  rw [numS_stop s n most _ h, numS_stop s 4 65536 _ h]
  unfold putS
  rw [if_pos h]
theorem manyGo_fold {α : Type} (S : List Int × Int → α → List Int × Int) (hS : ∀ s x, s.2 ≠ 0 → S s x = s) : ∀ (l : List α) (s : List Int × Int), manyGo S l s = l.foldl S s
  | [], s => rfl
  | x :: l, s => by
    rw [manyGo, List.foldl_cons]
    by_cases h : s.2 = 0
    · rw [if_pos h]; exact manyGo_fold S hS l _
    · rw [if_neg h, hS s x h, ← manyGo_fold S hS l s, manyGo_stop S l s h]
theorem foldP_inv : ∀ (l : List PairS) (s : List Int × Int) (bs : List Int), l.foldl (bothS 2 65535) s = (bs, 0) → s.2 = 0 ∧ (∀ p ∈ l, okN 2 65535 p.1 ∧ p.2.length ≤ 65536) ∧ bs = s.1 ++ l.flatMap codeP
  | [], s, bs, h => by
    rw [List.foldl_nil] at h
    rw [h]
    exact ⟨rfl, fun p hp => by simp at hp, by simp⟩
  | p :: l, s, bs, h => by
    rw [List.foldl_cons] at h
    obtain ⟨h1, h2, h3⟩ := foldP_inv l _ bs h
    obtain ⟨h4, h5, h6, h7⟩ := bothS_inv s p (bothS 2 65535 s p).fst (Prod.ext rfl h1)
    refine ⟨h4, fun q hq => ?_, ?_⟩
    · rcases List.mem_cons.mp hq with rfl | hq
      · exact ⟨h5, h6⟩
      · exact h2 q hq
    · rw [h3, h7, List.flatMap_cons, List.append_assoc]
theorem bothG_code (p : PairS) (r : List Int) (h1 : okN 2 65535 p.1) (h2 : p.2.length ≤ 65536) : bothG 2 65535 (codeP p ++ r, false) = (p, r, false) := by
  have hp : 0 ≤ p.1 ∧ p.1 ≤ 65535 := by rcases h1 with h | h; · cases h
                                        · exact h
  have hl := low_leB p.1 2 65535 (.inr (.inl ⟨rfl, rfl⟩)) ⟨by omega, by omega⟩ h1 (leB (p.2.length : Int) 4 ++ (p.2 ++ r))
  unfold bothG codeP
  rw [List.append_assoc, List.append_assoc, hl]
  dsimp only
  rw [blobG_is p.2 r h2]
theorem manyIn_code : ∀ (l acc : List PairS) (r : List Int), (∀ p ∈ l, okN 2 65535 p.1 ∧ p.2.length ≤ 65536) → manyIn (bothG 2 65535) l.length acc (l.flatMap codeP ++ r, false) = (acc ++ l, r, false)
  | [], acc, r, _ => by simp [manyIn]
  | p :: l, acc, r, h => by
    have hp := h p (by simp)
    rw [List.length_cons, manyIn, if_neg (by simp), List.flatMap_cons, List.append_assoc, bothG_code p _ hp.1 hp.2]
    dsimp only
    rw [manyIn_code l _ r (fun q hq => h q (by simp [hq])), List.append_assoc]
    rfl
theorem foldP_len : ∀ (l : List PairS) (s : List Int × Int), s.1.length ≤ 1048576 → (l.foldl (bothS 2 65535) s).1.length ≤ 1048576
  | [], s, h => h
  | p :: l, s, h => foldP_len l _ (bothS_len 2 65535 s p h)
/-- A list that was written is read again. -/
theorem lists_round (l : List PairS) (bs : List Int) (h : manyS (bothS 2 65535) ([], 0) l = (bs, 0)) : decR (manyR (bothG 2 65535)) [] bs = (l, 0) := by
  unfold manyS at h
  rw [manyGo_fold _ (bothS_stop 2 65535)] at h
  have hlen := foldP_len l (numS ([], 0) 2 4096 (l.length : Int)) (numS_len _ 2 4096 _ (by simp))
  rw [h] at hlen
  obtain ⟨h1, h2, h3⟩ := foldP_inv l _ bs h
  obtain ⟨_, h5, h6⟩ := numS_inv ([], 0) 2 4096 (l.length : Int) (numS ([], 0) 2 4096 (l.length : Int)).fst (Prod.ext rfl h1)
  rw [List.nil_append] at h6
  have hn : l.length ≤ 4096 := by
    rcases h5 with h | h
    · cases h
    · omega
  have hl := low_leB (l.length : Int) 2 4096 (.inr (.inr (.inr (.inl ⟨rfl, rfl⟩)))) ⟨by omega, by omega⟩ h5 (l.flatMap codeP)
  have hb : bs = leB (l.length : Int) 2 ++ l.flatMap codeP := by rw [h3, h6]
  refine dec_good _ _ _ _ ?_ (by have : bs.length ≤ 1048576 := hlen; omega)
  unfold manyR
  rw [hb, show lowI (leB (l.length : Int) 2 ++ l.flatMap codeP, false) 2 4096 = _ from hl]
  dsimp only
  rw [Int.toNat_natCast]
  have hm := manyIn_code l [] [] h2
  rw [List.append_nil] at hm
  rw [hm]
  rfl
theorem codeP_ok (p : PairS) (h : okB p.2) : okB (codeP p) := by
  intro y hy
  unfold codeP at hy
  rcases List.mem_append.mp hy with h1 | h1
  · exact leB_ok _ _ y h1
  · rcases List.mem_append.mp h1 with h2 | h2
    · exact leB_ok _ _ y h2
    · exact h y h2
theorem lists_ok (l : List PairS) (bs : List Int) (h : manyS (bothS 2 65535) ([], 0) l = (bs, 0)) (hb : ∀ p ∈ l, okB p.2) : okL bs := by
  unfold manyS at h
  rw [manyGo_fold _ (bothS_stop 2 65535)] at h
  have hlen := foldP_len l (numS ([], 0) 2 4096 (l.length : Int)) (numS_len _ 2 4096 _ (by simp))
  rw [h] at hlen
  obtain ⟨h1, h2, h3⟩ := foldP_inv l _ bs h
  obtain ⟨_, h5, h6⟩ := numS_inv ([], 0) 2 4096 (l.length : Int) (numS ([], 0) 2 4096 (l.length : Int)).fst (Prod.ext rfl h1)
  rw [List.nil_append] at h6
  refine ⟨fun y hy => ?_, by have : bs.length ≤ 1048576 := hlen; omega⟩
  rw [h3, h6] at hy
  rcases List.mem_append.mp hy with hy | hy
  · exact leB_ok _ _ y hy
  · obtain ⟨p, hp, hy⟩ := List.mem_flatMap.mp hy
    exact codeP_ok p (hb p hp) y hy
end Go.Proofs.Ytdlkkjfbbeffbaa.P
