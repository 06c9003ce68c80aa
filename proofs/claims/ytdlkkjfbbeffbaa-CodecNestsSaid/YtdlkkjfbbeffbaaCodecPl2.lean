/- codec, in plain Lean: blobs, texts, lists; no statement of the seat. -/
import Derived.Test.YtdlkkjfbbeffbaaCodecNone
set_option linter.unusedVariables false
set_option linter.unusedSimpArgs false
namespace Go.Proofs.Ytdlkkjfbbeffbaa.P
open Go.RowKit Go.Proofs.YtdlkkjfbbeffbaaW.PrintWords Go.Proofs.YtdlkkjfbbeffbaaW.PrintLast Go.Proofs.YtdlkkjfbbeffbaaW.PrintMore
theorem num_pair (n : Nat) (most x : Int) (hn : n ≤ 8) : numS ([], 0) n most x = if okN n most x then (leB x n, 0) else ([], 1) := by
  have hl := leB_length x n
  by_cases h : okN n most x
  · rw [if_pos h, numS_ok _ _ _ _ rfl h]
    unfold putS
    rw [if_neg (by simp), if_neg (by simp only [List.length_nil]; omega)]
    rfl
  · rw [if_neg h, numS_no _ _ _ _ rfl h]
theorem blobS_is (b : List Int) : blobS ([], 0) b = if b.length ≤ 65536 then (leB (b.length : Int) 4 ++ b, 0) else ([], 1) := by
  have hl := leB_length (b.length : Int) 4
  unfold blobS
  rw [num_pair 4 65536 _ (by decide)]
  by_cases h : b.length ≤ 65536
  · rw [if_pos h, if_pos (.inr ⟨by omega, by omega⟩)]
    unfold putS
    rw [if_neg (by simp), if_neg (by simp only [hl]; omega)]
  · rw [if_neg h, if_neg (by rintro (h | h) <;> omega)]
    unfold putS
    rw [if_pos (by simp)]
theorem takeS_app (b r : List Int) : takeS (b ++ r, false) (b.length : Int) = (b, r, false) := by
  unfold takeS
  rw [if_neg (by simp only [Bool.false_eq_true, false_or, not_or, List.length_append]; omega)]
  simp
theorem blobG_is (b r : List Int) (h : b.length ≤ 65536) : blobG (leB (b.length : Int) 4 ++ (b ++ r), false) = (b, r, false) := by
  unfold blobG
  have hl := low_leB (b.length : Int) 4 65536 (.inr (.inr (.inl ⟨rfl, rfl⟩))) ⟨by omega, by omega⟩ (.inr ⟨by omega, by omega⟩) (b ++ r)
  rw [show ((4 : Nat) : Int) = 4 from rfl] at hl
  rw [hl]
  exact takeS_app b r
theorem strOf_bytes (b : List Int) (h : okB b) : bytesOf (strOfNums b) = b := by
  unfold bytesOf strOfNums
  rw [List.map_map]
  refine (List.map_congr_left (g := id) fun x hx => ?_).trans (List.map_id _)
  have h1 := h x hx
  show (((UInt8.ofNat x.toNat).toNat : Nat) : Int) = x
  rw [UInt8.toNat_ofNat']
  omega
theorem strOf_size (b : List Int) : (strOfNums b).size = b.length := by
  show ((b.map fun n => UInt8.ofNat n.toNat).toArray).size = b.length
  simp
theorem encR_blob (b : List Int) : encR (blobS ([], 0) b) = if b.length ≤ 65536 then (leB (b.length : Int) 4 ++ b, 0) else ([], 1) := by
  rw [blobS_is]
  by_cases h : b.length ≤ 65536
  · rw [if_pos h]; rfl
  · rw [if_neg h]; rfl
theorem encR_text (b : List Int) (h : okB b) : encR (textS ([], 0) (strOfNums b)) = if b.length ≤ 65536 then (leB (b.length : Int) 4 ++ b, 0) else ([], 1) := by
  unfold textS
  rw [strOf_bytes b h]
  exact encR_blob b
theorem decR_blob (b : List Int) (h : b.length ≤ 65536) : decR blobG [] (leB (b.length : Int) 4 ++ b) = (b, 0) := by
  have hg := blobG_is b [] h
  rw [List.append_nil] at hg
  refine dec_good _ _ _ _ hg ?_
  rw [List.length_append, leB_length]
  omega
theorem decR_text (b : List Int) (h : b.length ≤ 65536) : decR textG (⟨#[]⟩ : ByteArray) (leB (b.length : Int) 4 ++ b) = (strOfNums b, 0) := by
  have hg := blobG_is b [] h
  rw [List.append_nil] at hg
  refine dec_good _ _ _ _ (show textG _ = (strOfNums b, [], false) by unfold textG; rw [hg]) ?_
  rw [List.length_append, leB_length]
  omega
theorem blob_ok (b : List Int) (h : okL b) (hl : b.length ≤ 65536) : okL (leB (b.length : Int) 4 ++ b) := by
  refine ⟨fun y hy => ?_, by rw [List.length_append, leB_length]; omega⟩
  rcases List.mem_append.mp hy with hy | hy
  · exact leB_ok _ _ y hy
  · exact h.1 y hy
end Go.Proofs.Ytdlkkjfbbeffbaa.P
