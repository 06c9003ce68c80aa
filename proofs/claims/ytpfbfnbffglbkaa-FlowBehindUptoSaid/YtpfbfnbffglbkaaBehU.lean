/- How many pairs there are, where the arguments' bulk is bounded: plain; no statement of the seat. -/
import Derived.Test.YtpfbfnbffglbkaaOpnU
import Derived.Test.YtpfbfnbffglbkaaFlowD
set_option linter.unusedVariables false
set_option linter.unusedSimpArgs false
namespace Go.Proofs.Ytpfbfnbffglbkaa.P
open Go.RowKit Go.Proofs.YtpfbfnbffglbkaaW.PrintWords Go.Proofs.YtpfbfnbffglbkaaW.PrintLast Go.Proofs.YtpfbfnbffglbkaaW.PrintMore Go.Proofs.YtpfbfnbffglbkaaOpnU
theorem massL_one {α : Type} : ∀ (l : List α), massL (fun _ => 1) l = l.length
  | [] => rfl
  | x :: l => by rw [massL, massL_one l, List.length_cons]; omega
theorem rowP_len (n i : Nat) : ∀ (l : List Int), (rowP n i l).length ≤ l.length
  | [] => Nat.le_refl _
  | t :: l => by
    have := rowP_len n i l
    rw [rowP]
    split
    · rw [List.length_cons, List.length_cons]; omega
    · rw [List.length_cons]; omega
theorem behR_len (b : List S30) (n : Nat) (m : S30 → Nat) (hm : ∀ x : S30, x.f2.length ≤ m x) : ∀ (d i : Nat), i + d = b.length → (behR b n d i).length ≤ massL m (b.drop i)
  | 0, i, hi => Nat.zero_le _
  | d + 1, i, hi => by
    have hlt : i < b.length := by omega
    have h1 := rowP_len n i (nxB b i)
    have h2 := behR_len b n m hm d (i + 1) (by omega)
    have e : nxB b i = (b[i]).f2 := by
      unfold nxB rd_T30
      rw [Int.toNat_natCast, List.getD_eq_getElem?_getD, List.getElem?_eq_getElem hlt]
      rfl
    have h3 := hm b[i]
    rw [e] at h1
    rw [behR, List.length_append, List.drop_eq_getElem_cons hlt, massL, e]
    omega
theorem beh_bulk (b : List S30) (B : Nat) (h : massL (fun x : S30 => ((fun _ => 1) x.f0 + (((fun _ => 1) x.f1 + ((fun l => massL (fun _ => 1) l + 1) x.f2))))) b + 1 ≤ B) (hB : B ≤ 1048576) : (behR b b.length b.length 0).length ≤ 1000000000000 := by
  have := behR_len b b.length (fun x : S30 => ((fun _ => 1) x.f0 + (((fun _ => 1) x.f1 + ((fun l => massL (fun _ => 1) l + 1) x.f2))))) (fun x => by dsimp only; rw [massL_one]; omega) b.length 0 (by omega)
  rw [List.drop_zero] at this
  omega
end Go.Proofs.Ytpfbfnbffglbkaa.P
