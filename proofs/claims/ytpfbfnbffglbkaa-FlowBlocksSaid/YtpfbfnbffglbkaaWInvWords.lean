-- PRINTED BY print.sh 35421559b90ae4d0a3588c463048766b98c2df88dd9212a6774a882060cdf62d: not written by this session
import Derived.Test.YtpfbfnbffglbkaaWInv
import Derived.Test.YtpfbfnbffglbkaaWFootNe
namespace Go.Proofs.YtpfbfnbffglbkaaW.PrintWords
open Go.RowKit
end Go.Proofs.YtpfbfnbffglbkaaW.PrintWords
namespace Go.Proofs.YtpfbfnbffglbkaaW.PrintLast
section
variable {ops : Array Oper} {a : Act} {o og : Oper} {g : Nat} {t : Tmp} {u : Bool}
/-- The other: it isn't carried out. -/
theorem wanted_off (hg : o.guard = some (g, u)) (ho : ops[g]? = some og) (hd : og.dst = some t) (hv : a.tmps[t]? = some (.bool (!u))) : Region.wanted o (yielded ops a.tmps) = false := by
  cases u <;> simp_all [Region.wanted, yielded]
end
end Go.Proofs.YtpfbfnbffglbkaaW.PrintLast
