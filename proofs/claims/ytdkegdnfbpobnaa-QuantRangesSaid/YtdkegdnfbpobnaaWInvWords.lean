-- Of the words that print.sh laid for this seat: those that this work names (wip/gen/shrink.py left out the others).
-- PRINTED BY print.sh 35421559b90ae4d0a3588c463048766b98c2df88dd9212a6774a882060cdf62d: not written by this session
import Derived.Test.YtdkegdnfbpobnaaWInv
import Derived.Test.YtdkegdnfbpobnaaWFootNe
namespace Go.Proofs.YtdkegdnfbpobnaaW.PrintWords
open Go.RowKit
end Go.Proofs.YtdkegdnfbpobnaaW.PrintWords
namespace Go.Proofs.YtdkegdnfbpobnaaW.PrintLast
section
variable {ops : Array Oper} {a : Act} {o og : Oper} {g : Nat} {t : Tmp} {u : Bool}
end
end Go.Proofs.YtdkegdnfbpobnaaW.PrintLast
