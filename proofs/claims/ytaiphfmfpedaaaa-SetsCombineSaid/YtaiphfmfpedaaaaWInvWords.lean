-- Of the words that print.sh laid for this seat: those that this work names (wip/gen/shrink.py left out the others).
-- PRINTED BY print.sh 35421559b90ae4d0a3588c463048766b98c2df88dd9212a6774a882060cdf62d: not written by this session
import Derived.Test.YtaiphfmfpedaaaaWInv
import Derived.Test.YtaiphfmfpedaaaaWFootNe
namespace Go.Proofs.YtaiphfmfpedaaaaW.PrintWords
open Go.RowKit
end Go.Proofs.YtaiphfmfpedaaaaW.PrintWords
namespace Go.Proofs.YtaiphfmfpedaaaaW.PrintLast
section
variable {ops : Array Oper} {a : Act} {o og : Oper} {g : Nat} {t : Tmp} {u : Bool}
end
end Go.Proofs.YtaiphfmfpedaaaaW.PrintLast
