-- PRINTED BY print.sh 35421559b90ae4d0a3588c463048766b98c2df88dd9212a6774a882060cdf62d: not written by this session
import Derived.Test.YtffbonfgbmohdaaWInv
import Derived.Test.YtffbonfgbmohdaaWFootNe
namespace Go.Proofs.YtffbonfgbmohdaaW.PrintWords
open Go.RowKit
end Go.Proofs.YtffbonfgbmohdaaW.PrintWords
namespace Go.Proofs.YtffbonfgbmohdaaW.PrintLast
section
variable {ops : Array Oper} {a : Act} {o og : Oper} {g : Nat} {t : Tmp} {u : Bool}
end
end Go.Proofs.YtffbonfgbmohdaaW.PrintLast
