/- Words of the print that this claim uses, the rest left out. -/
import Derived.Test.YtpjkaodbcclecaaWInv
import Derived.Test.YtpjkaodbcclecaaWFootNe
namespace Go.Proofs.YtpjkaodbcclecaaW.PrintWords
open Go.RowKit
end Go.Proofs.YtpjkaodbcclecaaW.PrintWords
namespace Go.Proofs.YtpjkaodbcclecaaW.PrintLast
section
variable {ops : Array Oper} {a : Act} {o og : Oper} {g : Nat} {t : Tmp} {u : Bool}
end
end Go.Proofs.YtpjkaodbcclecaaW.PrintLast
