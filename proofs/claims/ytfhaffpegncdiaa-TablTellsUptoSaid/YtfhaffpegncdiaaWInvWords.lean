/- Words of the print that this claim uses, the rest left out. -/
import Derived.Test.YtfhaffpegncdiaaWInv
import Derived.Test.YtfhaffpegncdiaaWFootNe
namespace Go.Proofs.YtfhaffpegncdiaaW.PrintWords
open Go.RowKit
end Go.Proofs.YtfhaffpegncdiaaW.PrintWords
namespace Go.Proofs.YtfhaffpegncdiaaW.PrintLast
section
variable {ops : Array Oper} {a : Act} {o og : Oper} {g : Nat} {t : Tmp} {u : Bool}
end
end Go.Proofs.YtfhaffpegncdiaaW.PrintLast
