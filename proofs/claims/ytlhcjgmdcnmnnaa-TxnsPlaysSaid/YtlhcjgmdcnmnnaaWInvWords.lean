/- Words of the print that this claim uses, the rest left out. -/
import Derived.Test.YtlhcjgmdcnmnnaaWInv
import Derived.Test.YtlhcjgmdcnmnnaaWFootNe
namespace Go.Proofs.YtlhcjgmdcnmnnaaW.PrintWords
open Go.RowKit
end Go.Proofs.YtlhcjgmdcnmnnaaW.PrintWords
namespace Go.Proofs.YtlhcjgmdcnmnnaaW.PrintLast
section
variable {ops : Array Oper} {a : Act} {o og : Oper} {g : Nat} {t : Tmp} {u : Bool}
end
end Go.Proofs.YtlhcjgmdcnmnnaaW.PrintLast
