/- Words of the print that this claim uses, the rest left out. -/
import Derived.Test.YtlhcjgmdcnmnnaaWLast
import Derived.Test.YtlhcjgmdcnmnnaaWWords
/-! ### 50. A region's order in a table, made once a region: each step asks the table (numbers alone), not the operations -/
namespace Go.Proofs.YtlhcjgmdcnmnnaaW.PrintLast
open Go.Proofs.YtlhcjgmdcnmnnaaW.PrintWords (Aside0)
section
variable {md : Region.Mode} {ops : Array Oper} {T : Bool × List (List Nat × List Nat)} {l l' li lj lk : Array Bool} {ds : List Nat} {i j k : Nat}
end
end Go.Proofs.YtlhcjgmdcnmnnaaW.PrintLast
