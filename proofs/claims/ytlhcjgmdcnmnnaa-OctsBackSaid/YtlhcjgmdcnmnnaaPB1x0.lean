/- What functions of the given program come to, and that they do: written out of the translation by a program of this session; Lean checks it. -/
import Derived.Test.YtlhcjgmdcnmnnaaProg
import Derived.Below
import Derived.Deep.Draws
import Derived.Deep.AppendLies
import Derived.Maps.AppendAt
import Derived.OwnWalk
import Derived.Laws.BytesArg
import Derived.Laws.MakeOwn
import Derived.Laws.OwnMore
import Derived.Deep.OwnRows
import Derived.Tactics
import Derived.Lib.ConvBytes
import Derived.Laws.Slices
import Derived.WalkKit
import Derived.KernelRfl
import Derived.RowKit3
import Derived.Deep.LoopGhost
import Derived.Deep.QuietTactic
import Derived.BigQuiet
import Derived.WideLaws
import Derived.Deep.DeepCutAuto
import Derived.Deep.CutBlock
import Derived.Deep.RegionHeld3
import Derived.Laws.Rows
import Derived.Lib.AppendStr
import Derived.ArgAppend
import Derived.Laws.IdiomCopy
import Derived.OrdersHeld
import Derived.Laws.BitsLemmas
import Derived.RowKit
import Derived.Lib.SliceRun
import Derived.Laws.Pointers
import Derived.Test.YtlhcjgmdcnmnnaaWWords
import Derived.Test.YtlhcjgmdcnmnnaaWLast
import Derived.Test.YtlhcjgmdcnmnnaaWTab
import Derived.Test.YtlhcjgmdcnmnnaaWFour
import Derived.Test.YtlhcjgmdcnmnnaaWQPut
import Derived.Test.YtlhcjgmdcnmnnaaWApart
import Derived.Test.YtlhcjgmdcnmnnaaWArr
import Derived.Test.YtlhcjgmdcnmnnaaWZeros
import Derived.Test.YtlhcjgmdcnmnnaaWFoot
import Derived.Test.YtlhcjgmdcnmnnaaWKept
import Derived.Test.YtlhcjgmdcnmnnaaWShare
import Derived.Test.YtlhcjgmdcnmnnaaWN
import Derived.Test.YtlhcjgmdcnmnnaaWFootNe
import Derived.Test.YtlhcjgmdcnmnnaaWAt
import Derived.Test.YtlhcjgmdcnmnnaaWEqStruct
import Derived.Test.YtlhcjgmdcnmnnaaWRepsOne
import Derived.Test.YtlhcjgmdcnmnnaaWInv
import Derived.Test.YtlhcjgmdcnmnnaaWInvWords
import Derived.Test.YtlhcjgmdcnmnnaaWGuard
import Derived.Test.YtlhcjgmdcnmnnaaWNEv
import Derived.Test.YtlhcjgmdcnmnnaaWMore
import Derived.Test.YtlhcjgmdcnmnnaaXWords
namespace Go.Proofs.Ytlhcjgmdcnmnnaa.PB1
open Go.RowKit Go.Proofs.YtlhcjgmdcnmnnaaW.PrintWords Go.Proofs.YtlhcjgmdcnmnnaaW.PrintLast Go.Proofs.YtlhcjgmdcnmnnaaW.PrintMore
attribute [local go_sem] max2_int min2_int max_two min_two max_three min_three max_four min_four   -- for this text's walks alone
set_option linter.unusedVariables false
set_option linter.unusedSimpArgs false



def errW : Option Int → Value
  | none => .nilIface
  | some c => .iface 0 (.int .i64 c)
theorem errW_none : errW none = .nilIface := rfl
theorem errW_some (c : Int) : errW (some c) = .iface 0 (.int .i64 c) := rfl

theorem info5 : (Try.prog.info? 5).map (fun i => (i.zero, i.size, i.bytes)) = some (some (.int .u8 0), 1, 1) := by kernel_rfl
-- the values' own types

end Go.Proofs.Ytlhcjgmdcnmnnaa.PB1
