/- What functions of the given program come to, and that they do: written out of the translation by a program of this session; Lean checks it. -/
import Derived.Test.YtpjkaodbcclecaaProg
import Derived.Below
import Derived.Deep.Draws
import Derived.Deep.AppendLies
import Derived.Maps.AppendAt
import Derived.OwnWalk
import Derived.Laws.BytesArg
import Derived.Laws.MakeOwn
import Derived.Laws.OwnMore
import Derived.Deep.OwnRows
import Derived.Tactics
import Derived.Lib.ConvBytes
import Derived.Laws.Slices
import Derived.WalkKit
import Derived.KernelRfl
import Derived.RowKit3
import Derived.Deep.LoopGhost
import Derived.Deep.QuietTactic
import Derived.BigQuiet
import Derived.WideLaws
import Derived.Deep.DeepCutAuto
import Derived.Deep.CutBlock
import Derived.Deep.RegionHeld3
import Derived.Laws.Rows
import Derived.Lib.AppendStr
import Derived.ArgAppend
import Derived.Laws.IdiomCopy
import Derived.OrdersHeld
import Derived.Laws.BitsLemmas
import Derived.RowKit
import Derived.Lib.SliceRun
import Derived.Laws.Pointers
import Derived.Test.YtpjkaodbcclecaaWWords
import Derived.Test.YtpjkaodbcclecaaWLast
import Derived.Test.YtpjkaodbcclecaaWTab
import Derived.Test.YtpjkaodbcclecaaWFour
import Derived.Test.YtpjkaodbcclecaaWQPut
import Derived.Test.YtpjkaodbcclecaaWApart
import Derived.Test.YtpjkaodbcclecaaWArr
import Derived.Test.YtpjkaodbcclecaaWZeros
import Derived.Test.YtpjkaodbcclecaaWFoot
import Derived.Test.YtpjkaodbcclecaaWKept
import Derived.Test.YtpjkaodbcclecaaWShare
import Derived.Test.YtpjkaodbcclecaaWN
import Derived.Test.YtpjkaodbcclecaaWFootNe
import Derived.Test.YtpjkaodbcclecaaWAt
import Derived.Test.YtpjkaodbcclecaaWEqStruct
import Derived.Test.YtpjkaodbcclecaaWRepsOne
import Derived.Test.YtpjkaodbcclecaaWInv
import Derived.Test.YtpjkaodbcclecaaWInvWords
import Derived.Test.YtpjkaodbcclecaaWGuard
import Derived.Test.YtpjkaodbcclecaaWNEv
import Derived.Test.YtpjkaodbcclecaaWMore
import Derived.Test.YtpjkaodbcclecaaXWords
namespace Go.Proofs.Ytpjkaodbcclecaa.PB
open Go.RowKit Go.Proofs.YtpjkaodbcclecaaW.PrintWords Go.Proofs.YtpjkaodbcclecaaW.PrintLast Go.Proofs.YtpjkaodbcclecaaW.PrintMore
attribute [local go_sem] max2_int min2_int max_two min_two max_three min_three max_four min_four   -- for this text's walks alone
set_option linter.unusedVariables false
set_option linter.unusedSimpArgs false



def errW : Option Int → Value
  | none => .nilIface
  | some c => .iface 0 (.int .i64 c)
theorem errW_none : errW none = .nilIface := rfl
theorem errW_some (c : Int) : errW (some c) = .iface 0 (.int .i64 c) := rfl

theorem info5 : (Try.prog.info? 5).map (fun i => (i.zero, i.size, i.bytes)) = some (some (.int .u8 0), 1, 1) := by kernel_rfl
-- the values' own types

end Go.Proofs.Ytpjkaodbcclecaa.PB
