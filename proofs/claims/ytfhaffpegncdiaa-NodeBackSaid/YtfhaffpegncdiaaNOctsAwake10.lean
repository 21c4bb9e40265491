/-
The self-test of the statements of layer 10 answers true, with 30 rounds or more.
-/
import Derived.Test.YtfhaffpegncdiaaPNx10
namespace Go.Proofs.Ytfhaffpegncdiaa.Pure
open Go.RowKit Go.Proofs.Ytfhaffpegncdiaa.PN Go.Proofs.YtfhaffpegncdiaaW.PrintWords Go.Proofs.YtfhaffpegncdiaaW.PrintLast Go.Proofs.YtfhaffpegncdiaaW.PrintMore
set_option linter.unusedVariables false
set_option linter.unusedSimpArgs false
theorem awake10_ok (k : Nat) (hk : 30 ≤ k) : waybilllaw10_awake.f k = some true :=
  at_rounds (g := fun k => waybilllaw10_awake.f k) (fun k => waybilllaw10_awake.mono k) hk (by decide +kernel)
end Go.Proofs.Ytfhaffpegncdiaa.Pure
