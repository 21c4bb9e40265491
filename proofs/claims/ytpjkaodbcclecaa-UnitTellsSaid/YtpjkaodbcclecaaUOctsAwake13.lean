/-
The self-test of the statements of layer 13 answers true, with 30 rounds or more.
-/
import Derived.Test.YtpjkaodbcclecaaPUx8
namespace Go.Proofs.Ytpjkaodbcclecaa.Pure
open Go.RowKit Go.Proofs.Ytpjkaodbcclecaa.PU Go.Proofs.YtpjkaodbcclecaaW.PrintWords Go.Proofs.YtpjkaodbcclecaaW.PrintLast Go.Proofs.YtpjkaodbcclecaaW.PrintMore
set_option linter.unusedVariables false
set_option linter.unusedSimpArgs false
theorem awake13_ok (k : Nat) (hk : 30 ≤ k) : waybilllaw13_awake.f k = some true :=
  at_rounds (g := fun k => waybilllaw13_awake.f k) (fun k => waybilllaw13_awake.mono k) hk (by decide +kernel)
end Go.Proofs.Ytpjkaodbcclecaa.Pure
