/-
The self-test of the statements of layer 12 answers true, with 30 rounds or more.
-/
import Derived.Test.YtpjkaodbcclecaaPKx8
namespace Go.Proofs.Ytpjkaodbcclecaa.Pure
open Go.RowKit Go.Proofs.Ytpjkaodbcclecaa.PK Go.Proofs.YtpjkaodbcclecaaW.PrintWords Go.Proofs.YtpjkaodbcclecaaW.PrintLast Go.Proofs.YtpjkaodbcclecaaW.PrintMore
set_option linter.unusedVariables false
set_option linter.unusedSimpArgs false
theorem awake12_ok (k : Nat) (hk : 30 ≤ k) : waybilllaw12_awake.f k = some true :=
  at_rounds (g := fun k => waybilllaw12_awake.f k) (fun k => waybilllaw12_awake.mono k) hk (by decide +kernel)
end Go.Proofs.Ytpjkaodbcclecaa.Pure
