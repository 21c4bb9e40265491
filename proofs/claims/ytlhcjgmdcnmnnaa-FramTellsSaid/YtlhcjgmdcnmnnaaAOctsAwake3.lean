/-
The self-test of the statements of layer 3 answers true, with 30 rounds or more.
-/
import Derived.Test.YtlhcjgmdcnmnnaaPAx11
namespace Go.Proofs.Ytlhcjgmdcnmnnaa.Pure
open Go.RowKit Go.Proofs.Ytlhcjgmdcnmnnaa.PA Go.Proofs.YtlhcjgmdcnmnnaaW.PrintWords Go.Proofs.YtlhcjgmdcnmnnaaW.PrintLast Go.Proofs.YtlhcjgmdcnmnnaaW.PrintMore
set_option linter.unusedVariables false
set_option linter.unusedSimpArgs false
theorem awake3_ok (k : Nat) (hk : 30 ≤ k) : waybilllaw3_awake.f k = some true :=
  at_rounds (g := fun k => waybilllaw3_awake.f k) (fun k => waybilllaw3_awake.mono k) hk (by decide +kernel)
end Go.Proofs.Ytlhcjgmdcnmnnaa.Pure
