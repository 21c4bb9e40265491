/-
The self-test of the statements of layer 1 answers true, with 30 rounds or more.
-/
import Derived.Test.YtlhcjgmdcnmnnaaPOctsx2
namespace Go.Proofs.Ytlhcjgmdcnmnnaa.Pure
open Go.RowKit Go.Proofs.Ytlhcjgmdcnmnnaa.POcts Go.Proofs.YtlhcjgmdcnmnnaaW.PrintWords Go.Proofs.YtlhcjgmdcnmnnaaW.PrintLast Go.Proofs.YtlhcjgmdcnmnnaaW.PrintMore
theorem awake1_ok (k : Nat) (hk : 30 ≤ k) : waybilllaw1_awake.f k = some true :=
  at_rounds (g := fun k => waybilllaw1_awake.f k) (fun k => waybilllaw1_awake.mono k) hk (by decide +kernel)
end Go.Proofs.Ytlhcjgmdcnmnnaa.Pure
