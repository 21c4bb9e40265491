/- What functions of the given program come to, and that they do: written out of the translation by a program of this session; Lean checks it. -/
import Derived.Test.YtfhaffpegncdiaaPTx17
import Derived.Test.YtfhaffpegncdiaaRWords
import Derived.Test.YtfhaffpegncdiaaTTablOpens
import Derived.KernelRfl
namespace Go.Proofs.Ytfhaffpegncdiaa.PT
open Go.RowKit Go.Proofs.YtfhaffpegncdiaaW.PrintWords Go.Proofs.YtfhaffpegncdiaaW.PrintLast
set_option linter.unusedVariables false
/-- THE ONE PURE STATEMENT of waybilllaw2_TablBack. -/
def waybilllaw2_TablBack.Pure : Prop := ∀ (l0 : List (S24)) (l1 : List (S24)), (l0.length ≤ maxLen ∧ ∀ x_ ∈ l0, ok24 x_) → (l1.length ≤ maxLen ∧ ∀ x_ ∈ l1, ok24 x_) → ∃ k, waybilllaw2_TablBack.f k l0 l1 = some true
theorem waybilllaw2_TablBack.walk (P : waybilllaw2_TablBack.Pure) (w : World) (A0 : Option Addr) (c0 : Nat) (l0 : List (S24)) (hl0 : l0.length ≤ c0) (hC0 : Kd.C k24 w A0 l0.length l0) (o0 : (l0.length ≤ maxLen ∧ ∀ x_ ∈ l0, ok24 x_)) (A1 : Option Addr) (c1 : Nat) (l1 : List (S24)) (hl1 : l1.length ≤ c1) (hC1 : Kd.C k24 w A1 l1.length l1) (o1 : (l1.length ≤ maxLen ∧ ∀ x_ ∈ l1, ok24 x_)) :
    Calls Try.prog 5 #[.slice A0 l0.length c0, .slice A1 l1.length c1] w fun e w' => e = .returned (.bool true) ∧ Below w.heap.size w w' := by
  obtain ⟨k, h⟩ := P l0 l1 o0 o1
  refine (waybilllaw2_TablBack.calls k (fun k_ => k_ < w.heap.size) _ _ _ (fun k_ => k_ < w.heap.size) _ _ _ true w ⟨_, _, rfl, hl0, Kd.C_F k24_heap hC0⟩ ⟨_, _, rfl, hl1, Kd.C_F k24_heap hC1⟩ h).mono ?_
  rintro e w' ⟨rfl, hd⟩
  exact ⟨rfl, hd⟩
end Go.Proofs.Ytfhaffpegncdiaa.PT
