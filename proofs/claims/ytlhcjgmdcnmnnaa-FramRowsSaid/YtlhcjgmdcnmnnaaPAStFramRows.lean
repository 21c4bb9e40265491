/- What functions of the given program come to, and that they do: written out of the translation by a program of this session; Lean checks it. -/
import Derived.Test.YtlhcjgmdcnmnnaaPAx12
import Derived.Test.YtlhcjgmdcnmnnaaRWords
import Derived.KernelRfl
namespace Go.Proofs.Ytlhcjgmdcnmnnaa.PA
open Go.RowKit Go.Proofs.YtlhcjgmdcnmnnaaW.PrintWords Go.Proofs.YtlhcjgmdcnmnnaaW.PrintLast
set_option linter.unusedVariables false
/-- What is known of a value of the struct type 68 that came in. -/
def ok68 (x : S68) : Prop := (Lit.int .i64 x.f0).wf = true ∧ ((Lit.int .i64 x.f1).wf = true ∧ (x.f2.length ≤ maxLen ∧ ∀ x_ ∈ x.f2, (Lit.int .u8 x_).wf = true))
theorem opens68 : Opens Try.prog k68 68 ok68 :=
  Opens.struct Try.underlying68 (by kernel_rfl) (Opens.cons (Opens.int Try.underlying3 (by kernel_rfl)) rfl rfl rfl (Opens.cons (Opens.int Try.underlying3 (by kernel_rfl)) rfl rfl rfl (Opens.last (Opens.slice Try.underlying26 (by kernel_rfl) (Opens.int Try.underlying5 (by kernel_rfl))) rfl rfl))) (fun x : S68 => (x.f0, x.f1, x.f2)) (fun y => ⟨y.1, y.2.1, y.2.2⟩) (fun _ => rfl)
/-- THE ONE PURE STATEMENT of waybilllaw3_FramRows. -/
def waybilllaw3_FramRows.Pure : Prop := ∀ (l0 : List (S68)), (l0.length ≤ maxLen ∧ ∀ x_ ∈ l0, ok68 x_) → ∃ k, waybilllaw3_FramRows.f k l0 = some true
theorem waybilllaw3_FramRows.walk (P : waybilllaw3_FramRows.Pure) (w : World) (A0 : Option Addr) (c0 : Nat) (l0 : List (S68)) (hl0 : l0.length ≤ c0) (hC0 : Kd.C k68 w A0 l0.length l0) (o0 : (l0.length ≤ maxLen ∧ ∀ x_ ∈ l0, ok68 x_)) :
    Calls Try.prog 10 #[.slice A0 l0.length c0] w fun e w' => e = .returned (.bool true) ∧ Below w.heap.size w w' := by
  obtain ⟨k, h⟩ := P l0 o0
  refine (waybilllaw3_FramRows.calls k (fun k_ => k_ < w.heap.size) _ _ _ true w ⟨_, _, rfl, hl0, Kd.C_F (Kd.heap_iso _ (Kd.heap_pair (Kd.heap_int .i64) (Kd.heap_pair (Kd.heap_int .i64) (Kd.heap_slice 5 (Kd.heap_int .u8))))) hC0⟩ h).mono ?_
  rintro e w' ⟨rfl, hd⟩
  exact ⟨rfl, hd⟩
end Go.Proofs.Ytlhcjgmdcnmnnaa.PA
