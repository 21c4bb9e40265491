/- What functions of the given program come to, and that they do: written out of the translation by a program of this session; Lean checks it. -/
import Derived.Test.YtlhcjgmdcnmnnaaPAx16
import Derived.Test.YtlhcjgmdcnmnnaaRWords
import Derived.KernelRfl
namespace Go.Proofs.Ytlhcjgmdcnmnnaa.PA
open Go.RowKit Go.Proofs.YtlhcjgmdcnmnnaaW.PrintWords Go.Proofs.YtlhcjgmdcnmnnaaW.PrintLast
set_option linter.unusedVariables false
/-- What is known of a value of the struct type 68 that came in. -/
def ok68 (x : S68) : Prop := (Lit.int .i64 x.f0).wf = true ∧ ((Lit.int .i64 x.f1).wf = true ∧ (x.f2.length ≤ maxLen ∧ ∀ x_ ∈ x.f2, (Lit.int .u8 x_).wf = true))
theorem opens68 : Opens Try.prog k68 68 ok68 :=
  Opens.struct Try.underlying68 (by kernel_rfl) (Opens.cons (Opens.int Try.underlying3 (by kernel_rfl)) rfl rfl rfl (Opens.cons (Opens.int Try.underlying3 (by kernel_rfl)) rfl rfl rfl (Opens.last (Opens.slice Try.underlying26 (by kernel_rfl) (Opens.int Try.underlying5 (by kernel_rfl))) rfl rfl))) (fun x : S68 => (x.f0, x.f1, x.f2)) (fun y => ⟨y.1, y.2.1, y.2.2⟩) (fun _ => rfl)
/-- THE ONE PURE STATEMENT of waybilllaw3_FramCuts. -/
def waybilllaw3_FramCuts.Pure : Prop := ∀ (x0 : S68) (l1 : List Int), ok68 x0 → (l1.length ≤ maxLen ∧ ∀ x_ ∈ l1, (Lit.int .u8 x_).wf = true) → ∃ k, waybilllaw3_FramCuts.f k x0.f0 x0.f1 x0.f2 l1 = some true
theorem waybilllaw3_FramCuts.walk (P : waybilllaw3_FramCuts.Pure) (w : World) (cs0 : Array Value) (x0 : S68) (hK0 : k68.K w x0 cs0.toList) (o0 : ok68 x0) (A1 : Option Addr) (c1 : Nat) (l1 : List Int) (hl1 : l1.length ≤ c1) (hC1 : Kd.C (Kd.int .u8) w A1 l1.length l1) (o1 : (l1.length ≤ maxLen ∧ ∀ x_ ∈ l1, (Lit.int .u8 x_).wf = true)) :
    Calls Try.prog 13 #[.agg cs0, .slice A1 l1.length c1] w fun e w' => e = .returned (.bool true) ∧ Below w.heap.size w w' := by
  obtain ⟨cs0⟩ := cs0
  obtain ⟨A0_2, c0_2, hq0, l0_2, g0_2⟩ := k68_open hK0
  have hq0 : cs0 = _ := hq0
  subst hq0
  obtain ⟨k, h⟩ := P x0 l1 o0 o1
  refine (waybilllaw3_FramCuts.calls k _ _ _ _ _ _ _ _ true w g0_2 l0_2 hC1 hl1 h).mono ?_
  rintro e w' ⟨rfl, hd⟩
  exact ⟨rfl, hd⟩
end Go.Proofs.Ytlhcjgmdcnmnnaa.PA
