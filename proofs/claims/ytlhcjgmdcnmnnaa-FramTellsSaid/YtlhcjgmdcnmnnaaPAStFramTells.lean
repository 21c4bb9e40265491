/- What functions of the given program come to, and that they do: written out of the translation by a program of this session; Lean checks it. -/
import Derived.Test.YtlhcjgmdcnmnnaaPAx16
import Derived.Test.YtlhcjgmdcnmnnaaRWords
import Derived.KernelRfl
namespace Go.Proofs.Ytlhcjgmdcnmnnaa.PA
open Go.RowKit Go.Proofs.YtlhcjgmdcnmnnaaW.PrintWords Go.Proofs.YtlhcjgmdcnmnnaaW.PrintLast
set_option linter.unusedVariables false
/-- What is known of a value of the struct type 68 that came in. -/
def ok68 (x : S68) : Prop := (Lit.int .i64 x.f0).wf = true ∧ ((Lit.int .i64 x.f1).wf = true ∧ (x.f2.length ≤ maxLen ∧ ∀ x_ ∈ x.f2, (Lit.int .u8 x_).wf = true))
theorem opens68 : Opens Try.prog k68 68 ok68 :=
  Opens.struct Try.underlying68 (by kernel_rfl) (Opens.cons (Opens.int Try.underlying3 (by kernel_rfl)) rfl rfl rfl (Opens.cons (Opens.int Try.underlying3 (by kernel_rfl)) rfl rfl rfl (Opens.last (Opens.slice Try.underlying26 (by kernel_rfl) (Opens.int Try.underlying5 (by kernel_rfl))) rfl rfl))) (fun x : S68 => (x.f0, x.f1, x.f2)) (fun y => ⟨y.1, y.2.1, y.2.2⟩) (fun _ => rfl)
/-- THE ONE PURE STATEMENT of waybilllaw3_FramTells. -/
def waybilllaw3_FramTells.Pure : Prop := ∀ (l0 : List Int) (x1 : S68) (a2 : Int) (a3 : Int) (a4 : Int), (l0.length ≤ maxLen ∧ ∀ x_ ∈ l0, (Lit.int .u8 x_).wf = true) → ok68 x1 → (Lit.int .i64 a2).wf = true → (Lit.int .u8 a3).wf = true → (Lit.int .i64 a4).wf = true → ∃ k, waybilllaw3_FramTells.f k l0 x1.f0 x1.f1 x1.f2 a2 a3 a4 = some true
theorem waybilllaw3_FramTells.walk (P : waybilllaw3_FramTells.Pure) (w : World) (A0 : Option Addr) (c0 : Nat) (l0 : List Int) (hl0 : l0.length ≤ c0) (hC0 : Kd.C (Kd.int .u8) w A0 l0.length l0) (o0 : (l0.length ≤ maxLen ∧ ∀ x_ ∈ l0, (Lit.int .u8 x_).wf = true)) (cs1 : Array Value) (x1 : S68) (hK1 : k68.K w x1 cs1.toList) (o1 : ok68 x1) (a2 : Int) (w2 : (Lit.int .i64 a2).wf = true) (a3 : Int) (w3 : (Lit.int .u8 a3).wf = true) (a4 : Int) (w4 : (Lit.int .i64 a4).wf = true) :
    Calls Try.prog 12 #[.slice A0 l0.length c0, .agg cs1, .int .i64 a2, .int .u8 a3, .int .i64 a4] w fun e w' => e = .returned (.bool true) ∧ Below w.heap.size w w' := by
  obtain ⟨cs1⟩ := cs1
  obtain ⟨A1_2, c1_2, hq1, l1_2, g1_2⟩ := k68_open hK1
  have hq1 : cs1 = _ := hq1
  subst hq1
  obtain ⟨k, h⟩ := P l0 x1 a2 a3 a4 o0 o1 w2 w3 w4
  refine (waybilllaw3_FramTells.calls k (fun k_ => k_ < w.heap.size) _ _ _ _ _ _ _ _ _ _ _ true w ⟨_, _, rfl, hl0, Kd.C_F (Kd.heap_int .u8) hC0⟩ g1_2 l1_2 h).mono ?_
  rintro e w' ⟨rfl, hd⟩
  exact ⟨rfl, hd⟩
end Go.Proofs.Ytlhcjgmdcnmnnaa.PA
