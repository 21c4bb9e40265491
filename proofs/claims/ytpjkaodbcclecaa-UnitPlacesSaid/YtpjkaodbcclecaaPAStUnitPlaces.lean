/- What functions of the given program come to, and that they do: written out of the translation by a program of this session; Lean checks it. -/
import Derived.Test.YtpjkaodbcclecaaPAx32
import Derived.Test.YtpjkaodbcclecaaRWords
import Derived.KernelRfl
namespace Go.Proofs.Ytpjkaodbcclecaa.PA
open Go.RowKit Go.Proofs.YtpjkaodbcclecaaW.PrintWords Go.Proofs.YtpjkaodbcclecaaW.PrintLast
set_option linter.unusedVariables false
/-- What is known of a value of the struct type 38 that came in. -/
def ok38 (x : S38) : Prop := x.f0.size ≤ maxLen ∧ (True ∧ (x.f2.length ≤ maxLen ∧ ∀ x_ ∈ x.f2, (Lit.int .u8 x_).wf = true))
theorem opens38 : Opens Try.prog k38 38 ok38 :=
  Opens.struct Try.underlying38 (by kernel_rfl) (Opens.cons (Opens.string Try.underlying9 (by kernel_rfl)) rfl rfl rfl (Opens.cons (Opens.bool Try.underlying4 (by kernel_rfl)) rfl rfl rfl (Opens.last (Opens.slice Try.underlying26 (by kernel_rfl) (Opens.int Try.underlying5 (by kernel_rfl))) rfl rfl))) (fun x : S38 => (x.f0, x.f1, x.f2)) (fun y => ⟨y.1, y.2.1, y.2.2⟩) (fun _ => rfl)
/-- THE ONE PURE STATEMENT of waybilllaw13_UnitPlaces. -/
def waybilllaw13_UnitPlaces.Pure : Prop := ∀ (l0 : List (S38)), (l0.length ≤ maxLen ∧ ∀ x_ ∈ l0, ok38 x_) → ∃ k, waybilllaw13_UnitPlaces.f k l0 = some true
theorem waybilllaw13_UnitPlaces.walk (P : waybilllaw13_UnitPlaces.Pure) (w : World) (A0 : Option Addr) (c0 : Nat) (l0 : List (S38)) (hl0 : l0.length ≤ c0) (hC0 : Kd.C k38 w A0 l0.length l0) (o0 : (l0.length ≤ maxLen ∧ ∀ x_ ∈ l0, ok38 x_)) :
    Calls Try.prog 7 #[.slice A0 l0.length c0] w fun e w' => e = .returned (.bool true) ∧ Below w.heap.size w w' := by
  obtain ⟨k, h⟩ := P l0 o0
  refine (waybilllaw13_UnitPlaces.calls k _ _ _ true w hC0 hl0 h).mono ?_
  rintro e w' ⟨rfl, hd⟩
  exact ⟨rfl, hd⟩
end Go.Proofs.Ytpjkaodbcclecaa.PA
