/- What functions of the given program come to, and that they do: written out of the translation by a program of this session; Lean checks it. -/
import Derived.Test.YtfhaffpegncdiaaPNx19
import Derived.Test.YtfhaffpegncdiaaRWords
import Derived.KernelRfl
namespace Go.Proofs.Ytfhaffpegncdiaa.PN
open Go.RowKit Go.Proofs.YtfhaffpegncdiaaW.PrintWords Go.Proofs.YtfhaffpegncdiaaW.PrintLast
set_option linter.unusedVariables false
/-- What is known of a value of the struct type 41 that came in. -/
def ok41 (x : S41) : Prop := x.f0.size ≤ maxLen ∧ (x.f1.size ≤ maxLen ∧ (Lit.int .i64 x.f2).wf = true)
theorem opens41 : Opens Try.prog k41 41 ok41 :=
  Opens.struct Try.underlying41 (by kernel_rfl) (Opens.cons (Opens.string Try.underlying9 (by kernel_rfl)) rfl rfl rfl (Opens.cons (Opens.string Try.underlying9 (by kernel_rfl)) rfl rfl rfl (Opens.last (Opens.int Try.underlying3 (by kernel_rfl)) rfl rfl))) (fun x : S41 => (x.f0, x.f1, x.f2)) (fun y => ⟨y.1, y.2.1, y.2.2⟩) (fun _ => rfl)
/-- What is known of a value of the struct type 44 that came in. -/
def ok44 (x : S44) : Prop := True ∧ (x.f1.length ≤ maxLen ∧ ∀ x_ ∈ x.f1, ok41 x_)
theorem opens44 : Opens Try.prog k44 44 ok44 :=
  Opens.struct Try.underlying44 (by kernel_rfl) (Opens.cons (Opens.bool Try.underlying4 (by kernel_rfl)) rfl rfl rfl (Opens.last (Opens.slice Try.underlying42 (by kernel_rfl) opens41) rfl rfl)) (fun x : S44 => (x.f0, x.f1)) (fun y => ⟨y.1, y.2⟩) (fun _ => rfl)
/-- THE ONE PURE STATEMENT of waybilllaw10_NodeBack. -/
def waybilllaw10_NodeBack.Pure : Prop := ∀ (x0 : S44) (a1 : Int), ok44 x0 → (Lit.int .i64 a1).wf = true → ∃ k, waybilllaw10_NodeBack.f k x0.f0 x0.f1 a1 = some true
theorem waybilllaw10_NodeBack.walk (P : waybilllaw10_NodeBack.Pure) (w : World) (cs0 : Array Value) (x0 : S44) (hK0 : k44.K w x0 cs0.toList) (o0 : ok44 x0) (a1 : Int) (w1 : (Lit.int .i64 a1).wf = true) :
    Calls Try.prog 9 #[.agg cs0, .int .i64 a1] w fun e w' => e = .returned (.bool true) ∧ Below w.heap.size w w' := by
  obtain ⟨cs0⟩ := cs0
  obtain ⟨A0_1, c0_1, hq0, l0_1, g0_1⟩ := k44_open hK0
  have hq0 : cs0 = _ := hq0
  subst hq0
  obtain ⟨k, h⟩ := P x0 a1 o0 w1
  refine (waybilllaw10_NodeBack.calls k _ _ _ _ _ true w g0_1 l0_1 h).mono ?_
  rintro e w' ⟨rfl, hd⟩
  exact ⟨rfl, hd⟩
end Go.Proofs.Ytfhaffpegncdiaa.PN
