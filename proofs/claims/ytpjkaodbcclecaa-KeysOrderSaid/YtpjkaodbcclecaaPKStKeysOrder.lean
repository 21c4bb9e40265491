/- What functions of the given program come to, and that they do: written out of the translation by a program of this session; Lean checks it. -/
import Derived.Test.YtpjkaodbcclecaaPKx21
import Derived.Test.YtpjkaodbcclecaaRWords
import Derived.KernelRfl
namespace Go.Proofs.Ytpjkaodbcclecaa.PK
open Go.RowKit Go.Proofs.YtpjkaodbcclecaaW.PrintWords Go.Proofs.YtpjkaodbcclecaaW.PrintLast
set_option linter.unusedVariables false
/-- What is known of a value of the struct type 74 that came in. -/
def ok74 (x : S74) : Prop := (Lit.int .i64 x.f0).wf = true ∧ (x.f1.size ≤ maxLen ∧ (x.f2.size ≤ maxLen ∧ (x.f3.size ≤ maxLen ∧ (Lit.int .u64 x.f4).wf = true)))
theorem opens74 : Opens Try.prog k74 74 ok74 :=
  Opens.struct Try.underlying74 (by kernel_rfl) (Opens.cons (Opens.int Try.underlying3 (by kernel_rfl)) rfl rfl rfl (Opens.cons (Opens.string Try.underlying9 (by kernel_rfl)) rfl rfl rfl (Opens.cons (Opens.string Try.underlying9 (by kernel_rfl)) rfl rfl rfl (Opens.cons (Opens.string Try.underlying9 (by kernel_rfl)) rfl rfl rfl (Opens.last (Opens.int Try.underlying22 (by kernel_rfl)) rfl rfl))))) (fun x : S74 => (x.f0, x.f1, x.f2, x.f3, x.f4)) (fun y => ⟨y.1, y.2.1, y.2.2.1, y.2.2.2.1, y.2.2.2.2⟩) (fun _ => rfl)
/-- THE ONE PURE STATEMENT of waybilllaw12_KeysOrder. -/
def waybilllaw12_KeysOrder.Pure : Prop := ∀ (x0 : S74) (x1 : S74) (a2 : Int) (a3 : Int), ok74 x0 → ok74 x1 → (Lit.int .u64 a2).wf = true → (Lit.int .u64 a3).wf = true → ∃ k, waybilllaw12_KeysOrder.f k x0.f0 x0.f1 x0.f2 x0.f3 x0.f4 x1.f0 x1.f1 x1.f2 x1.f3 x1.f4 a2 a3 = some true
theorem waybilllaw12_KeysOrder.walk (P : waybilllaw12_KeysOrder.Pure) (w : World) (cs0 : Array Value) (x0 : S74) (hK0 : k74.K w x0 cs0.toList) (o0 : ok74 x0) (cs1 : Array Value) (x1 : S74) (hK1 : k74.K w x1 cs1.toList) (o1 : ok74 x1) (a2 : Int) (w2 : (Lit.int .u64 a2).wf = true) (a3 : Int) (w3 : (Lit.int .u64 a3).wf = true) :
    Calls Try.prog 13 #[.agg cs0, .agg cs1, .int .u64 a2, .int .u64 a3] w fun e w' => e = .returned (.bool true) ∧ Below w.heap.size w w' := by
  obtain ⟨cs0⟩ := cs0
  have hq0 := k74_open hK0
  have hq0 : cs0 = _ := hq0
  subst hq0
  obtain ⟨cs1⟩ := cs1
  have hq1 := k74_open hK1
  have hq1 : cs1 = _ := hq1
  subst hq1
  obtain ⟨k, h⟩ := P x0 x1 a2 a3 o0 o1 w2 w3
  refine (waybilllaw12_KeysOrder.calls k _ _ _ _ _ _ _ _ _ _ _ _ true w h).mono ?_
  rintro e w' ⟨rfl, hd⟩
  exact ⟨rfl, hd⟩
end Go.Proofs.Ytpjkaodbcclecaa.PK
