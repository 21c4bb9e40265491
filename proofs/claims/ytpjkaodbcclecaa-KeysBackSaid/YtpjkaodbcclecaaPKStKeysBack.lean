/- What functions of the given program come to, and that they do: written out of the translation by a program of this session; Lean checks it. -/
import Derived.Test.YtpjkaodbcclecaaPKx20
import Derived.Test.YtpjkaodbcclecaaRWords
import Derived.KernelRfl
namespace Go.Proofs.Ytpjkaodbcclecaa.PK
open Go.RowKit Go.Proofs.YtpjkaodbcclecaaW.PrintWords Go.Proofs.YtpjkaodbcclecaaW.PrintLast
set_option linter.unusedVariables false
/-- What is known of a value of the struct type 74 that came in. -/
def ok74 (x : S74) : Prop := (Lit.int .i64 x.f0).wf = true ∧ (x.f1.size ≤ maxLen ∧ (x.f2.size ≤ maxLen ∧ (x.f3.size ≤ maxLen ∧ (Lit.int .u64 x.f4).wf = true)))
theorem opens74 : Opens Try.prog k74 74 ok74 :=
  Opens.struct Try.underlying74 (by kernel_rfl) (Opens.cons (Opens.int Try.underlying3 (by kernel_rfl)) rfl rfl rfl (Opens.cons (Opens.string Try.underlying9 (by kernel_rfl)) rfl rfl rfl (Opens.cons (Opens.string Try.underlying9 (by kernel_rfl)) rfl rfl rfl (Opens.cons (Opens.string Try.underlying9 (by kernel_rfl)) rfl rfl rfl (Opens.last (Opens.int Try.underlying22 (by kernel_rfl)) rfl rfl))))) (fun x : S74 => (x.f0, x.f1, x.f2, x.f3, x.f4)) (fun y => ⟨y.1, y.2.1, y.2.2.1, y.2.2.2.1, y.2.2.2.2⟩) (fun _ => rfl)
/-- What is known of a value of the struct type 77 that came in. -/
def ok77 (x : S77) : Prop := x.f0.size ≤ maxLen ∧ (x.f1.size ≤ maxLen ∧ (x.f2.size ≤ maxLen ∧ ((Lit.int .i64 x.f3).wf = true ∧ (x.f4.length ≤ maxLen ∧ ∀ x_ ∈ x.f4, (Lit.int .u8 x_).wf = true))))
theorem opens77 : Opens Try.prog k77 77 ok77 :=
  Opens.struct Try.underlying77 (by kernel_rfl) (Opens.cons (Opens.string Try.underlying9 (by kernel_rfl)) rfl rfl rfl (Opens.cons (Opens.string Try.underlying9 (by kernel_rfl)) rfl rfl rfl (Opens.cons (Opens.string Try.underlying9 (by kernel_rfl)) rfl rfl rfl (Opens.cons (Opens.int Try.underlying3 (by kernel_rfl)) rfl rfl rfl (Opens.last (Opens.slice Try.underlying26 (by kernel_rfl) (Opens.int Try.underlying5 (by kernel_rfl))) rfl rfl))))) (fun x : S77 => (x.f0, x.f1, x.f2, x.f3, x.f4)) (fun y => ⟨y.1, y.2.1, y.2.2.1, y.2.2.2.1, y.2.2.2.2⟩) (fun _ => rfl)
/-- THE ONE PURE STATEMENT of waybilllaw12_KeysBack. -/
def waybilllaw12_KeysBack.Pure : Prop := ∀ (x0 : S74) (x1 : S74) (x2 : S77), ok74 x0 → ok74 x1 → ok77 x2 → ∃ k, waybilllaw12_KeysBack.f k x0.f0 x0.f1 x0.f2 x0.f3 x0.f4 x1.f0 x1.f1 x1.f2 x1.f3 x1.f4 x2.f0 x2.f1 x2.f2 x2.f3 x2.f4 = some true
theorem waybilllaw12_KeysBack.walk (P : waybilllaw12_KeysBack.Pure) (w : World) (cs0 : Array Value) (x0 : S74) (hK0 : k74.K w x0 cs0.toList) (o0 : ok74 x0) (cs1 : Array Value) (x1 : S74) (hK1 : k74.K w x1 cs1.toList) (o1 : ok74 x1) (cs2 : Array Value) (x2 : S77) (hK2 : k77.K w x2 cs2.toList) (o2 : ok77 x2) :
    Calls Try.prog 12 #[.agg cs0, .agg cs1, .agg cs2] w fun e w' => e = .returned (.bool true) ∧ Below w.heap.size w w' := by
  obtain ⟨cs0⟩ := cs0
  have hq0 := k74_open hK0
  have hq0 : cs0 = _ := hq0
  subst hq0
  obtain ⟨cs1⟩ := cs1
  have hq1 := k74_open hK1
  have hq1 : cs1 = _ := hq1
  subst hq1
  obtain ⟨cs2⟩ := cs2
  obtain ⟨A2_4, c2_4, hq2, l2_4, g2_4⟩ := k77_open hK2
  have hq2 : cs2 = _ := hq2
  subst hq2
  obtain ⟨k, h⟩ := P x0 x1 x2 o0 o1 o2
  refine (waybilllaw12_KeysBack.calls k _ _ _ _ _ _ _ _ _ _ _ _ _ _ _ _ _ true w g2_4 l2_4 h).mono ?_
  rintro e w' ⟨rfl, hd⟩
  exact ⟨rfl, hd⟩
end Go.Proofs.Ytpjkaodbcclecaa.PK
