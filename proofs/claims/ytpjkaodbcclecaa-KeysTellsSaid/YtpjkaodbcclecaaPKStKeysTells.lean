/- What functions of the given program come to, and that they do: written out of the translation by a program of this session; Lean checks it. -/
import Derived.Test.YtpjkaodbcclecaaPKx17
import Derived.Test.YtpjkaodbcclecaaRWords
import Derived.KernelRfl
namespace Go.Proofs.Ytpjkaodbcclecaa.PK
open Go.RowKit Go.Proofs.YtpjkaodbcclecaaW.PrintWords Go.Proofs.YtpjkaodbcclecaaW.PrintLast
set_option linter.unusedVariables false
/-- What is known of a value of the struct type 74 that came in. -/
def ok74 (x : S74) : Prop := (Lit.int .i64 x.f0).wf = true ∧ (x.f1.size ≤ maxLen ∧ (x.f2.size ≤ maxLen ∧ (x.f3.size ≤ maxLen ∧ (Lit.int .u64 x.f4).wf = true)))
theorem opens74 : Opens Try.prog k74 74 ok74 :=
  Opens.struct Try.underlying74 (by kernel_rfl) (Opens.cons (Opens.int Try.underlying3 (by kernel_rfl)) rfl rfl rfl (Opens.cons (Opens.string Try.underlying9 (by kernel_rfl)) rfl rfl rfl (Opens.cons (Opens.string Try.underlying9 (by kernel_rfl)) rfl rfl rfl (Opens.cons (Opens.string Try.underlying9 (by kernel_rfl)) rfl rfl rfl (Opens.last (Opens.int Try.underlying22 (by kernel_rfl)) rfl rfl))))) (fun x : S74 => (x.f0, x.f1, x.f2, x.f3, x.f4)) (fun y => ⟨y.1, y.2.1, y.2.2.1, y.2.2.2.1, y.2.2.2.2⟩) (fun _ => rfl)
/-- What is known of a value of the struct type 77 that came in. -/
def ok77 (x : S77) : Prop := x.f0.size ≤ maxLen ∧ (x.f1.size ≤ maxLen ∧ (x.f2.size ≤ maxLen ∧ ((Lit.int .i64 x.f3).wf = true ∧ (x.f4.length ≤ maxLen ∧ ∀ x_ ∈ x.f4, (Lit.int .u8 x_).wf = true))))
theorem opens77 : Opens Try.prog k77 77 ok77 :=
  Opens.struct Try.underlying77 (by kernel_rfl) (Opens.cons (Opens.string Try.underlying9 (by kernel_rfl)) rfl rfl rfl (Opens.cons (Opens.string Try.underlying9 (by kernel_rfl)) rfl rfl rfl (Opens.cons (Opens.string Try.underlying9 (by kernel_rfl)) rfl rfl rfl (Opens.cons (Opens.int Try.underlying3 (by kernel_rfl)) rfl rfl rfl (Opens.last (Opens.slice Try.underlying26 (by kernel_rfl) (Opens.int Try.underlying5 (by kernel_rfl))) rfl rfl))))) (fun x : S77 => (x.f0, x.f1, x.f2, x.f3, x.f4)) (fun y => ⟨y.1, y.2.1, y.2.2.1, y.2.2.2.1, y.2.2.2.2⟩) (fun _ => rfl)
/-- THE ONE PURE STATEMENT of waybilllaw12_KeysTells. -/
def waybilllaw12_KeysTells.Pure : Prop := ∀ (x0 : S74) (a1 : ByteArray) (a2 : Int) (a3 : Int) (a4 : Int) (x5 : S77) (l6 : List Int), ok74 x0 → a1.size ≤ 140737488351232 → (Lit.int .i64 a2).wf = true → (Lit.int .u8 a3).wf = true → (Lit.int .i64 a4).wf = true → ok77 x5 → (l6.length ≤ maxLen ∧ ∀ x_ ∈ l6, (Lit.int .u8 x_).wf = true) → ∃ k, waybilllaw12_KeysTells.f k x0.f0 x0.f1 x0.f2 x0.f3 x0.f4 a1 a2 a3 a4 x5.f0 x5.f1 x5.f2 x5.f3 x5.f4 l6 = some true
theorem waybilllaw12_KeysTells.walk (P : waybilllaw12_KeysTells.Pure) (w : World) (cs0 : Array Value) (x0 : S74) (hK0 : k74.K w x0 cs0.toList) (o0 : ok74 x0) (a1 : ByteArray) (w1 : a1.size ≤ 140737488351232) (a2 : Int) (w2 : (Lit.int .i64 a2).wf = true) (a3 : Int) (w3 : (Lit.int .u8 a3).wf = true) (a4 : Int) (w4 : (Lit.int .i64 a4).wf = true) (cs5 : Array Value) (x5 : S77) (hK5 : k77.K w x5 cs5.toList) (o5 : ok77 x5) (A6 : Option Addr) (c6 : Nat) (l6 : List Int) (hl6 : l6.length ≤ c6) (hC6 : Kd.C (Kd.int .u8) w A6 l6.length l6) (o6 : (l6.length ≤ maxLen ∧ ∀ x_ ∈ l6, (Lit.int .u8 x_).wf = true)) :
    Calls Try.prog 11 #[.agg cs0, .string a1, .int .i64 a2, .int .u8 a3, .int .i64 a4, .agg cs5, .slice A6 l6.length c6] w fun e w' => e = .returned (.bool true) ∧ Below w.heap.size w w' := by
  obtain ⟨cs0⟩ := cs0
  have hq0 := k74_open hK0
  have hq0 : cs0 = _ := hq0
  subst hq0
  obtain ⟨cs5⟩ := cs5
  obtain ⟨A5_4, c5_4, hq5, l5_4, g5_4⟩ := k77_open hK5
  have hq5 : cs5 = _ := hq5
  subst hq5
  obtain ⟨k, h⟩ := P x0 a1 a2 a3 a4 x5 l6 o0 w1 w2 w3 w4 o5 o6
  refine (waybilllaw12_KeysTells.calls k _ _ _ _ _ _ _ _ _ _ _ _ _ _ _ _ (fun k_ => k_ < w.heap.size) _ _ _ true w g5_4 l5_4 ⟨_, _, rfl, hl6, Kd.C_F (Kd.heap_int .u8) hC6⟩ h).mono ?_
  rintro e w' ⟨rfl, hd⟩
  exact ⟨rfl, hd⟩
end Go.Proofs.Ytpjkaodbcclecaa.PK
