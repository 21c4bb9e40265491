/- What functions of the given program come to, and that they do: written out of the translation by a program of this session; Lean checks it. -/
import Derived.Test.YtpjkaodbcclecaaPBx14
import Derived.Test.YtpjkaodbcclecaaRWords
import Derived.KernelRfl
namespace Go.Proofs.Ytpjkaodbcclecaa.PB
open Go.RowKit Go.Proofs.YtpjkaodbcclecaaW.PrintWords Go.Proofs.YtpjkaodbcclecaaW.PrintLast
set_option linter.unusedVariables false
/-- What is known of a value of the struct type 25 that came in. -/
def ok25 (x : S25) : Prop := (Lit.int .u64 x.f0).wf = true ∧ ((Lit.int .i64 x.f1).wf = true ∧ x.f2.size ≤ maxLen)
theorem opens25 : Opens Try.prog k25 25 ok25 :=
  Opens.struct Try.underlying25 (by kernel_rfl) (Opens.cons (Opens.int Try.underlying22 (by kernel_rfl)) rfl rfl rfl (Opens.cons (Opens.int Try.underlying3 (by kernel_rfl)) rfl rfl rfl (Opens.last (Opens.string Try.underlying9 (by kernel_rfl)) rfl rfl))) (fun x : S25 => (x.f0, x.f1, x.f2)) (fun y => ⟨y.1, y.2.1, y.2.2⟩) (fun _ => rfl)
/-- THE ONE PURE STATEMENT of waybilllaw5_ContTells. -/
def waybilllaw5_ContTells.Pure : Prop := ∀ (l0 : List Int) (x1 : S25) (a2 : Int) (a3 : Int) (a4 : Int) (a5 : Int) (l6 : List Int), (l0.length ≤ maxLen ∧ ∀ x_ ∈ l0, (Lit.int .u8 x_).wf = true) → ok25 x1 → (Lit.int .i64 a2).wf = true → (Lit.int .u8 a3).wf = true → (Lit.int .i64 a4).wf = true → (Lit.int .i64 a5).wf = true → (l6.length ≤ maxLen ∧ ∀ x_ ∈ l6, (Lit.int .u8 x_).wf = true) → ∃ k, waybilllaw5_ContTells.f k l0 x1.f0 x1.f1 x1.f2 a2 a3 a4 a5 l6 = some true
theorem waybilllaw5_ContTells.walk (P : waybilllaw5_ContTells.Pure) (w : World) (A0 : Option Addr) (c0 : Nat) (l0 : List Int) (hl0 : l0.length ≤ c0) (hC0 : Kd.C (Kd.int .u8) w A0 l0.length l0) (o0 : (l0.length ≤ maxLen ∧ ∀ x_ ∈ l0, (Lit.int .u8 x_).wf = true)) (cs1 : Array Value) (x1 : S25) (hK1 : k25.K w x1 cs1.toList) (o1 : ok25 x1) (a2 : Int) (w2 : (Lit.int .i64 a2).wf = true) (a3 : Int) (w3 : (Lit.int .u8 a3).wf = true) (a4 : Int) (w4 : (Lit.int .i64 a4).wf = true) (a5 : Int) (w5 : (Lit.int .i64 a5).wf = true) (A6 : Option Addr) (c6 : Nat) (l6 : List Int) (hl6 : l6.length ≤ c6) (hC6 : Kd.C (Kd.int .u8) w A6 l6.length l6) (o6 : (l6.length ≤ maxLen ∧ ∀ x_ ∈ l6, (Lit.int .u8 x_).wf = true)) :
    Calls Try.prog 8 #[.slice A0 l0.length c0, .agg cs1, .int .i64 a2, .int .u8 a3, .int .i64 a4, .int .i64 a5, .slice A6 l6.length c6] w fun e w' => e = .returned (.bool true) ∧ Below w.heap.size w w' := by
  obtain ⟨cs1⟩ := cs1
  have hq1 := k25_open hK1
  have hq1 : cs1 = _ := hq1
  subst hq1
  obtain ⟨k, h⟩ := P l0 x1 a2 a3 a4 a5 l6 o0 o1 w2 w3 w4 w5 o6
  refine (waybilllaw5_ContTells.calls k (fun k_ => k_ < w.heap.size) _ _ _ _ _ _ _ _ _ _ _ _ _ true w ⟨_, _, rfl, hl0, Kd.C_F (Kd.heap_int .u8) hC0⟩ hC6 hl6 h).mono ?_
  rintro e w' ⟨rfl, hd⟩
  exact ⟨rfl, hd⟩
end Go.Proofs.Ytpjkaodbcclecaa.PB
