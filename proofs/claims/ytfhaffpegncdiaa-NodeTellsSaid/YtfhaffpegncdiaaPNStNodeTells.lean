/- What functions of the given program come to, and that they do: written out of the translation by a program of this session; Lean checks it. -/
import Derived.Test.YtfhaffpegncdiaaPNx18
import Derived.Test.YtfhaffpegncdiaaRWords
import Derived.KernelRfl
namespace Go.Proofs.Ytfhaffpegncdiaa.PN
open Go.RowKit Go.Proofs.YtfhaffpegncdiaaW.PrintWords Go.Proofs.YtfhaffpegncdiaaW.PrintLast
set_option linter.unusedVariables false
/-- What is known of a value of the struct type 41 that came in. -/
def ok41 (x : S41) : Prop := x.f0.size ≤ maxLen ∧ (x.f1.size ≤ maxLen ∧ (Lit.int .i64 x.f2).wf = true)
theorem opens41 : Opens Try.prog k41 41 ok41 :=
  Opens.struct Try.underlying41 (by kernel_rfl) (Opens.cons (Opens.string Try.underlying9 (by kernel_rfl)) rfl rfl rfl (Opens.cons (Opens.string Try.underlying9 (by kernel_rfl)) rfl rfl rfl (Opens.last (Opens.int Try.underlying3 (by kernel_rfl)) rfl rfl))) (fun x : S41 => (x.f0, x.f1, x.f2)) (fun y => ⟨y.1, y.2.1, y.2.2⟩) (fun _ => rfl)
/-- What is known of a value of the struct type 44 that came in. -/
def ok44 (x : S44) : Prop := True ∧ (x.f1.length ≤ maxLen ∧ ∀ x_ ∈ x.f1, ok41 x_)
theorem opens44 : Opens Try.prog k44 44 ok44 :=
  Opens.struct Try.underlying44 (by kernel_rfl) (Opens.cons (Opens.bool Try.underlying4 (by kernel_rfl)) rfl rfl rfl (Opens.last (Opens.slice Try.underlying42 (by kernel_rfl) opens41) rfl rfl)) (fun x : S44 => (x.f0, x.f1)) (fun y => ⟨y.1, y.2⟩) (fun _ => rfl)
/-- THE ONE PURE STATEMENT of waybilllaw10_NodeTells. -/
def waybilllaw10_NodeTells.Pure : Prop := ∀ (l0 : List Int) (x1 : S44) (a2 : Int) (a3 : Int) (a4 : Int), (l0.length ≤ maxLen ∧ ∀ x_ ∈ l0, (Lit.int .u8 x_).wf = true) → ok44 x1 → (Lit.int .i64 a2).wf = true → (Lit.int .u8 a3).wf = true → (Lit.int .i64 a4).wf = true → ∃ k, waybilllaw10_NodeTells.f k l0 x1.f0 x1.f1 a2 a3 a4 = some true
theorem waybilllaw10_NodeTells.walk (P : waybilllaw10_NodeTells.Pure) (w : World) (A0 : Option Addr) (c0 : Nat) (l0 : List Int) (hl0 : l0.length ≤ c0) (hC0 : Kd.C (Kd.int .u8) w A0 l0.length l0) (o0 : (l0.length ≤ maxLen ∧ ∀ x_ ∈ l0, (Lit.int .u8 x_).wf = true)) (cs1 : Array Value) (x1 : S44) (hK1 : k44.K w x1 cs1.toList) (o1 : ok44 x1) (a2 : Int) (w2 : (Lit.int .i64 a2).wf = true) (a3 : Int) (w3 : (Lit.int .u8 a3).wf = true) (a4 : Int) (w4 : (Lit.int .i64 a4).wf = true) :
    Calls Try.prog 8 #[.slice A0 l0.length c0, .agg cs1, .int .i64 a2, .int .u8 a3, .int .i64 a4] w fun e w' => e = .returned (.bool true) ∧ Below w.heap.size w w' := by
  obtain ⟨cs1⟩ := cs1
  obtain ⟨A1_1, c1_1, hq1, l1_1, g1_1⟩ := k44_open hK1
  have hq1 : cs1 = _ := hq1
  subst hq1
  obtain ⟨k, h⟩ := P l0 x1 a2 a3 a4 o0 o1 w2 w3 w4
  refine (waybilllaw10_NodeTells.calls k (fun k_ => k_ < w.heap.size) _ _ _ _ (fun k_ => k_ < w.heap.size) _ _ _ _ _ _ true w ⟨_, _, rfl, hl0, Kd.C_F (Kd.heap_int .u8) hC0⟩ ⟨_, _, rfl, l1_1, Kd.C_F (Kd.heap_iso _ (Kd.heap_pair Kd.heap_string (Kd.heap_pair Kd.heap_string (Kd.heap_int .i64)))) g1_1⟩ h).mono ?_
  rintro e w' ⟨rfl, hd⟩
  exact ⟨rfl, hd⟩
end Go.Proofs.Ytfhaffpegncdiaa.PN
