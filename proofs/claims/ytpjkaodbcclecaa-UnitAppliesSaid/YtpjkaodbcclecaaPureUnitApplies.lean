/-
The law of ops that are done to a map: it answers true.
-/
import Derived.Test.YtpjkaodbcclecaaMUnitApplyWalk
import Derived.Test.YtpjkaodbcclecaaBaseUnitApplies
import Derived.Test.YtpjkaodbcclecaaRWords
import Derived.KernelRfl
namespace Go.Proofs.Ytpjkaodbcclecaa.PM
open Go.RowKit Go.Proofs.YtpjkaodbcclecaaW.PrintWords Go.Proofs.YtpjkaodbcclecaaW.PrintLast
set_option linter.unusedVariables false
/-- What is known of a value of the struct type 38 that came in. -/
def ok38 (x : S38) : Prop := x.f0.size ≤ maxLen ∧ (True ∧ (x.f2.length ≤ maxLen ∧ ∀ x_ ∈ x.f2, (Lit.int .u8 x_).wf = true))
theorem opens38 : Opens Try.prog k38 38 ok38 :=
  Opens.struct Try.underlying38 (by kernel_rfl) (Opens.cons (Opens.string Try.underlying9 (by kernel_rfl)) rfl rfl rfl (Opens.cons (Opens.bool Try.underlying4 (by kernel_rfl)) rfl rfl rfl (Opens.last (Opens.slice Try.underlying26 (by kernel_rfl) (Opens.int Try.underlying5 (by kernel_rfl))) rfl rfl))) (fun x : S38 => (x.f0, x.f1, x.f2)) (fun y => ⟨y.1, y.2.1, y.2.2⟩) (fun _ => rfl)
theorem waybilllaw13_UnitApplies.walk (w : World) (A0 : Option Addr) (c0 : Nat) (l0 : List (S38)) (hl0 : l0.length ≤ c0) (hC0 : Kd.C k38 w A0 l0.length l0) (o0 : (l0.length ≤ maxLen ∧ ∀ x_ ∈ l0, ok38 x_)) (A1 : Option Addr) (c1 : Nat) (l1 : List (S38)) (hl1 : l1.length ≤ c1) (hC1 : Kd.C k38 w A1 l1.length l1) (o1 : (l1.length ≤ maxLen ∧ ∀ x_ ∈ l1, ok38 x_)) (a2 : Int) (w2 : (Lit.int .i64 a2).wf = true) :
    Calls Try.prog 9 #[.slice A0 l0.length c0, .slice A1 l1.length c1, .int .i64 a2] w fun e w' => e = .returned (.bool true) ∧ Below w.heap.size w w' := by
  obtain ⟨s0, hs0, hb0⟩ := Pure.Small_f 500 l0 (by omega)
  obtain ⟨s1, hs1, hb1⟩ := Pure.Small_f 500 l1 (by omega)
  have haw := Pure.awake13_ok 500 (by omega)
  by_cases hf : s0 = false ∨ s1 = false
  · exact waybilllaw13_UnitApplies.calls0 500 A0 c0 l0 A1 c1 l1 a2 w hC0 hl0 hC1 hl1 s0 s1 hs0 hs1 hf haw
  · have e0 : s0 = true := by cases s0 <;> simp_all
    have e1 : s1 = true := by cases s1 <;> simp_all
    subst e0 e1
    obtain ⟨t0, ht0, hm0, hn0⟩ := Pure.Tame_f 500 l0 (hb0 rfl) (fun x hx => Pure.oct_wf (o0.2 x hx).2.2.2) (by omega)
    obtain ⟨t1, ht1, hm1, hn1⟩ := Pure.Tame_f 500 l1 (hb1 rfl) (fun x hx => Pure.oct_wf (o1.2 x hx).2.2.2) (by omega)
    have hML : 1000 < maxLen := by decide
    refine waybilllaw13_UnitApplies.calls1 500 A0 c0 l0 A1 c1 l1 a2 w hC0 hl0 hC1 hl1 hs0 hs1 haw t0 t1 (t0 ++ t1) ht0 ht1 rfl (by rw [List.length_append]; omega) (fun x hx => ?_)
    have hx' : Pure.tame x := by
      rcases List.mem_append.1 hx with h | h
      · exact hm0 x h
      · exact hm1 x h
    exact ⟨Nat.le_trans hx'.2.1 (by omega), Nat.le_trans hx'.2.2.1 (by omega)⟩
end Go.Proofs.Ytpjkaodbcclecaa.PM
