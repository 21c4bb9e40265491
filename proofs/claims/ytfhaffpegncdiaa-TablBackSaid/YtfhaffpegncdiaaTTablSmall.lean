/-
Small of the statements of tables: it answers, and what it lets in has short texts; numbers of what came in.
-/
import Derived.Test.YtfhaffpegncdiaaTTablSpec
import Derived.Test.YtfhaffpegncdiaaTTablOpens
import Derived.Test.YtfhaffpegncdiaaPTx7
namespace Go.Proofs.Ytfhaffpegncdiaa.PT
open Go.RowKit Go.Proofs.Ytfhaffpegncdiaa.Pure Go.Proofs.YtfhaffpegncdiaaW.PrintWords Go.Proofs.YtfhaffpegncdiaaW.PrintLast Go.Proofs.YtfhaffpegncdiaaW.PrintMore
set_option linter.unusedVariables false
set_option linter.unusedSimpArgs false
namespace Tb
/-- Small enough, n levels deep. -/
def Sm : Nat → List S24 → Prop
  | 0, _ => False
  | n + 1, l => l.length ≤ 30 ∧ ∀ x ∈ l, x.f0.size ≤ 300 ∧ x.f3.size ≤ 3000 ∧ Sm n x.f4
theorem tame_Sm : ∀ (m n : Nat) (l : List S24), Sm n l → tame m l = true
  | 0, _, _, _ => by simp [tame]
  | m + 1, 0, _, h => h.elim
  | m + 1, n + 1, l, h => tame_of (fun x hx => by
    obtain ⟨h1, h2, h3⟩ := h.2 x hx
    exact ⟨⟨by omega, by omega⟩, tame_Sm m n x.f4 h3⟩)
theorem Sm_len {n : Nat} {l : List S24} (h : Sm n l) : l.length ≤ 30 := by
  cases n with
  | zero => exact h.elim
  | succ n => exact h.1
theorem i64_of {v : Int} (h : (Lit.int .i64 v).wf = true) : -9223372036854775808 ≤ v ∧ v ≤ 9223372036854775807 := by
  simp [Lit.wf, IntKind.min, IntKind.max, IntKind.signed, IntKind.bits] at h
  omega
theorem rng_of : ∀ (n : Nat) (l : List S24), (∀ x ∈ l, ok24 x) → rng n l
  | 0, _, _ => trivial
  | n + 1, l, h => fun x hx => by
    cases h x hx with
    | mk _ _ _ h2 _ _ h4 => exact ⟨i64_of h2, rng_of n x.f4 h4⟩
theorem small_l0 (n : Nat) (l : List S24) (a1 : Int) (hl : l.length ≤ 30) (hs : ∀ x ∈ l, ∃ k b, waybilllaw2_Small.f k x.f4 (wrap64 (a1 + 1)) = some b ∧ (b = true → Sm n x.f4)) :
    ∀ (d i : Nat), i + d = l.length → ∃ k b, waybilllaw2_Small.l0 k l a1 (i : Int) = some b ∧ (b = true → ∀ x ∈ l.drop i, x.f0.size ≤ 300 ∧ x.f3.size ≤ 3000 ∧ Sm n x.f4) := by
  intro d
  induction d with
  | zero =>
    intro i hi
    refine ⟨1, true, ?_, fun _ => ?_⟩
    · simp only [waybilllaw2_Small.l0]
      rw [if_neg (by omega)]
    · rw [List.drop_eq_nil_of_le (by omega)]; simp
  | succ d ih =>
    intro i hi
    have hx := mem24 l (i : Int) (by omega) (by omega)
    have hd := Tb.drop24 l i (by omega)
    have hw : wrap64 ((i : Int) + 1) = ((i + 1 : Nat) : Int) := by unfold wrap64; omega
    obtain ⟨k1, b1, h1, g1⟩ := hs _ hx
    obtain ⟨k2, b2, h2, g2⟩ := ih (i + 1) (by omega)
    have e1 := Tb.up (fun k => waybilllaw2_Small.mono _ _ k) h1 k2
    have e2 := Tb.up (fun k => (waybilllaw2_Small.mono_l k).2.2 l a1 ((i + 1 : Nat) : Int)) h2 k1
    rw [Nat.add_comm k2 k1] at e2
    have hx0 : rd_T24 l (i : Int) ∈ l.drop i := by rw [hd]; simp
    by_cases c1 : ((rd_T24 l (i : Int)).f0.size : Int) > 300
    · refine ⟨1, false, ?_, by simp⟩
      simp only [waybilllaw2_Small.l0]
      rw [if_pos (by omega), if_pos (by omega), if_pos c1]
    · by_cases c2 : ((rd_T24 l (i : Int)).f3.size : Int) > 3000
      · refine ⟨1, false, ?_, by simp⟩
        simp only [waybilllaw2_Small.l0]
        rw [if_pos (by omega), if_pos (by omega), if_neg c1, if_pos c2]
      · cases b1 with
        | false =>
          refine ⟨k1 + k2 + 1, false, ?_, by simp⟩
          simp only [waybilllaw2_Small.l0]
          rw [if_pos (by omega), if_pos (by omega), if_neg c1, if_neg c2, e1, Option.bind_some, if_neg (by simp)]
        | true =>
          refine ⟨k1 + k2 + 1, b2, ?_, fun h y hy => ?_⟩
          · simp only [waybilllaw2_Small.l0]
            rw [if_pos (by omega), if_pos (by omega), if_neg c1, if_neg c2, e1, Option.bind_some, if_pos rfl, hw]
            exact e2
          · rw [hd] at hy
            rcases List.mem_cons.1 hy with rfl | hy
            · exact ⟨by omega, by omega, g1 rfl⟩
            · exact g2 h y hy
theorem small_f : ∀ (n : Nat) (l : List S24) (a1 : Int), 1 ≤ a1 → (13 - a1).toNat = n → ∃ k b, waybilllaw2_Small.f k l a1 = some b ∧ (b = true → Sm n l) := by
  intro n
  induction n with
  | zero =>
    intro l a1 h1 hn
    refine ⟨2, false, ?_, by simp⟩
    simp only [waybilllaw2_Small.f, waybilllaw2_Small.j0]
    rw [decide_eq_true (by omega : a1 > 12)]
    split <;> rfl
  | succ n ih =>
    intro l a1 h1 hn
    by_cases hl : l.length ≤ 30
    · have hw : wrap64 (a1 + 1) = a1 + 1 := by unfold wrap64; omega
      obtain ⟨k, b, hk, hb⟩ := small_l0 n l a1 hl (fun x _ => by rw [hw]; exact ih x.f4 (a1 + 1) (by omega) (by omega)) l.length 0 (by omega)
      refine ⟨k + 2, b, ?_, fun h => ⟨hl, by have := hb h; rwa [List.drop_zero] at this⟩⟩
      simp only [waybilllaw2_Small.f, waybilllaw2_Small.j0]
      rw [if_neg (by omega), decide_eq_false (by omega : ¬ a1 > 12), if_neg (by simp)]
      exact hk
    · refine ⟨2, false, ?_, by simp⟩
      simp only [waybilllaw2_Small.f, waybilllaw2_Small.j0]
      rw [if_pos (by omega)]
      simp
end Tb
end Go.Proofs.Ytfhaffpegncdiaa.PT
