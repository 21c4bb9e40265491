/-
A frame has as many octets as the bound says at most, with its head and its end: any length around the bound, any kind, any channel.
-/
import Derived.Test.YtlhcjgmdcnmnnaaPAx13
import Derived.Test.YtlhcjgmdcnmnnaaAFramLib
import Derived.Test.YtlhcjgmdcnmnnaaAOctsAwake3
namespace Go.Proofs.Ytlhcjgmdcnmnnaa.Pure
open Go.RowKit Go.Proofs.Ytlhcjgmdcnmnnaa.PA Go.Proofs.YtlhcjgmdcnmnnaaW.PrintWords Go.Proofs.YtlhcjgmdcnmnnaaW.PrintLast Go.Proofs.YtlhcjgmdcnmnnaaW.PrintMore
set_option linter.unusedVariables false
set_option linter.unusedSimpArgs false
theorem and15 (x : Int) : 0 ≤ Go.bits .and .i64 x 15 ∧ Go.bits .and .i64 x 15 < 16 := by
  unfold Go.bits
  have h1 : (BitVec.ofInt (IntKind.i64.bits) x &&& BitVec.ofInt (IntKind.i64.bits) 15).toNat ≤ 15 := by
    rw [BitVec.toNat_and]
    have : (BitVec.ofInt (IntKind.i64.bits) 15).toNat = 15 := by decide
    rw [this]
    exact Nat.and_le_right
  simp only []
  rw [IntKind.wrap_i64]
  omega
theorem FramSize : waybilllaw3_FramSize.Pure := by
  intro a b c _ _ _
  have hm := and15 a
  have hq := and15 b
  refine ⟨60, ?_⟩
  unfold waybilllaw3_FramSize.f
  generalize Go.bits .and .i64 a 15 = m at hm ⊢
  generalize Go.bits .and .i64 b 15 = q at hq ⊢
  rw [w64_id (4080 + m) (by omega) (by omega), w64_id (4080 + m + 8) (by omega) (by omega), if_pos (by omega), if_pos (by omega), Append_f 60 (by omega) _ _ _ _ (by simp)]
  have hlB : (List.replicate (4080 + m).toNat (0 : Int)).length = (4080 + m).toNat := List.length_replicate
  generalize List.replicate (4080 + m).toNat (0 : Int) = B at hlB ⊢
  have hfl : ((frame q c B).length : Int) = 4080 + m + 8 := by rw [frame_len]; omega
  have haw := awake3_ok 60 (by omega)
  simp only [Option.bind_some, List.nil_append]
  unfold frameOk kindB
  by_cases h1 : 4080 + m ≤ 4088
  · have h1' : B.length ≤ 4088 := by omega
    have h1'' : ((frame q c B).length : Int) ≤ 4096 := by omega
    rw [if_pos h1]
    by_cases h2 : q ≥ 1
    · rw [if_pos h2]
      by_cases h3 : q ≤ 3
      · rw [if_pos h3]
        have hk : ((1 ≤ q ∧ q ≤ 3) ∨ q = 8) := by omega
        by_cases h4 : c ≥ 0
        · have h4' : 0 ≤ c := h4
          by_cases h5 : c ≤ 65535
          · simp [h1', h4', h5, hk, hfl, haw]; omega
          · simp [h1', h4', h5, hk, haw]
        · have h4' : ¬ 0 ≤ c := h4
          simp [h1', h4', hk, haw]
      · rw [if_neg h3]
        by_cases h6 : q = 8
        · subst h6
          by_cases h4 : c ≥ 0
          · have h4' : 0 ≤ c := h4
            by_cases h5 : c ≤ 65535
            · simp [h1', h4', h5, hfl, haw]; omega
            · simp [h1', h4', h5, haw]
          · have h4' : ¬ 0 ≤ c := h4
            simp [h1', h4', haw]
        · have hk : ¬ ((1 ≤ q ∧ q ≤ 3) ∨ q = 8) := by omega
          simp only [decide_eq_false hk, Bool.false_and]
          simp [h6, haw]
    · rw [if_neg h2]
      have h6 : ¬ q = 8 := by omega
      have hk : ¬ ((1 ≤ q ∧ q ≤ 3) ∨ q = 8) := by omega
      simp only [decide_eq_false hk, Bool.false_and]
      simp [h6, haw]
  · have h1' : ¬ B.length ≤ 4088 := by omega
    rw [if_neg h1]
    simp [h1', haw]
end Go.Proofs.Ytlhcjgmdcnmnnaa.Pure
