/-
What can be no frame is told as soon as it is seen: by its first octet, by its length, by its end; for any of these.
-/
import Derived.Test.YtlhcjgmdcnmnnaaPAx17
import Derived.Test.YtlhcjgmdcnmnnaaAFramLib
import Derived.Test.YtlhcjgmdcnmnnaaAOctsAwake3
namespace Go.Proofs.Ytlhcjgmdcnmnnaa.Pure
open Go.RowKit Go.Proofs.Ytlhcjgmdcnmnnaa.PA Go.Proofs.YtlhcjgmdcnmnnaaW.PrintWords Go.Proofs.YtlhcjgmdcnmnnaaW.PrintLast Go.Proofs.YtlhcjgmdcnmnnaaW.PrintMore
set_option linter.unusedVariables false
set_option linter.unusedSimpArgs false
theorem and24 (x : Int) : ∃ n : Int, 0 ≤ n ∧ n < 16777216 ∧ Go.bits .and .i64 x 16777215 = n := by
  refine ⟨_, ?_, ?_, rfl⟩
  all_goals
    unfold Go.bits
    have h1 : (BitVec.ofInt (IntKind.i64.bits) x &&& BitVec.ofInt (IntKind.i64.bits) 16777215).toNat ≤ 16777215 := by
      rw [BitVec.toNat_and]
      have : (BitVec.ofInt (IntKind.i64.bits) 16777215).toNat = 16777215 := by decide
      rw [this]
      exact Nat.and_le_right
    simp only []
    rw [IntKind.wrap_i64]
    omega
theorem parse_one (x : Int) : (parseF [x]).2.2.2.2 = if kindB x = true then 2 else 3 := by
  unfold parseF
  by_cases h : kindB x = true
  · simp [h]
  · simp [h]
theorem parse_len (n : Int) (h0 : 0 ≤ n) (h1 : n < 16777216) : (parseF [1, 0, 1, 0, n / 65536 % 256, n / 256 % 256, n % 256]).2.2.2.2 = if n > 4088 then 3 else 2 := by
  unfold parseF
  have e : num ([0, n / 65536 % 256, n / 256 % 256, n % 256]) = n := by
    simp only [num, numA]; omega
  have hk : kindB 1 = true := by decide
  simp only [List.length_cons, List.length_nil, List.getD_cons_zero, List.drop_succ_cons, List.drop_zero, List.take_succ_cons, List.take_zero, hk, e]
  by_cases h : n > 4088
  · simp [h]
  · simp [h]
    rw [if_pos (by omega)]
theorem parse_end (e : Int) : (parseF [2, 0, 1, 0, 0, 0, 1, 120, e]).2.2.2.2 = if e = 206 then 0 else 3 := by
  unfold parseF
  have en : num ([0, 0, 0, 1]) = 1 := by decide
  have hk : kindB 2 = true := by decide
  simp only [List.length_cons, List.length_nil, List.getD_cons_zero, List.drop_succ_cons, List.drop_zero, List.take_succ_cons, List.take_zero, hk, en]
  by_cases h : e = 206
  · simp [h]
  · simp [h]
theorem wrong_j0 (k : Nat) (hk : 50 ≤ k) (a b c : Int) (ha : 0 ≤ a ∧ a < 256) (hc : 0 ≤ c ∧ c < 256) : waybilllaw3_FramWrong.j0 k a b c (kindB a) = some true := by
  obtain ⟨k, rfl⟩ : ∃ m, k = m + 1 := ⟨k - 1, by omega⟩
  obtain ⟨n, h0, h1, en⟩ := and24 b
  simp only [waybilllaw3_FramWrong.j0]
  rw [en, Parse_f k (by omega) [a] (fun x hx => by simp at hx; omega) (by simp), Parse_f k (by omega) _ (fun x hx => by simp at hx; omega) (by simp), Parse_f k (by omega) _ (fun x hx => by simp at hx; omega) (by simp)]
  simp only [Option.bind_some]
  rw [parse_one, parse_len n h0 h1, parse_end]
  by_cases h2 : kindB a = true
  · rw [if_pos h2, h2]
    by_cases h3 : n > 4088
    · have h3' : ¬ n ≤ 4088 := by omega
      by_cases h4 : c = 206
      · simp [h3, h3', h4, awake3_ok _ (show 30 ≤ k by omega)]
      · simp [h3, h3', h4, awake3_ok _ (show 30 ≤ k by omega)]
    · have h3' : n ≤ 4088 := by omega
      by_cases h4 : c = 206
      · simp [h3, h3', h4, awake3_ok _ (show 30 ≤ k by omega)]
      · simp [h3, h3', h4, awake3_ok _ (show 30 ≤ k by omega)]
  · have h2 : kindB a = false := by simpa using h2
    rw [h2]
    by_cases h3 : n > 4088
    · have h3' : ¬ n ≤ 4088 := by omega
      by_cases h4 : c = 206
      · simp [h3, h3', h4, awake3_ok _ (show 30 ≤ k by omega)]
      · simp [h3, h3', h4, awake3_ok _ (show 30 ≤ k by omega)]
    · have h3' : n ≤ 4088 := by omega
      by_cases h4 : c = 206
      · simp [h3, h3', h4, awake3_ok _ (show 30 ≤ k by omega)]
      · simp [h3, h3', h4, awake3_ok _ (show 30 ≤ k by omega)]
theorem FramWrong : waybilllaw3_FramWrong.Pure := by
  intro a b c ha _ hc
  have ha : 0 ≤ a ∧ a < 256 := by simp [Lit.wf, IntKind.min, IntKind.max, IntKind.signed, IntKind.bits] at ha; omega
  have hc : 0 ≤ c ∧ c < 256 := by simp [Lit.wf, IntKind.min, IntKind.max, IntKind.signed, IntKind.bits] at hc; omega
  have h := wrong_j0 60 (by omega) a b c ha hc
  refine ⟨60, ?_⟩
  unfold waybilllaw3_FramWrong.f
  unfold kindB at h
  by_cases h1 : a ≥ 1
  · rw [if_pos h1]
    by_cases h2 : a ≤ 3
    · rw [if_pos h2]; rw [decide_eq_true (by omega)] at h; exact h
    · rw [if_neg h2]
      have : (a == 8) = decide ((1 ≤ a ∧ a ≤ 3) ∨ a = 8) := by rw [Bool.eq_iff_iff]; simp; omega
      rw [this]; exact h
  · rw [if_neg h1]
    have : (a == 8) = decide ((1 ≤ a ∧ a ≤ 3) ∨ a = 8) := by rw [Bool.eq_iff_iff]; simp; omega
    rw [this]; exact h
end Go.Proofs.Ytlhcjgmdcnmnnaa.Pure
