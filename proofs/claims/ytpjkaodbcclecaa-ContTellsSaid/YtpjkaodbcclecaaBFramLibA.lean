/-
What the printed functions of the package fram come to, in plain Lean: which frames may be, and their octets.
Conditions: lengths below a fixed bound; octets where octets are read.
-/
import Derived.Test.YtpjkaodbcclecaaPBx11
import Derived.Test.YtpjkaodbcclecaaBOctsStr
namespace Go.Proofs.Ytpjkaodbcclecaa.Pure
open Go.RowKit Go.Proofs.Ytpjkaodbcclecaa.PB Go.Proofs.YtpjkaodbcclecaaW.PrintWords Go.Proofs.YtpjkaodbcclecaaW.PrintLast Go.Proofs.YtpjkaodbcclecaaW.PrintMore
set_option linter.unusedVariables false
set_option linter.unusedSimpArgs false
def kindB (a : Int) : Bool := decide ((1 ≤ a ∧ a ≤ 3) ∨ a = 8)
theorem kind_f (a : Int) : fram_kind.f a = some (kindB a) := by
  unfold fram_kind.f kindB
  by_cases h1 : a ≥ 1
  · by_cases h2 : a ≤ 3
    · rw [if_pos h1, if_pos h2, decide_eq_true (by omega)]
    · rw [if_pos h1, if_neg h2]
      by_cases h3 : a = 8
      · subst h3; rfl
      · rw [decide_eq_false (by omega), beq_eq_false_iff_ne.2 h3]
  · rw [if_neg h1]
    rw [decide_eq_false (by omega), beq_eq_false_iff_ne.2 (by omega)]
def frameOk (kind ch : Int) (B : List Int) : Bool := kindB kind && (decide (0 ≤ ch) && (decide (ch ≤ 65535) && decide (B.length ≤ 4088)))
def frame (kind ch : Int) (B : List Int) : List Int := be 1 kind ++ (be 2 ch ++ (be 4 (B.length : Int) ++ (B ++ [206])))
theorem frame_len (kind ch : Int) (B : List Int) : (frame kind ch B).length = 8 + B.length := by
  unfold frame
  simp [be_len]
  omega
theorem frame_oct (kind ch : Int) {B : List Int} (hB : Oct B) : Oct (frame kind ch B) :=
  oct_app (be_oct _ _) (oct_app (be_oct _ _) (oct_app (be_oct _ _) (oct_app hB (fun x hx => by simp at hx; omega))))
theorem FLong_f (k : Nat) (l t : List Int) (hk : 9 ≤ k) (hl : l.length + t.length + 300 < 140737488355328) : octs_Long.f k l t = some (l ++ (be 4 (t.length : Int) ++ t)) := by
  unfold octs_Long.f
  have h4 : wd 4 = 4 := by decide
  have h1 := be_len 4 (t.length : Int)
  rw [u64_id _ (by omega) (by omega), Int_f k hk l 4 _ (by omega), h4]
  simp only [Option.bind_some]
  rw [if_pos (by simp [h1]; omega), List.append_assoc]
theorem Append_bad (k : Nat) (hk : 1 ≤ k) (l : List Int) (kind ch : Int) (B : List Int) (hl : l.length < 140737488355328) : fram_Append.j0 k l true kind ch B = some (l, false) := by
  obtain ⟨k, rfl⟩ : ∃ m, k = m + 1 := ⟨k - 1, by omega⟩
  simp only [fram_Append.j0]
  unfold slices_Clone_byte_byte.f
  rw [if_pos trivial, if_pos hl]
  rfl
theorem Append_good (k : Nat) (hk : 20 ≤ k) (l : List Int) (kind ch : Int) (B : List Int) (hl : l.length + 10000 < 140737488355328) (h0 : 0 ≤ kind) (h1 : kind ≤ 8) (h2 : 0 ≤ ch) (h3 : ch ≤ 65535) (hB : B.length ≤ 4088) :
    fram_Append.j0 k l false kind ch B = some (l ++ frame kind ch B, true) := by
  obtain ⟨k, rfl⟩ : ∃ m, k = m + 1 := ⟨k - 1, by omega⟩
  have w1 : wd 1 = 1 := by decide
  have w2 : wd 2 = 2 := by decide
  have l1 := be_len 1 kind
  have l2 := be_len 2 ch
  have l4 := be_len 4 (B.length : Int)
  simp only [fram_Append.j0]
  rw [if_neg (by decide), u64_id _ h0 (by omega), u64_id _ h2 (by omega), Int_f _ (by omega) _ _ _ (by omega), w1]
  simp only [Option.bind_some]
  rw [Int_f _ (by omega) _ _ _ (by simp [l1]; omega), w2]
  simp only [Option.bind_some]
  rw [FLong_f _ _ _ (by omega) (by simp [l1, l2]; omega)]
  simp only [Option.bind_some]
  rw [if_pos (by simp [l1, l2, l4]; omega)]
  unfold frame
  simp only [List.append_assoc]
theorem Append_f (k : Nat) (hk : 20 ≤ k) (l : List Int) (kind ch : Int) (B : List Int) (hl : l.length + 10000 < 140737488355328) :
    fram_Append.f k l kind ch B = some (if frameOk kind ch B = true then (l ++ frame kind ch B, true) else (l, false)) := by
  unfold fram_Append.f frameOk
  rw [kind_f]
  simp only [Option.bind_some]
  by_cases hk1 : kindB kind = true
  · rw [if_pos hk1, hk1]
    have hr : 1 ≤ kind ∧ kind ≤ 8 := by unfold kindB at hk1; have := of_decide_eq_true hk1; omega
    by_cases h1 : ch < 0
    · rw [if_pos h1, Append_bad k (by omega) _ _ _ _ (by omega), decide_eq_false (by omega)]; rfl
    · rw [if_neg h1]
      by_cases h2 : ch > 65535
      · rw [if_pos h2, Append_bad k (by omega) _ _ _ _ (by omega), decide_eq_true (by omega), decide_eq_false (by omega : ¬ ch ≤ 65535)]; rfl
      · rw [if_neg h2]
        by_cases h3 : B.length ≤ 4088
        · rw [decide_eq_false (by omega), Append_good k hk _ _ _ _ hl (by omega) (by omega) (by omega) (by omega) h3, decide_eq_true (by omega), decide_eq_true (by omega), decide_eq_true h3]; rfl
        · rw [decide_eq_true (by omega), Append_bad k (by omega) _ _ _ _ (by omega), decide_eq_false h3]; simp
  · rw [if_neg hk1, Append_bad k (by omega) _ _ _ _ (by omega)]
    simp [hk1]
theorem ok_of {kind ch : Int} {B : List Int} (h : frameOk kind ch B = true) : kindB kind = true ∧ (1 ≤ kind ∧ kind ≤ 8) ∧ (0 ≤ ch ∧ ch ≤ 65535) ∧ B.length ≤ 4088 := by
  unfold frameOk at h
  rw [Bool.and_eq_true, Bool.and_eq_true, Bool.and_eq_true] at h
  have h1 := of_decide_eq_true h.2.1
  have h2 := of_decide_eq_true h.2.2.1
  have h3 := of_decide_eq_true h.2.2.2
  have h4 : 1 ≤ kind ∧ kind ≤ 8 := by have := h.1; unfold kindB at this; have := of_decide_eq_true this; omega
  exact ⟨h.1, h4, ⟨h1, h2⟩, h3⟩
end Go.Proofs.Ytpjkaodbcclecaa.Pure
