/-
What the printed functions of the package fram come to, in plain Lean: which frames may be, their octets, what octets begin with.
Conditions: lengths below a fixed bound; octets where octets are read.
-/
import Derived.Test.YtlhcjgmdcnmnnaaPAx10
import Derived.Test.YtlhcjgmdcnmnnaaAOctsStr
namespace Go.Proofs.Ytlhcjgmdcnmnnaa.Pure
open Go.RowKit Go.Proofs.Ytlhcjgmdcnmnnaa.PA Go.Proofs.YtlhcjgmdcnmnnaaW.PrintWords Go.Proofs.YtlhcjgmdcnmnnaaW.PrintLast Go.Proofs.YtlhcjgmdcnmnnaaW.PrintMore
set_option linter.unusedVariables false
set_option linter.unusedSimpArgs false
def kindB (a : Int) : Bool := decide ((1 ≤ a ∧ a ≤ 3) ∨ a = 8)
theorem kind_f (a : Int) : fram_kind.f a = some (kindB a) := by
  unfold fram_kind.f kindB
  by_cases h1 : a ≥ 1
  · by_cases h2 : a ≤ 3
    · rw [if_pos h1, if_pos h2, decide_eq_true (by omega)]
    · rw [if_pos h1, if_neg h2]
      by_cases h3 : a = 8
      · subst h3; rfl
      · rw [decide_eq_false (by omega), beq_eq_false_iff_ne.2 h3]
  · rw [if_neg h1]
    rw [decide_eq_false (by omega), beq_eq_false_iff_ne.2 (by omega)]
def frameOk (kind ch : Int) (B : List Int) : Bool := kindB kind && (decide (0 ≤ ch) && (decide (ch ≤ 65535) && decide (B.length ≤ 4088)))
def frame (kind ch : Int) (B : List Int) : List Int := be 1 kind ++ (be 2 ch ++ (be 4 (B.length : Int) ++ (B ++ [206])))
theorem frame_len (kind ch : Int) (B : List Int) : (frame kind ch B).length = 8 + B.length := by
  unfold frame
  simp [be_len]
  omega
theorem frame_oct (kind ch : Int) {B : List Int} (hB : Oct B) : Oct (frame kind ch B) :=
  oct_app (be_oct _ _) (oct_app (be_oct _ _) (oct_app (be_oct _ _) (oct_app hB (fun x hx => by simp at hx; omega))))
theorem FLong_f (k : Nat) (l t : List Int) (hk : 9 ≤ k) (hl : l.length + t.length + 300 < 140737488355328) : octs_Long.f k l t = some (l ++ (be 4 (t.length : Int) ++ t)) := by
  unfold octs_Long.f
  have h4 : wd 4 = 4 := by decide
  have h1 := be_len 4 (t.length : Int)
  rw [u64_id _ (by omega) (by omega), Int_f k hk l 4 _ (by omega), h4]
  simp only [Option.bind_some]
  rw [if_pos (by simp [h1]; omega), List.append_assoc]
theorem Append_bad (k : Nat) (hk : 1 ≤ k) (l : List Int) (kind ch : Int) (B : List Int) (hl : l.length < 140737488355328) : fram_Append.j0 k l true kind ch B = some (l, false) := by
  obtain ⟨k, rfl⟩ : ∃ m, k = m + 1 := ⟨k - 1, by omega⟩
  simp only [fram_Append.j0]
  unfold slices_Clone_byte_byte.f
  rw [if_pos trivial, if_pos hl]
  rfl
theorem Append_good (k : Nat) (hk : 20 ≤ k) (l : List Int) (kind ch : Int) (B : List Int) (hl : l.length + 10000 < 140737488355328) (h0 : 0 ≤ kind) (h1 : kind ≤ 8) (h2 : 0 ≤ ch) (h3 : ch ≤ 65535) (hB : B.length ≤ 4088) :
    fram_Append.j0 k l false kind ch B = some (l ++ frame kind ch B, true) := by
  obtain ⟨k, rfl⟩ : ∃ m, k = m + 1 := ⟨k - 1, by omega⟩
  have w1 : wd 1 = 1 := by decide
  have w2 : wd 2 = 2 := by decide
  have l1 := be_len 1 kind
  have l2 := be_len 2 ch
  have l4 := be_len 4 (B.length : Int)
  simp only [fram_Append.j0]
  rw [if_neg (by decide), u64_id _ h0 (by omega), u64_id _ h2 (by omega), Int_f _ (by omega) _ _ _ (by omega), w1]
  simp only [Option.bind_some]
  rw [Int_f _ (by omega) _ _ _ (by simp [l1]; omega), w2]
  simp only [Option.bind_some]
  rw [FLong_f _ _ _ (by omega) (by simp [l1, l2]; omega)]
  simp only [Option.bind_some]
  rw [if_pos (by simp [l1, l2, l4]; omega)]
  unfold frame
  simp only [List.append_assoc]
theorem Append_f (k : Nat) (hk : 20 ≤ k) (l : List Int) (kind ch : Int) (B : List Int) (hl : l.length + 10000 < 140737488355328) :
    fram_Append.f k l kind ch B = some (if frameOk kind ch B = true then (l ++ frame kind ch B, true) else (l, false)) := by
  unfold fram_Append.f frameOk
  rw [kind_f]
  simp only [Option.bind_some]
  by_cases hk1 : kindB kind = true
  · rw [if_pos hk1, hk1]
    have hr : 1 ≤ kind ∧ kind ≤ 8 := by unfold kindB at hk1; have := of_decide_eq_true hk1; omega
    by_cases h1 : ch < 0
    · rw [if_pos h1, Append_bad k (by omega) _ _ _ _ (by omega), decide_eq_false (by omega)]; rfl
    · rw [if_neg h1]
      by_cases h2 : ch > 65535
      · rw [if_pos h2, Append_bad k (by omega) _ _ _ _ (by omega), decide_eq_true (by omega), decide_eq_false (by omega : ¬ ch ≤ 65535)]; rfl
      · rw [if_neg h2]
        by_cases h3 : B.length ≤ 4088
        · rw [decide_eq_false (by omega), Append_good k hk _ _ _ _ hl (by omega) (by omega) (by omega) (by omega) h3, decide_eq_true (by omega), decide_eq_true (by omega), decide_eq_true h3]; rfl
        · rw [decide_eq_true (by omega), Append_bad k (by omega) _ _ _ _ (by omega), decide_eq_false h3]; simp
  · rw [if_neg hk1, Append_bad k (by omega) _ _ _ _ (by omega)]
    simp [hk1]
/-- What octets begin with. -/
def parseF (l : List Int) : Int × Int × List Int × Int × Int :=
  if l.length = 0 then (0, 0, [], 0, 2) else if kindB (l.getD 0 0) = false then (0, 0, [], 0, 3) else if l.length < 7 then (0, 0, [], 0, 2) else
  if num ((l.drop 3).take 4) > 4088 then (0, 0, [], 0, 3) else if (l.length : Int) ≤ 7 + num ((l.drop 3).take 4) then (0, 0, [], 0, 2) else
  if l.getD (7 + num ((l.drop 3).take 4)).toNat 0 = 206 then (l.getD 0 0, num ((l.drop 1).take 2), (l.take (7 + num ((l.drop 3).take 4)).toNat).drop 7, 8 + num ((l.drop 3).take 4), 0) else (0, 0, [], 0, 3)
theorem Parse_f (k : Nat) (hk : 20 ≤ k) (l : List Int) (ho : Oct l) (hl : l.length < 140737488355328) : fram_Parse.f k l = some (parseF l) := by
  unfold fram_Parse.f parseF
  by_cases h0 : l.length = 0
  · rw [if_pos (by omega), if_pos h0]
  rw [if_neg (by omega), if_neg h0, if_pos (by omega)]
  have hg := getD_oct ho 0
  have e0 : rd l 0 = l.getD 0 0 := rfl
  rw [e0, w64_id _ (by omega) (by omega), kind_f]
  simp only [Option.bind_some]
  by_cases h1 : kindB (l.getD 0 0) = true
  · rw [if_pos h1, if_neg (show ¬ kindB (l.getD 0 0) = false by rw [h1]; simp)]
    by_cases h2 : l.length < 7
    · rw [if_pos (by omega), if_pos h2]
    rw [if_neg (by omega), if_neg h2]
    unfold octs_From.f
    simp only [Option.bind_some]
    have w1 : wd 1 = 1 := by decide
    have w2 : wd 2 = 2 := by decide
    have w4 : wd 4 = 4 := by decide
    rw [In_Int k l 1 (by omega) ho hl, w1, if_neg (by omega)]
    simp only [Option.bind_some]
    rw [In_Int k (l.drop 1) 2 (by omega) (oct_drop ho _) (by simp; omega), w2, if_neg (by simp; omega)]
    simp only [Option.bind_some]
    rw [In_Int k ((l.drop 1).drop 2) 4 (by omega) (oct_drop (oct_drop ho _) _) (by simp; omega), w4, if_neg (by simp; omega)]
    simp only [Option.bind_some, List.drop_drop, Nat.reduceAdd]
    have hb := num_bound ((l.drop 3).take 4) (oct_take (oct_drop ho 3) 4)
    have hb4 : ((l.drop 3).take 4).length = 4 := by simp; omega
    rw [hb4] at hb
    generalize hn : num ((l.drop 3).take 4) = n at *
    by_cases h3 : n > 4088
    · rw [if_pos h3, if_pos h3]
    rw [if_neg h3, if_neg h3, w64_id n (by omega) (by omega), w64_id (7 + n) (by omega) (by omega)]
    by_cases h4 : (l.length : Int) ≤ 7 + n
    · rw [if_pos h4, if_pos h4]
    rw [if_neg h4, if_neg h4, if_pos (by omega), if_pos (by omega)]
    have e1 : rd l (7 + n) = l.getD (7 + n).toNat 0 := rfl
    rw [e1]
    by_cases h5 : l.getD (7 + n).toNat 0 = 206
    · rw [if_pos h5, if_pos h5, if_pos (by omega), if_pos (by omega)]
      unfold slices_Clone_byte_byte.f
      rw [if_pos (by simp; omega)]
      simp only [Option.bind_some]
      have hb1 := num_bound (l.take 1) (oct_take ho 1)
      have hb1l : (l.take 1).length = 1 := by simp; omega
      rw [hb1l] at hb1
      have hb2 := num_bound ((l.drop 1).take 2) (oct_take (oct_drop ho 1) 2)
      have hb2l : ((l.drop 1).take 2).length = 2 := by simp; omega
      rw [hb2l] at hb2
      have hk1 : num (l.take 1) = l.getD 0 0 := by
        cases l with
        | nil => simp at h0
        | cons c l => simp [num, numA]
      rw [w64_id (num (l.take 1)) (by omega) (by omega), w64_id (num ((l.drop 1).take 2)) (by omega) (by omega), w64_id (7 + n + 1) (by omega) (by omega), hk1]
      have e8 : 7 + n + 1 = 8 + n := by omega
      rw [e8]
    · rw [if_neg h5, if_neg h5]
  · rw [if_neg h1, if_pos (show kindB (l.getD 0 0) = false by simpa using h1)]
end Go.Proofs.Ytlhcjgmdcnmnnaa.Pure
