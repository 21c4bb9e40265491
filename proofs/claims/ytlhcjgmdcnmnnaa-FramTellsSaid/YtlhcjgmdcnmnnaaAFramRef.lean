/-
The document's own frames: which may be, their octets, what octets begin with; the same as the given program's.
-/
import Derived.Test.YtlhcjgmdcnmnnaaPAx14
import Derived.Test.YtlhcjgmdcnmnnaaPAx15
import Derived.Test.YtlhcjgmdcnmnnaaAFramTxt
import Derived.Test.YtlhcjgmdcnmnnaaAOctsRefPut
import Derived.Test.YtlhcjgmdcnmnnaaAOctsRefNum
namespace Go.Proofs.Ytlhcjgmdcnmnnaa.Pure
open Go.RowKit Go.Proofs.Ytlhcjgmdcnmnnaa.PA Go.Proofs.YtlhcjgmdcnmnnaaW.PrintWords Go.Proofs.YtlhcjgmdcnmnnaaW.PrintLast Go.Proofs.YtlhcjgmdcnmnnaaW.PrintMore
set_option linter.unusedVariables false
set_option linter.unusedSimpArgs false
theorem kindOk_f (a : Int) : waybillref1_kindOk.f a = some (kindB a) := kind_f a
theorem FrameOk_f (kind ch : Int) (B : List Int) : waybillref1_FrameOk.f kind ch B = some (frameOk kind ch B) := by
  unfold waybillref1_FrameOk.f frameOk
  rw [kindOk_f, Option.bind_some]
  cases hk : kindB kind with
  | false => rw [if_neg (by simp)]; rfl
  | true =>
    rw [if_pos rfl]
    by_cases h1 : ch ≥ 0
    · rw [if_pos h1, decide_eq_true (show 0 ≤ ch from h1)]
      by_cases h2 : ch ≤ 65535
      · rw [if_pos h2, decide_eq_true h2]
        congr 1
        by_cases h3 : B.length ≤ 4088
        · rw [decide_eq_true h3, decide_eq_true (by omega)]; rfl
        · rw [decide_eq_false h3, decide_eq_false (by omega)]; rfl
      · rw [if_neg h2, decide_eq_false h2]; rfl
    · rw [if_neg h1, decide_eq_false (show ¬ 0 ≤ ch from h1)]; rfl
theorem RLong_f (k : Nat) (hk : 9 ≤ k) (l t : List Int) (hl : l.length + t.length + 300 < 140737488355328) : waybillref1_Long.f k l t = some (l ++ (be 4 (t.length : Int) ++ t)) := by
  unfold waybillref1_Long.f
  have h4 := be_len 4 (t.length : Int)
  rw [u64_id _ (by omega) (by omega), show (4 : Int) = ((4 : Nat) : Int) from rfl, Put_f k hk l 4 _ (by omega) (by omega), Option.bind_some, if_pos (by simp [h4]; omega), List.append_assoc]
theorem Frame_f (k : Nat) (hk : 20 ≤ k) (l : List Int) (kind ch : Int) (B : List Int) (hl : l.length + 10000 < 140737488355328) (h : frameOk kind ch B = true) : waybillref1_Frame.f k l kind ch B = some (l ++ frame kind ch B) := by
  obtain ⟨_, h1, h2, h3⟩ := ok_of h
  unfold waybillref1_Frame.f
  have l1 := be_len 1 kind
  have l2 := be_len 2 ch
  have l4 := be_len 4 (B.length : Int)
  rw [u64_id _ (by omega) (by omega), u64_id _ (by omega) (by omega), show (1 : Int) = ((1 : Nat) : Int) from rfl, Put_f k (by omega) l 1 _ (by omega) (by omega), Option.bind_some,
    show (2 : Int) = ((2 : Nat) : Int) from rfl, Put_f k (by omega) _ 2 _ (by omega) (by simp [l1]; omega), Option.bind_some, RLong_f k (by omega) _ _ (by simp [l1, l2]; omega), Option.bind_some, if_pos (by simp [l1, l2, l4]; omega)]
  unfold frame
  simp only [List.append_assoc]
theorem sum8 (n : Int) (h0 : 0 ≤ n) (h1 : n ≤ 4088) : wrap64 (8 + wrap64 n) = 8 + n ∧ wrap64 (7 + wrap64 n) = 7 + n ∧ wrap64 (7 + n + 1) = 8 + n := by
  refine ⟨?_, ?_, ?_⟩
  · rw [w64_id n (by omega) (by omega), w64_id _ (by omega) (by omega)]
  · rw [w64_id n (by omega) (by omega), w64_id _ (by omega) (by omega)]
  · rw [w64_id _ (by omega) (by omega)]; omega
theorem FrameOf_j0 (k : Nat) (hk : 18 ≤ k) (l : List Int) (ho : Oct l) (hl : l.length < 140737488355328) (h : l.length = 0 ∨ kindB (l.getD 0 0) = true) : waybillref1_FrameOf.j0 k l false = some (parseF l) := by
  obtain ⟨k, rfl⟩ : ∃ j, k = j + 3 := ⟨k - 3, by omega⟩
  have hpk : ∀ {x y : Int × Int × List Int × Int × Int}, (if l.length = 0 then x else if kindB (l.getD 0 0) = false then y else x) = x := by
    intro x y
    rcases h with h | h
    · rw [if_pos h]
    · by_cases h0 : l.length = 0
      · rw [if_pos h0]
      · rw [if_neg h0, if_neg (by rw [h]; simp)]
  have hN := Num_f (k + 2) (by omega) l 3 4 ho (by omega) (by omega) (by omega)
  rw [waybillref1_FrameOf.j0, if_neg (by simp)]
  rw [show (3 : Int) = ((3 : Nat) : Int) from rfl, show (4 : Int) = ((4 : Nat) : Int) from rfl, hN, Option.bind_some]
  unfold parseF
  by_cases h7 : l.length < 7
  · have h7' : ¬ 3 + 4 ≤ l.length := by omega
    rw [if_neg h7', if_neg (by simp), waybillref1_FrameOf.j1, if_neg (by simp), if_neg (by simp), waybillref1_FrameOf.j2, if_pos rfl, if_pos h7, hpk]
  · have h7' : 3 + 4 ≤ l.length := by omega
    have hne : ¬ l.length = 0 := by omega
    have hk0 : kindB (l.getD 0 0) = true := h.resolve_left hne
    have hb := num_bound ((l.drop 3).take 4) (oct_take (oct_drop ho 3) 4)
    have hb4 : ((l.drop 3).take 4).length = 4 := by simp; omega
    have hg := getD_oct ho 0
    rw [hb4] at hb
    have hb0 := hb.1
    clear hb
    rw [if_pos h7', if_pos rfl, waybillref1_FrameOf.j1, if_neg hne, if_neg (show ¬ kindB (l.getD 0 0) = false by rw [hk0]; simp), if_neg h7]
    obtain ⟨n, hn⟩ : ∃ n, num ((l.drop 3).take 4) = n := ⟨_, rfl⟩
    rw [hn] at hb0 ⊢
    by_cases h3 : n > 4088
    · rw [if_pos (decide_eq_true h3), if_pos h3]
    have h3' : n ≤ 4088 := Int.not_lt.1 h3
    rw [if_neg (by simpa using h3'), if_neg h3, if_pos rfl, waybillref1_FrameOf.j2, (sum8 n hb0 h3').1]
    by_cases h4 : (l.length : Int) ≤ 7 + n
    · rw [if_pos (decide_eq_true (by omega)), if_pos h4]
    have q1 : ¬ (decide ((l.length : Int) < 8 + n)) = true := by simp; omega
    have q2 : 0 ≤ 7 + n := by omega
    have q3 : 7 + n < (l.length : Int) := by omega
    have q4 : 0 < (l.length : Int) := by omega
    have q5 : 7 ≤ 7 + n := by omega
    have q6 : 7 + n ≤ (l.length : Int) := by omega
    have e1 : rd l (7 + n) = l.getD (7 + n).toNat 0 := rfl
    have e0 : rd l 0 = l.getD 0 0 := rfl
    rw [if_neg q1, if_neg h4, (sum8 n hb0 h3').2.1, if_pos q2, if_pos q3, e1]
    by_cases h5 : l.getD (7 + n).toNat 0 = 206
    · have hN2 := Num_f k (by omega) l 1 2 ho (by omega) (by omega) (by omega)
      have hb2 := num_bound ((l.drop 1).take 2) (oct_take (oct_drop ho 1) 2)
      have hb2l : ((l.drop 1).take 2).length = 2 := by simp; omega
      rw [hb2l] at hb2
      have e7 : wrap64 (num ((l.drop 1).take 2)) = num ((l.drop 1).take 2) := w64_id _ (by omega) (by omega)
      have e9 : wrap64 (rd l 0) = l.getD 0 0 := by rw [e0, w64_id _ (by omega) (by omega)]
      rw [if_pos h5, if_pos h5, show (1 : Int) = ((1 : Nat) : Int) from rfl, show (2 : Int) = ((2 : Nat) : Int) from rfl, hN2, Option.bind_some, if_pos (show 1 + 2 ≤ l.length by omega), if_pos q4, if_pos q5, if_pos q6]
      simp only [e7, e9]
      rw [show ((1 : Nat) : Int) = 1 from rfl, (sum8 n hb0 h3').2.2]
    · rw [if_neg h5, if_neg h5]
theorem FrameOf_f (k : Nat) (hk : 20 ≤ k) (l : List Int) (ho : Oct l) (hl : l.length < 140737488355328) : waybillref1_FrameOf.f k l = some (parseF l) := by
  unfold waybillref1_FrameOf.f
  by_cases h0 : l.length = 0
  · rw [if_neg (by omega)]
    exact FrameOf_j0 k (by omega) l ho hl (.inl h0)
  · have hg := getD_oct ho 0
    have e0 : wrap64 (rd l 0) = l.getD 0 0 := w64_id _ (by show _ ≤ l.getD 0 0; omega) (by show l.getD 0 0 < _; omega)
    rw [if_pos (by omega), if_pos (by omega), e0, kindOk_f, Option.bind_some]
    cases hk0 : kindB (l.getD 0 0) with
    | true => exact FrameOf_j0 k (by omega) l ho hl (.inr hk0)
    | false =>
      obtain ⟨k, rfl⟩ : ∃ j, k = j + 1 := ⟨k - 1, by omega⟩
      rw [waybillref1_FrameOf.j0, if_pos (by rfl)]
      unfold parseF
      rw [if_neg h0, if_pos hk0]
end Go.Proofs.Ytlhcjgmdcnmnnaa.Pure
