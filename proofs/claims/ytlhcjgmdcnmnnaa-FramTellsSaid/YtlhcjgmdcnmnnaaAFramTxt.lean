/-
A frame's octets are read as the frame, whatever stands behind them; each beginning of them asks for more.
-/
import Derived.Test.YtlhcjgmdcnmnnaaAFramLib
import Derived.Test.YtlhcjgmdcnmnnaaPAx11
namespace Go.Proofs.Ytlhcjgmdcnmnnaa.Pure
open Go.RowKit Go.Proofs.Ytlhcjgmdcnmnnaa.PA Go.Proofs.YtlhcjgmdcnmnnaaW.PrintWords Go.Proofs.YtlhcjgmdcnmnnaaW.PrintLast Go.Proofs.YtlhcjgmdcnmnnaaW.PrintMore
set_option linter.unusedVariables false
set_option linter.unusedSimpArgs false
theorem ok_of {kind ch : Int} {B : List Int} (h : frameOk kind ch B = true) : kindB kind = true ∧ (1 ≤ kind ∧ kind ≤ 8) ∧ (0 ≤ ch ∧ ch ≤ 65535) ∧ B.length ≤ 4088 := by
  unfold frameOk at h
  rw [Bool.and_eq_true, Bool.and_eq_true, Bool.and_eq_true] at h
  have h1 := of_decide_eq_true h.2.1
  have h2 := of_decide_eq_true h.2.2.1
  have h3 := of_decide_eq_true h.2.2.2
  have h4 : 1 ≤ kind ∧ kind ≤ 8 := by have := h.1; unfold kindB at this; have := of_decide_eq_true this; omega
  exact ⟨h.1, h4, ⟨h1, h2⟩, h3⟩
theorem fr_one {kind : Int} (h : 1 ≤ kind ∧ kind ≤ 8) : be 1 kind = [kind] := by
  have h1 : be 1 kind = [kind / 256 ^ 0 % 256] := by simp [be]
  rw [h1, Int.pow_zero, Int.ediv_one, Int.emod_eq_of_lt (by omega) (by omega)]
theorem fr_head (kind ch : Int) (B r : List Int) (h : 1 ≤ kind ∧ kind ≤ 8) : (frame kind ch B ++ r).getD 0 0 = kind := by
  unfold frame
  rw [fr_one h]
  simp
theorem fr_chan (kind ch : Int) (B r : List Int) : ((frame kind ch B ++ r).drop 1).take 2 = be 2 ch := by
  have e : frame kind ch B ++ r = be 1 kind ++ (be 2 ch ++ (be 4 (B.length : Int) ++ (B ++ ([206] ++ r)))) := by unfold frame; simp only [List.append_assoc]
  rw [e, List.drop_left' (be_len 1 kind), List.take_left' (be_len 2 ch)]
theorem fr_len (kind ch : Int) (B r : List Int) : ((frame kind ch B ++ r).drop 3).take 4 = be 4 (B.length : Int) := by
  have e : frame kind ch B ++ r = (be 1 kind ++ be 2 ch) ++ (be 4 (B.length : Int) ++ (B ++ ([206] ++ r))) := by unfold frame; simp only [List.append_assoc]
  rw [e, List.drop_left' (by simp [be_len]), List.take_left' (be_len 4 _)]
theorem fr_body (kind ch : Int) (B r : List Int) : ((frame kind ch B ++ r).take (7 + B.length)).drop 7 = B := by
  have e : frame kind ch B ++ r = (be 1 kind ++ (be 2 ch ++ be 4 (B.length : Int))) ++ (B ++ ([206] ++ r)) := by unfold frame; simp only [List.append_assoc]
  rw [List.drop_take, e, List.drop_left' (by simp [be_len]), show 7 + B.length - 7 = B.length by omega, List.take_left]
theorem fr_end (kind ch : Int) (B r : List Int) : (frame kind ch B ++ r).getD (7 + B.length) 0 = 206 := by
  have e : frame kind ch B ++ r = (be 1 kind ++ (be 2 ch ++ (be 4 (B.length : Int) ++ B))) ++ (206 :: r) := by unfold frame; simp [List.append_assoc]
  have hl : (be 1 kind ++ (be 2 ch ++ (be 4 (B.length : Int) ++ B))).length = 7 + B.length := by simp [be_len]; omega
  rw [e, List.getD_eq_getElem?_getD, List.getElem?_append_right (by omega), hl, Nat.sub_self]
  rfl
theorem fr_num {n : Nat} (h : n ≤ 4088) : num (be 4 (n : Int)) = n := by rw [num_be, Int.emod_eq_of_lt (by omega) (by omega)]
theorem parse_frame (kind ch : Int) (B r : List Int) (h : frameOk kind ch B = true) : parseF (frame kind ch B ++ r) = (kind, ch, B, 8 + (B.length : Int), 0) := by
  obtain ⟨hk, h1, h2, h3⟩ := ok_of h
  have hl : (frame kind ch B ++ r).length = 8 + B.length + r.length := by rw [List.length_append, frame_len]
  have hn : (7 + (B.length : Int)).toNat = 7 + B.length := by omega
  unfold parseF
  rw [fr_len, fr_num h3, fr_chan, fr_head _ _ _ _ h1, num_be, Int.emod_eq_of_lt h2.1 (by omega), hn, fr_end, fr_body, if_neg (by omega), hk, if_neg (by simp), if_neg (by omega), if_neg (by omega), if_neg (by omega), if_pos rfl]
theorem parse_pre (kind ch : Int) (B : List Int) (h : frameOk kind ch B = true) (i : Nat) (hi : i < 8 + B.length) : parseF ((frame kind ch B).take i) = (0, 0, [], 0, 2) := by
  obtain ⟨hk, h1, h2, h3⟩ := ok_of h
  have hl : ((frame kind ch B).take i).length = i := by rw [List.length_take, frame_len]; omega
  have e0 := fr_head kind ch B [] h1
  have e1 := fr_len kind ch B []
  rw [List.append_nil] at e0 e1
  unfold parseF
  rw [hl]
  by_cases h0 : i = 0
  · rw [if_pos h0]
  have e2 : ((frame kind ch B).take i).getD 0 0 = kind := by
    rw [List.getD_eq_getElem?_getD, List.getElem?_take, if_pos (by omega), ← List.getD_eq_getElem?_getD]
    exact e0
  rw [if_neg h0, e2, hk, if_neg (by simp)]
  by_cases h7 : i < 7
  · rw [if_pos h7]
  have e3 : (((frame kind ch B).take i).drop 3).take 4 = be 4 (B.length : Int) := by
    rw [List.drop_take, List.take_take, show min 4 (i - 3) = 4 by omega, e1]
  rw [if_neg h7, e3, fr_num h3, if_neg (by omega), if_pos (by omega)]
end Go.Proofs.Ytlhcjgmdcnmnnaa.Pure
