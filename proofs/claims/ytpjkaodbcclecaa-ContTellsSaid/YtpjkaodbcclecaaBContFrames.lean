/-
A content's frames: a head, and bodies as few as may be.
-/
import Derived.Test.YtpjkaodbcclecaaPBx12
import Derived.Test.YtpjkaodbcclecaaBContLib
import Derived.Test.YtpjkaodbcclecaaBFramLibA
namespace Go.Proofs.Ytpjkaodbcclecaa.Pure
open Go.RowKit Go.Proofs.Ytpjkaodbcclecaa.PB Go.Proofs.YtpjkaodbcclecaaW.PrintWords Go.Proofs.YtpjkaodbcclecaaW.PrintLast Go.Proofs.YtpjkaodbcclecaaW.PrintMore
set_option linter.unusedVariables false
set_option linter.unusedSimpArgs false
def np (n : Nat) : Nat := (n + 4087) / 4088
def chunks (ch : Int) : Nat → List Int → List Int
  | 0, _ => []
  | n + 1, l => frame 3 ch (l.take 4088) ++ chunks ch n (l.drop 4088)
theorem chunks_oct (ch : Int) : ∀ (n : Nat) (l : List Int), Oct l → Oct (chunks ch n l)
  | 0, _, _ => oct_nil
  | n + 1, l, h => oct_app (frame_oct _ _ (oct_take h _)) (chunks_oct ch n _ (oct_drop h _))
theorem chunks_len (ch : Int) : ∀ (n : Nat) (l : List Int), (chunks ch n l).length ≤ n * 4096
  | 0, _ => by simp [chunks]
  | n + 1, l => by
    have h := chunks_len ch n (l.drop 4088)
    have h2 := frame_len 3 ch (l.take 4088)
    have h3 : (l.take 4088).length ≤ 4088 := by rw [List.length_take]; omega
    simp only [chunks, List.length_append]
    omega
theorem ok3 (k ch : Int) (hk : k = 2 ∨ k = 3) (B : List Int) (h : 0 ≤ ch ∧ ch ≤ 65535) (hB : B.length ≤ 4088) : frameOk k ch B = true := by
  unfold frameOk kindB
  rw [decide_eq_true (by omega), decide_eq_true h.1, decide_eq_true h.2, decide_eq_true hB]
  rfl
theorem Frames_l0 (x0 : List Int) (ch : Int) (hc : 0 ≤ ch ∧ ch ≤ 65535) : ∀ (n K : Nat) (l acc : List Int), np l.length = n → n + 25 < K → acc.length + n * 4096 + 20000 < 140737488355328 →
    cont_Frames.l0 K x0 ch l true acc = some (acc ++ chunks ch n l, true) := by
  intro n
  induction n with
  | zero =>
    intro K l acc hn hK hacc
    obtain ⟨K, rfl⟩ : ∃ j, K = j + 1 := ⟨K - 1, by omega⟩
    unfold np at hn
    rw [cont_Frames.l0, if_neg (by omega), if_pos rfl, chunks, List.append_nil]
  | succ n ih =>
    intro K l acc hn hK hacc
    obtain ⟨K, rfl⟩ : ∃ j, K = j + 1 := ⟨K - 1, by omega⟩
    unfold np at hn
    obtain ⟨t, ht⟩ : ∃ t : Nat, mn (l.length : Int) 4088 = (t : Int) ∧ t = min l.length 4088 := ⟨min l.length 4088, by unfold mn; split <;> omega, rfl⟩
    have e1 : l.take t = l.take 4088 := by
      by_cases h : l.length ≤ 4088
      · rw [List.take_of_length_le (by omega), List.take_of_length_le h]
      · rw [show t = 4088 by omega]
    have e2 : l.drop t = l.drop 4088 := by
      by_cases h : l.length ≤ 4088
      · rw [List.drop_of_length_le (by omega), List.drop_of_length_le h]
      · rw [show t = 4088 by omega]
    have hB : (l.take 4088).length ≤ 4088 := by rw [List.length_take]; omega
    have hd : np (l.drop 4088).length = n := by unfold np; rw [List.length_drop]; omega
    have hfl := frame_len 3 ch (l.take 4088)
    have ha := Append_f K (by omega) acc 3 ch (l.take 4088) (by omega)
    rw [if_pos (ok3 3 ch (by omega) _ hc hB)] at ha
    have hrec := ih K (l.drop 4088) (acc ++ frame 3 ch (l.take 4088)) hd (by omega) (by rw [List.length_append]; omega)
    rw [cont_Frames.l0, if_pos (by omega), if_pos rfl, ht.1, if_pos (by omega), if_pos (by omega), Int.toNat_natCast, e1, e2, ha, Option.bind_some, chunks, ← List.append_assoc]
    exact hrec
end Go.Proofs.Ytpjkaodbcclecaa.Pure
