/-
The document's own writing of a frame.
-/
import Derived.Test.YtpjkaodbcclecaaPBx12
import Derived.Test.YtpjkaodbcclecaaBFramLibA
import Derived.Test.YtpjkaodbcclecaaBOctsRefPut
namespace Go.Proofs.Ytpjkaodbcclecaa.Pure
open Go.RowKit Go.Proofs.Ytpjkaodbcclecaa.PB Go.Proofs.YtpjkaodbcclecaaW.PrintWords Go.Proofs.YtpjkaodbcclecaaW.PrintLast Go.Proofs.YtpjkaodbcclecaaW.PrintMore
set_option linter.unusedVariables false
set_option linter.unusedSimpArgs false
theorem RLong_f (k : Nat) (hk : 9 ≤ k) (l t : List Int) (hl : l.length + t.length + 300 < 140737488355328) : waybillref1_Long.f k l t = some (l ++ (be 4 (t.length : Int) ++ t)) := by
  unfold waybillref1_Long.f
  have h4 := be_len 4 (t.length : Int)
  rw [u64_id _ (by omega) (by omega), show (4 : Int) = ((4 : Nat) : Int) from rfl, Put_f k hk l 4 _ (by omega) (by omega), Option.bind_some, if_pos (by simp [h4]; omega), List.append_assoc]
theorem Frame_f (k : Nat) (hk : 20 ≤ k) (l : List Int) (kind ch : Int) (B : List Int) (hl : l.length + 10000 < 140737488355328) (h : frameOk kind ch B = true) : waybillref1_Frame.f k l kind ch B = some (l ++ frame kind ch B) := by
  obtain ⟨_, h1, h2, h3⟩ := ok_of h
  unfold waybillref1_Frame.f
  have l1 := be_len 1 kind
  have l2 := be_len 2 ch
  have l4 := be_len 4 (B.length : Int)
  rw [u64_id _ (by omega) (by omega), u64_id _ (by omega) (by omega), show (1 : Int) = ((1 : Nat) : Int) from rfl, Put_f k (by omega) l 1 _ (by omega) (by omega), Option.bind_some,
    show (2 : Int) = ((2 : Nat) : Int) from rfl, Put_f k (by omega) _ 2 _ (by omega) (by simp [l1]; omega), Option.bind_some, RLong_f k (by omega) _ _ (by simp [l1, l2]; omega), Option.bind_some, if_pos (by simp [l1, l2, l4]; omega)]
  unfold frame
  simp only [List.append_assoc]
end Go.Proofs.Ytpjkaodbcclecaa.Pure
