/-
The document's own writing of a number.
-/
import Derived.Test.YtpjkaodbcclecaaPUx8
import Derived.Test.YtpjkaodbcclecaaUOctsStr
namespace Go.Proofs.Ytpjkaodbcclecaa.Pure
open Go.RowKit Go.Proofs.Ytpjkaodbcclecaa.PU Go.Proofs.YtpjkaodbcclecaaW.PrintWords Go.Proofs.YtpjkaodbcclecaaW.PrintLast Go.Proofs.YtpjkaodbcclecaaW.PrintMore
set_option linter.unusedVariables false
set_option linter.unusedSimpArgs false
theorem Put_l0 (v : Int) : ∀ (j : Nat) (K : Nat) (x : List Int), j ≤ 8 → j < K → x.length + j < 140737488355328 → waybillref1_Put.l0 K v x ((j : Int) - 1) = some (x ++ be j v) := by
  intro j
  induction j with
  | zero =>
    intro K x _ hK hx
    obtain ⟨K, rfl⟩ : ∃ m, K = m + 1 := ⟨K - 1, by omega⟩
    simp only [waybillref1_Put.l0]
    rw [if_neg (by omega)]
    simp [be]
  | succ j ih =>
    intro K x hj hK hx
    obtain ⟨K, rfl⟩ : ∃ m, K = m + 1 := ⟨K - 1, by omega⟩
    have e1 : (((j + 1 : Nat) : Int) - 1) = (j : Int) := by omega
    have e2 : IntKind.u64.wrap (wrap64 (8 * (j : Int))) = (j : Int) * 8 := by
      rw [w64_id _ (by omega) (by omega), u64_id _ (by omega) (by omega)]; omega
    have e3 : shr .u64 v ((j : Int) * 8) = v / 256 ^ j := by
      unfold shr
      have a1 : ((j : Int) * 8).toNat = 8 * j := by omega
      have a2 : min (8 * j) IntKind.u64.bits = 8 * j := Nat.min_eq_left (by simp only [IntKind.bits]; omega)
      rw [a1, a2, Int.pow_mul]
      rfl
    simp only [waybillref1_Put.l0]
    rw [e1, if_pos (by omega), e2, if_pos (by omega), if_pos (by omega), e3, w64_id _ (by omega) (by omega), ih K _ (by omega) (by omega) (by simp; omega)]
    simp [be]
theorem Put_f (k : Nat) (hk : 9 ≤ k) (l : List Int) (n : Nat) (v : Int) (hn : n ≤ 8) (hl : l.length + 8 < 140737488355328) : waybillref1_Put.f k l (n : Int) v = some (l ++ be n v) := by
  unfold waybillref1_Put.f
  rw [Option.bind_some, if_pos (by simp; omega), List.nil_append, w64_id _ (by omega) (by omega)]
  exact Put_l0 v n k l hn (by omega) (by omega)
end Go.Proofs.Ytpjkaodbcclecaa.Pure
