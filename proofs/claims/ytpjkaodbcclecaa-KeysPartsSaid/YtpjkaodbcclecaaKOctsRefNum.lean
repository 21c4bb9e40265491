/-
The document's own reading of a number, from a place on.
-/
import Derived.Test.YtpjkaodbcclecaaPKx2
import Derived.Test.YtpjkaodbcclecaaKOctsStr
namespace Go.Proofs.Ytpjkaodbcclecaa.Pure
open Go.RowKit Go.Proofs.Ytpjkaodbcclecaa.PK Go.Proofs.YtpjkaodbcclecaaW.PrintWords Go.Proofs.YtpjkaodbcclecaaW.PrintLast Go.Proofs.YtpjkaodbcclecaaW.PrintMore
set_option linter.unusedVariables false
set_option linter.unusedSimpArgs false
theorem Num_l0 (l : List Int) (a n : Nat) (ho : Oct l) (hn : n ≤ 8) (ha : a + n ≤ l.length) (hl : l.length < 140737488355328) : ∀ (d i K : Nat) (v : Int), n - i = d → i ≤ n → d < K → 0 ≤ v → v < 256 ^ i →
    waybillref1_Num.l0 K l (a : Int) (n : Int) v (i : Int) = some (numA v ((l.drop (a + i)).take d), true) := by
  intro d
  induction d with
  | zero =>
    intro i K v hd hi hk h0 hv
    obtain ⟨K, rfl⟩ : ∃ j, K = j + 1 := ⟨K - 1, by omega⟩
    rw [waybillref1_Num.l0, if_neg (by omega)]
    simp [numA]
  | succ d ih =>
    intro i K v hd hi hk h0 hv
    obtain ⟨K, rfl⟩ : ∃ j, K = j + 1 := ⟨K - 1, by omega⟩
    have hp : (256 : Int) ^ (i + 1) ≤ 18446744073709551616 := p256_le (i + 1) (by omega)
    have hps : (256 : Int) ^ (i + 1) = 256 ^ i * 256 := Int.pow_succ _ _
    rw [waybillref1_Num.l0, if_pos (by omega), w64_id ((a : Int) + i) (by omega) (by omega), if_pos (by omega), if_pos (by omega)]
    rw [show (a : Int) + (i : Int) = ((a + i : Nat) : Int) by omega, rd_at]
    have hb := getD_oct ho (a + i)
    rw [or_byte v _ h0 (by omega) hb.1 hb.2, w64_id _ (by omega) (by omega), show (i : Int) + 1 = ((i + 1 : Nat) : Int) by omega]
    rw [ih (i + 1) K _ (by omega) (by omega) (by omega) (by omega) (by omega)]
    rw [drop_at l (a + i) (by omega), List.take_succ_cons, numA, show a + i + 1 = a + (i + 1) by omega]
theorem Num_f (k : Nat) (hk : 12 ≤ k) (l : List Int) (a n : Nat) (ho : Oct l) (hn : n ≤ 8) (hl : l.length < 140737488355328) (ha : a < 140737488355328) :
    waybillref1_Num.f k l (a : Int) (n : Int) = some (if a + n ≤ l.length then (num ((l.drop a).take n), true) else (0, false)) := by
  obtain ⟨k, rfl⟩ : ∃ j, k = j + 1 := ⟨k - 1, by omega⟩
  unfold waybillref1_Num.f
  rw [if_neg (by omega), w64_id _ (by omega) (by omega), waybillref1_Num.j0]
  by_cases h : a + n ≤ l.length
  · rw [if_pos h, decide_eq_false (by omega), if_neg (by simp)]
    have := Num_l0 l a n ho hn h hl n 0 k 0 (by omega) (by omega) (by omega) (by omega) (by simp)
    simpa [num] using this
  · rw [if_neg h, decide_eq_true (by omega), if_pos rfl]
theorem Num_at (k : Nat) (hk : 12 ≤ k) (p m r : List Int) (a n : Int) (ha : a = p.length) (hn : n = m.length) (hn8 : n ≤ 8) (ho : Oct m) (hl : p.length + m.length + r.length < 140737488355328) (hop : Oct p) (hor : Oct r) :
    waybillref1_Num.f k (p ++ (m ++ r)) a n = some (num m, true) := by
  subst ha hn
  rw [Num_f k hk _ _ _ (oct_app hop (oct_app ho hor)) (by omega) (by simp; omega) (by omega), if_pos (by simp; try omega), List.drop_left, List.take_left]
end Go.Proofs.Ytpjkaodbcclecaa.Pure
