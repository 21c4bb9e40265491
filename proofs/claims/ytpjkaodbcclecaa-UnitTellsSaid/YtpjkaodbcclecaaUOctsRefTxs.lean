/-
The document's own reading of a text behind its length, from a place on.
-/
import Derived.Test.YtpjkaodbcclecaaPUx11
import Derived.Test.YtpjkaodbcclecaaUOctsRefNum
import Derived.Test.YtpjkaodbcclecaaUOctsTxt
namespace Go.Proofs.Ytpjkaodbcclecaa.Pure
open Go.RowKit Go.Proofs.Ytpjkaodbcclecaa.PU Go.Proofs.YtpjkaodbcclecaaW.PrintWords Go.Proofs.YtpjkaodbcclecaaW.PrintLast Go.Proofs.YtpjkaodbcclecaaW.PrintMore
set_option linter.unusedVariables false
set_option linter.unusedSimpArgs false
/-- What a text's octets are, and where what follows begins. -/
def rtxt (l : List Int) (a n : Nat) : List Int × Int × Bool := match txt (l.drop a) n with
  | none => ([], 0, false)
  | some (x, r) => (x, (a : Int) + n + x.length, true)
theorem txt_some {l : List Int} {n : Nat} {x r : List Int} (h : txt l n = some (x, r)) : n + x.length ≤ l.length ∧ x = (l.drop n).take x.length ∧ r = l.drop (n + x.length) := by
  unfold txt at h
  by_cases h1 : l.length < n
  · rw [if_pos h1] at h; cases h
  rw [if_neg h1] at h
  by_cases h2 : (l.length : Int) - n < num (l.take n)
  · rw [if_pos h2] at h; cases h
  rw [if_neg h2] at h
  simp only [Option.some.injEq, Prod.mk.injEq] at h
  obtain ⟨rfl, rfl⟩ := h
  have hl : ((l.drop n).take (num (l.take n)).toNat).length = (num (l.take n)).toNat := by rw [List.length_take, List.length_drop]; omega
  rw [hl]
  exact ⟨by omega, rfl, by rw [List.drop_drop]⟩
theorem rtxt_no {l : List Int} {a n : Nat} (h : txt (l.drop a) n = none) : rtxt l a n = ([], 0, false) := by unfold rtxt; rw [h]
theorem rtxt_yes {l : List Int} {a n : Nat} {x r : List Int} (h : txt (l.drop a) n = some (x, r)) : rtxt l a n = (x, (a : Int) + n + x.length, true) := by unfold rtxt; rw [h]
theorem txt_none1 {l : List Int} {n : Nat} (h : l.length < n) : txt l n = none := by unfold txt; rw [if_pos h]
theorem txt_none2 {l : List Int} {n : Nat} (h : ¬ l.length < n) (h2 : (l.length : Int) - n < num (l.take n)) : txt l n = none := by unfold txt; rw [if_neg h, if_pos h2]
theorem txt_yes {l : List Int} {n : Nat} (h : ¬ l.length < n) (h2 : ¬ (l.length : Int) - n < num (l.take n)) : txt l n = some ((l.drop n).take (num (l.take n)).toNat, (l.drop n).drop (num (l.take n)).toNat) := by unfold txt; rw [if_neg h, if_neg h2]
theorem w_left (a n l : Int) (h0 : 0 ≤ a) (h1 : 0 ≤ n) (h2 : a + n ≤ l) (h3 : l < 100000000) : IntKind.u64.wrap (wrap64 (wrap64 (l - a) - n)) = l - a - n := by
  rw [w64_id (l - a) (by omega) (by omega), w64_id (l - a - n) (by omega) (by omega), u64_id _ (by omega) (by omega)]
theorem w_sum (a n : Int) (h0 : 0 ≤ a) (h1 : 0 ≤ n) (h2 : a + n < 100000000) : wrap64 (a + n) = a + n := w64_id _ (by omega) (by omega)
theorem w_one (a : Int) (h0 : 0 ≤ a) (h2 : a < 100000000) : wrap64 a = a := w64_id _ (by omega) (by omega)
theorem cut_text (l : List Int) (a n X : Nat) : (l.take ((a : Int) + n + X).toNat).drop ((a : Int) + n).toNat = ((l.drop a).drop n).take (X : Int).toNat := by
  rw [show ((a : Int) + n + X).toNat = a + n + X by omega, show ((a : Int) + n).toNat = a + n by omega, List.drop_take, List.drop_drop, show a + n + X - (a + n) = (X : Int).toNat by omega]
theorem Text_f (k : Nat) (hk : 12 ≤ k) (l : List Int) (a n : Nat) (ho : Oct l) (hn : n ≤ 8) (hl : l.length < 100000000) (ha : a ≤ l.length) :
    waybillref1_Text.f k l (a : Int) (n : Int) = some (rtxt l a n) := by
  unfold waybillref1_Text.f
  rw [Num_f k hk l a n ho hn (by omega) (by omega), Option.bind_some]
  have hdl : (l.drop a).length = l.length - a := List.length_drop
  by_cases h : a + n ≤ l.length
  · have hlt : ((l.drop a).take n).length = n := by rw [List.length_take]; omega
    have hb := (num_bound _ (oct_take (oct_drop ho a) n)).1
    have hn1 : ¬ (l.drop a).length < n := by omega
    have hsub : ((l.drop a).length : Int) - n = (l.length : Int) - a - n := by omega
    have e1 := w_left (a : Int) n l.length (by omega) (by omega) (by omega) (by omega)
    have e2 := w_sum (a : Int) n (by omega) (by omega) (by omega)
    by_cases h2 : num ((l.drop a).take n) > (l.length : Int) - a - n
    · rw [rtxt_no (txt_none2 hn1 (by rw [hsub]; exact h2)), if_pos h]
      simp only [if_true]
      rw [e1, e2, if_pos h2]
    · have hy := txt_yes hn1 (by rw [hsub]; exact h2)
      obtain ⟨X, hX⟩ : ∃ X, num ((l.drop a).take n) = X := ⟨_, rfl⟩
      rw [hX] at hb hy h2
      clear e1 e2 hsub
      obtain ⟨x, rfl⟩ : ∃ x : Nat, X = x := ⟨X.toNat, by omega⟩
      have q1 : (0 : Int) ≤ (a : Int) + n := by omega
      have q2 : (a : Int) + n ≤ (a : Int) + n + x := by omega
      have q3 : (a : Int) + n + x ≤ (l.length : Int) := by omega
      have e7 : (((l.drop a).drop n).take (x : Int).toNat).length = x := by rw [List.length_take, List.length_drop]; omega
      have z0 : (0 : Int) ≤ (a : Int) := by omega
      have z1 : (0 : Int) ≤ (n : Int) := by omega
      have z2 : (0 : Int) ≤ (x : Int) := by omega
      have z3 : (a : Int) + n ≤ (l.length : Int) := by omega
      have z4 : (l.length : Int) < 100000000 := by omega
      have z5 : (a : Int) + n < 100000000 := by omega
      have z6 : (x : Int) < 100000000 := by omega
      have z7 : (a : Int) + n + x < 100000000 := by omega
      have e1 := w_left (a : Int) n l.length z0 z1 z3 z4
      have e2 := w_sum (a : Int) n z0 z1 z5
      have e4 := w_one (x : Int) z2 z6
      have e5 := w_sum ((a : Int) + n) x q1 z2 z7
      rw [rtxt_yes hy, if_pos h]
      simp only [if_true]
      rw [e1, e2, hX, if_neg h2, if_pos q1, e4, e5, if_pos q2, if_pos q3, cut_text, e7]
  · rw [if_neg h, rtxt_no (txt_none1 (by omega))]
    rfl
end Go.Proofs.Ytpjkaodbcclecaa.Pure
