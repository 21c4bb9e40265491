/-
What the printed functions of the package octs come to, in plain Lean: numbers as octets and back, texts behind their lengths.
Conditions: the bounds on lengths and numbers that each lemma names.
-/
import Derived.Test.YtfhaffpegncdiaaPTx3
import Derived.Test.YtfhaffpegncdiaaPTx4
import Derived.Laws.BitsLemmas
import Derived.IntWalk
import Derived.Test.YtfhaffpegncdiaaTTablLib
namespace Go.Proofs.Ytfhaffpegncdiaa.Pure
open Go.RowKit Go.Proofs.Ytfhaffpegncdiaa.PT Go.Proofs.YtfhaffpegncdiaaW.PrintWords Go.Proofs.YtfhaffpegncdiaaW.PrintLast Go.Proofs.YtfhaffpegncdiaaW.PrintMore
set_option linter.unusedVariables false
set_option linter.unusedSimpArgs false

/-- The loop of octs.number. -/
theorem number_l0 (l : List Int) (ho : Oct l) (hl : l.length ≤ 8) : ∀ (d i K : Nat) (a : Int), l.length - i = d → i ≤ l.length → d < K → 0 ≤ a → a < 256 ^ i → octs_number.l0 K a l (l.length : Int) (i : Int) = some (numA a (l.drop i)) := by
  intro d
  induction d with
  | zero =>
    intro i K a hd hi hK h0 h1
    obtain ⟨K, rfl⟩ : ∃ m, K = m + 1 := ⟨K - 1, by omega⟩
    simp only [octs_number.l0]
    rw [if_neg (by omega), List.drop_of_length_le (by omega)]
    rfl
  | succ d ih =>
    intro i K a hd hi hK h0 h1
    obtain ⟨K, rfl⟩ : ∃ m, K = m + 1 := ⟨K - 1, by omega⟩
    have hp : (256 : Int) ^ (i + 1) = 256 ^ i * 256 := Int.pow_succ ..
    have hq := p256_le (i + 1) (by omega)
    have hb := getD_oct ho i
    have ha : a * 256 < 18446744073709551616 := by omega
    simp only [octs_number.l0]
    rw [if_pos (by omega), if_pos (by omega), if_pos (by omega), rd_at, or_byte a _ h0 ha hb.1 hb.2, w64_id _ (by omega) (by omega)]
    have e : ((i : Int) + 1) = ((i + 1 : Nat) : Int) := by omega
    rw [e, ih (i + 1) K _ (by omega) (by omega) (by omega) (by omega) (by omega), drop_at l i (by omega)]
    rfl
theorem number_f (k : Nat) (l : List Int) (ho : Oct l) (hl : l.length ≤ 8) (hk : l.length < k) : octs_number.f k l = some (num l) := by
  unfold octs_number.f
  exact number_l0 l ho hl l.length 0 k 0 (by omega) (by omega) hk (by omega) (by decide)

/-! ### the reader -/
theorem take_f (l : List Int) (n : Int) (h0 : 0 ≤ n) (hl : l.length < 140737488355328) : octs_In_take.f l false n = if (l.length : Int) < n then some ([], [], true) else some (l.take n.toNat, l.drop n.toNat, false) := by
  unfold octs_In_take.f
  rw [if_neg (by simp), if_pos h0, if_pos hl]
theorem take_bad (l : List Int) (n : Int) : octs_In_take.f l true n = some ([], [], true) := by unfold octs_In_take.f; rw [if_pos rfl]
/-- A number of n octets. -/
theorem In_Int (k : Nat) (l : List Int) (n : Int) (hk : 9 ≤ k) (ho : Oct l) (hl : l.length < 140737488355328) :
    octs_In_Int.f k l false n = if l.length < wd n then some (0, [], true) else some (num (l.take (wd n)), l.drop (wd n), false) := by
  have h8 := wd_le n
  have h1 := wd_ge n
  unfold octs_In_Int.f octs_width.f
  simp only [Option.bind_some]
  rw [wd_cast, u64_id _ (by omega) (by omega), take_f l _ (by omega) hl]
  by_cases h : l.length < wd n
  · rw [if_pos h, if_pos (by omega)]
    simp only [Option.bind_some]
    rw [number_f k [] oct_nil (by simp) (by simp; omega)]
    rfl
  · rw [if_neg h, if_neg (by omega)]
    simp only [Option.bind_some, Int.toNat_natCast]
    rw [number_f k _ (oct_take ho _) (by simp; omega) (by simp; omega)]
    rfl
theorem In_Int_bad (k : Nat) (l : List Int) (n : Int) (hk : 1 ≤ k) : octs_In_Int.f k l true n = some (0, [], true) := by
  unfold octs_In_Int.f octs_width.f
  simp only [Option.bind_some]
  rw [take_bad]
  simp only [Option.bind_some]
  rw [number_f k [] oct_nil (by simp) (by simp; omega)]
  rfl
/-- A text behind its length of n octets (n: 1 or 4). -/
def txt (l : List Int) (n : Nat) : Option (List Int × List Int) :=
  if l.length < n then none else if (l.length : Int) - n < num (l.take n) then none else some ((l.drop n).take (num (l.take n)).toNat, (l.drop n).drop (num (l.take n)).toNat)
def told (o : Option (List Int × List Int)) : List Int × List Int × Bool := match o with
  | none => ([], [], true)
  | some (a, b) => (a, b, false)
theorem meas_f (k : Nat) (l : List Int) (n : Nat) (hn : n ≤ 8) (hk : 9 ≤ k) (ho : Oct l) (hl : l.length < 140737488355328) :
    octs_In_measured.f k l false (n : Int) = some (told (txt l n)) := by
  unfold octs_In_measured.f txt
  rw [if_neg (by simp)]
  by_cases h : l.length < n
  · rw [if_pos (by omega), if_pos h, u64_id _ (by omega) (by omega), take_f l _ (by omega) hl, if_pos (by omega)]
    rfl
  · rw [if_neg (by omega), if_neg h, if_pos (by omega), Int.toNat_natCast, number_f k _ (oct_take ho _) (by simp; omega) (by simp; omega)]
    simp only [Option.bind_some]
    have hb := num_bound _ (oct_take ho n)
    by_cases h2 : (l.length : Int) - n < num (l.take n)
    · rw [if_pos h2, if_pos h2]; rfl
    · rw [if_neg h2, if_neg h2, take_f _ _ hb.1 (by simp; omega), if_neg (by simp; omega)]
      rfl
theorem meas_bad (k : Nat) (l : List Int) (n : Int) : octs_In_measured.f k l true n = some ([], [], true) := by
  unfold octs_In_measured.f; rw [if_pos rfl, take_bad]
theorem In_Short (k : Nat) (l : List Int) (hk : 9 ≤ k) (ho : Oct l) (hl : l.length < 140737488355328) :
    octs_In_Short.f k l false = some (strOfNums (told (txt l 1)).1, (told (txt l 1)).2) := by
  unfold octs_In_Short.f
  rw [show (1 : Int) = ((1 : Nat) : Int) from rfl, meas_f k l 1 (by omega) hk ho hl]
  rfl
theorem In_Short_bad (k : Nat) (l : List Int) : octs_In_Short.f k l true = some (strOfNums [], [], true) := by
  unfold octs_In_Short.f; rw [meas_bad]; rfl
end Go.Proofs.Ytfhaffpegncdiaa.Pure
