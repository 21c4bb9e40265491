/-
The reader's numbers and texts, in the form that tabl.read and tabl.parse are told in; octets stay octets.
Conditions: the octets are octets, and no more than any machine has room for.
-/
import Derived.Test.YtfhaffpegncdiaaTOctsLib
import Derived.Test.YtfhaffpegncdiaaTTablFn
namespace Go.Proofs.Ytfhaffpegncdiaa.PT
open Go.RowKit Go.Proofs.Ytfhaffpegncdiaa.Pure Go.Proofs.YtfhaffpegncdiaaW.PrintWords Go.Proofs.YtfhaffpegncdiaaW.PrintLast Go.Proofs.YtfhaffpegncdiaaW.PrintMore
set_option linter.unusedVariables false
set_option linter.unusedSimpArgs false
namespace Tb
theorem nm_f (n : Nat) (w : Int) (hw : wd w = n) (b : List Int) (bad : Bool) (ho : Oct b) (hl : b.length < 140737488355328) : octs_In_Int.f 9 b bad w = some (nm n (b, bad)) := by
  cases bad with
  | true => rw [In_Int_bad 9 b w (by omega)]; rfl
  | false => rw [In_Int 9 b w (by omega) ho hl, hw]; unfold nm; by_cases h : b.length < n <;> simp [h]
theorem told_tx (n : Nat) (b : List Int) : told (txt b n) = tx n (b, false) := by
  unfold tx txt
  by_cases h : b.length < n
  · simp [h, told]
  · by_cases h2 : (b.length : Int) - n < num (b.take n) <;> simp [h, h2, told]
theorem short_f (b : List Int) (bad : Bool) (ho : Oct b) (hl : b.length < 140737488355328) : octs_In_Short.f 9 b bad = some (strOfNums (tx 1 (b, bad)).1, (tx 1 (b, bad)).2) := by
  cases bad with
  | true => rw [In_Short_bad 9 b]; rfl
  | false => rw [In_Short 9 b (by omega) ho hl, told_tx]
theorem long_f (b : List Int) (bad : Bool) (ho : Oct b) (hl : b.length < 140737488355328) : octs_In_Long.f 9 b bad = some (tx 4 (b, bad)) := by
  unfold octs_In_Long.f
  cases bad with
  | true => rw [meas_bad]; rfl
  | false => rw [show (4 : Int) = ((4 : Nat) : Int) from rfl, meas_f 9 b 4 (by omega) (by omega) ho hl, told_tx]; rfl
theorem tx_oct (n : Nat) (s : List Int × Bool) (ho : Oct s.1) : Oct (tx n s).1 ∧ Oct (tx n s).2.1 := by
  unfold tx
  (repeat' split) <;> first | exact ⟨oct_nil, oct_nil⟩ | exact ⟨oct_take (oct_drop ho _) _, oct_drop (oct_drop ho _) _⟩
theorem tx_len (n : Nat) (s : List Int × Bool) : (tx n s).1.length + (tx n s).2.1.length ≤ s.1.length := by
  unfold tx
  (repeat' split) <;> simp <;> omega
theorem nm_oct (n : Nat) (s : List Int × Bool) (ho : Oct s.1) : Oct (nm n s).2.1 := by
  unfold nm
  (repeat' split) <;> first | exact oct_nil | exact oct_drop ho _
theorem nm_len (n : Nat) (s : List Int × Bool) : (nm n s).2.1.length ≤ s.1.length := by
  unfold nm
  (repeat' split) <;> simp
theorem nm_bound (n : Nat) (s : List Int × Bool) (ho : Oct s.1) : 0 ≤ (nm n s).1 ∧ (nm n s).1 < 256 ^ n := by
  unfold nm
  (repeat' split)
  · exact ⟨by simp, Int.pow_pos (by omega)⟩
  · exact ⟨by simp, Int.pow_pos (by omega)⟩
  · have h := num_bound _ (oct_take ho n)
    have hl : (s.1.take n).length = n := by rw [List.length_take]; omega
    rw [hl] at h
    exact h
theorem read_oct (Q : List Int → List S24 × Bool) (k : Int) (s : List Int × Bool) (ho : Oct s.1) : Oct (readP Q k s).2.1 := by
  unfold readP
  (repeat' split) <;> first | exact nm_oct _ _ ho | exact (tx_oct _ _ ho).2 | exact ho
theorem read_len (Q : List Int → List S24 × Bool) (k : Int) (s : List Int × Bool) : (readP Q k s).2.1.length ≤ s.1.length := by
  unfold readP
  (repeat' split) <;> first | exact nm_len _ _ | exact Nat.le_trans (Nat.le_add_left _ _) (tx_len 4 s) | exact Nat.le_refl _
/-- A round takes one octet at least, or is bad. -/
theorem tx_less (n : Nat) (s : List Int × Bool) (hn : 1 ≤ n) (hs : 1 ≤ s.1.length) : (tx n s).2.1.length < s.1.length := by
  unfold tx
  (repeat' split) <;> simp <;> omega
end Tb
end Go.Proofs.Ytfhaffpegncdiaa.PT
