/-
Append, Ok and Parse of the package tabl, in plain Lean; the statements' self-test answers true.
Conditions: no text longer than any machine has room for; octets that are octets.
-/
import Derived.Test.YtfhaffpegncdiaaTTablRound
import Derived.Test.YtfhaffpegncdiaaPTx6
namespace Go.Proofs.Ytfhaffpegncdiaa.PT
open Go.RowKit Go.Proofs.Ytfhaffpegncdiaa.Pure Go.Proofs.YtfhaffpegncdiaaW.PrintWords Go.Proofs.YtfhaffpegncdiaaW.PrintLast Go.Proofs.YtfhaffpegncdiaaW.PrintMore
set_option linter.unusedVariables false
set_option linter.unusedSimpArgs false
namespace Tb
theorem rows_1 (l : List S24) (h : tame 8 l = true) : tabl_rows.f l 1 = some (rowsP 8 l) := by
  unfold tabl_rows.f
  rw [if_pos ⟨by omega, by omega, h⟩]
  rfl
theorem append_f (b : List Int) (l : List S24) (h : tame 8 l = true) (hb : b.length ≤ 100000000) : tabl_Append.f b l = some (b ++ (rowsP 8 l).1, (rowsP 8 l).2) := by
  have := rowsP_len 8 l
  unfold tabl_Append.f slices_Clone_byte_byte.f
  rw [rows_1 l h, Option.bind_some, if_pos (by omega), Option.bind_some, if_pos (by omega)]
theorem ok_f (l : List S24) (h : tame 8 l = true) : tabl_Ok.f l = some (rowsP 8 l).2 := by
  unfold tabl_Ok.f
  rw [rows_1 l h, Option.bind_some]
theorem str_size (l : List Int) : (strOfNums l).size = l.length := by
  show (strOfNums l).data.size = _
  rw [← Array.length_toList, strOfNums_data, List.length_map]
def tame1 (n : Nat) (x : S24) : Prop := (x.f0.size ≤ 1000000000 ∧ x.f3.size ≤ 1000000000) ∧ tame n x.f4 = true
theorem tame_of {n : Nat} {l : List S24} (h : ∀ x ∈ l, tame1 n x) : tame (n + 1) l = true := by
  unfold tame
  rw [List.all_eq_true]
  intro x hx
  have := h x hx
  unfold tame1 at this
  simpa using this
theorem read_tame (Q : List Int → List S24 × Bool) (n : Nat) (hQ : ∀ b, tame n (Q b).1 = true) (k : Int) (s : List Int × Bool) (hl : s.1.length ≤ 2000) : (readP Q k s).1.2.1.size ≤ 1000000000 ∧ tame n (readP Q k s).1.2.2.1 = true := by
  have h0 : tame n [] = true := by cases n <;> simp [tame]
  have hz : (⟨#[]⟩ : ByteArray).size = 0 := rfl
  unfold readP
  (repeat' split) <;> first | exact ⟨by rw [hz]; omega, h0⟩ | exact ⟨by rw [hz]; omega, hQ _⟩ | exact ⟨by rw [str_size]; have := tx_len 4 s; omega, h0⟩
theorem parseL_tame (Q : List Int → List S24 × Bool) (n : Nat) (hQ : ∀ b, tame n (Q b).1 = true) : ∀ (m : Nat) (b : List Int) (out : List S24), b.length ≤ 2000 → (∀ x ∈ out, tame1 n x) → ∀ x ∈ (parseL Q m b out).1, tame1 n x
  | 0, _, _, _, _, x, hx => by simp [parseL] at hx
  | m + 1, b, out, hb, ho, x, hx => by
    unfold parseL at hx
    split at hx
    · exact ho x hx
    · simp only at hx
      split at hx
      · have e1 := tx_len 1 (b, false)
        have e2 := nm_len 1 (tx 1 (b, false)).2
        have e3 := read_len Q (nm 1 (tx 1 (b, false)).2).1 (nm 1 (tx 1 (b, false)).2).2
        have e4 := read_tame Q n hQ (nm 1 (tx 1 (b, false)).2).1 (nm 1 (tx 1 (b, false)).2).2 (by simp only at e1; omega)
        simp only at e1
        refine parseL_tame Q n hQ m _ _ (by omega) ?_ x hx
        intro y hy
        rcases List.mem_append.1 hy with hy | hy
        · exact ho y hy
        · rw [List.mem_singleton.1 hy]
          exact ⟨⟨by rw [str_size]; omega, e4.1⟩, e4.2⟩
      · simp at hx
theorem parseP_tame : ∀ (n : Nat) (b : List Int), tame n (parseP n b).1 = true
  | 0, _ => by simp [tame]
  | n + 1, b => by
    unfold parseP
    split
    · rename_i hb
      exact tame_of (parseL_tame (parseP n) n (parseP_tame n) _ b [] hb (by simp))
    · simp [tame]
theorem parse_f (b : List Int) (ho : Oct b) : tabl_Parse.f b = some (if (parseP 8 b).2 = true ∧ (rowsP 8 (parseP 8 b).1).2 = true then ((parseP 8 b).1, true) else ([], false)) := by
  have h := parseP_tame 8 b
  unfold tabl_Parse.f
  have e1 : tabl_parse.f b 1 = some (parseP 8 b) := by unfold tabl_parse.f; rw [if_pos ⟨by omega, by omega, ho⟩]; rfl
  rw [e1, Option.bind_some]
  by_cases c1 : (parseP 8 b).2 = true
  · rw [if_pos c1, ok_f _ h, Option.bind_some]
    by_cases c2 : (rowsP 8 (parseP 8 b).1).2 = true
    · rw [if_pos c2, if_pos ⟨c1, c2⟩]
    · rw [if_neg c2, if_neg (fun h => c2 h.2)]
  · rw [if_neg c1, if_neg (fun h => c1 h.1)]
/-- What was told is parsed. -/
theorem parse_told (l : List S24) (hr : rng 8 l) (h : (rowsP 8 l).2 = true) : tabl_Parse.f (rowsP 8 l).1 = some (l, true) := by
  have h2 := round 8 l hr h
  rw [parse_f _ (rowsP_oct 8 l), h2, if_pos ⟨rfl, h⟩]
theorem awake_ok : waybilllaw2_awake.f = some true := by decide +kernel
end Tb
end Go.Proofs.Ytfhaffpegncdiaa.PT
