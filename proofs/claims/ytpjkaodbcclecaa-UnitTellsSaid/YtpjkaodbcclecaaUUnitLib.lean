/-
Ops' octets: what the writer of the given program comes to.
-/
import Derived.Test.YtpjkaodbcclecaaPUx3
import Derived.Test.YtpjkaodbcclecaaUOctsTxt
namespace Go.Proofs.Ytpjkaodbcclecaa.Pure
open Go.RowKit Go.Proofs.Ytpjkaodbcclecaa.PU Go.Proofs.YtpjkaodbcclecaaW.PrintWords Go.Proofs.YtpjkaodbcclecaaW.PrintLast Go.Proofs.YtpjkaodbcclecaaW.PrintMore
set_option linter.unusedVariables false
set_option linter.unusedSimpArgs false
def goodU (x : S38) : Bool := decide (x.f0.size ≠ 0 ∧ x.f0.size ≤ 130 ∧ x.f2.length ≤ 11000 ∧ (x.f1 = true → x.f2.length = 0))
def opOct (x : S38) : List Int := [if x.f1 = true then 2 else 1, (x.f0.size : Int) % 256] ++ (bytesOf x.f0 ++ (if x.f1 = true then [] else be 4 (x.f2.length : Int) ++ x.f2))
def appU (b : List Int) : List S38 → List Int × Bool
  | [] => (b, true)
  | x :: l => if goodU x = true then (if (b ++ opOct x).length > 190000 then ([], false) else appU (b ++ opOct x) l) else ([], false)
theorem size_nil (s : ByteArray) : s.toList = [] ↔ s.size = 0 := by
  rw [← List.length_eq_zero_iff, ByteArray.toList_eq, Array.length_toList]
  rfl
theorem good_f (x : S38) : unit_good.f x.f0 x.f1 x.f2 = some (goodU x) := by
  unfold unit_good.f goodU
  by_cases h1 : x.f0.toList = []
  · have := (size_nil _).1 h1
    rw [if_pos h1, decide_eq_false (by omega)]
  have h1' : x.f0.size ≠ 0 := fun h => h1 ((size_nil _).2 h)
  rw [if_neg h1]
  by_cases h2 : (x.f0.size : Int) > 130
  · rw [if_pos h2, decide_eq_false (by omega)]
  rw [if_neg h2]
  by_cases h3 : (x.f2.length : Int) > 11000
  · rw [if_pos h3, decide_eq_false (by omega)]
  rw [if_neg h3]
  cases hd : x.f1 with
  | true =>
    rw [if_pos rfl]
    congr 1
    rw [Bool.eq_iff_iff, beq_iff_eq, decide_eq_true_iff]
    constructor
    · intro h; exact ⟨h1', by omega, by omega, fun _ => by omega⟩
    · intro h; have := h.2.2.2 rfl; omega
  | false =>
    rw [if_neg (by simp), decide_eq_true ⟨h1', by omega, by omega, fun h => by cases h⟩]
theorem rd_U (l : List S38) (i : Nat) (h : i < l.length) : rd_T38 l (i : Int) = l[i] := by
  unfold rd_T38
  rw [Int.toNat_natCast, List.getD_eq_getElem?_getD, List.getElem?_eq_getElem h]
  rfl
theorem App_j1 (k : Nat) (hk : 12 ≤ k) (b : List Int) (hb : b.length ≤ 190000) (x : S38) (hx : goodU x = true) (l : List S38) (n i : Int) :
    unit_Append.j1 (k + 1) b (if x.f1 = true then 2 else 1) l n i x.f0 x.f1 x.f2 = if (b ++ opOct x).length > 190000 then some ([], false) else unit_Append.l0 k (b ++ opOct x) l n (wrap64 (i + 1)) := by
  have hg := of_decide_eq_true hx
  have hbl := bytesOf_len x.f0
  have h4 := be_len 4 (x.f2.length : Int)
  rw [unit_Append.j1, Option.bind_some, if_pos (by simp; omega), Option.bind_some, if_pos (by simp; omega), Option.bind_some]
  unfold opOct
  cases hd : x.f1 with
  | true =>
    have e : b ++ [2, (x.f0.size : Int) % 256] ++ bytesOf x.f0 = b ++ ([2, (x.f0.size : Int) % 256] ++ (bytesOf x.f0 ++ [])) := by simp only [List.append_assoc, List.append_nil]
    simp only [if_true]
    rw [e]
    by_cases h : (b ++ ([2, (x.f0.size : Int) % 256] ++ (bytesOf x.f0 ++ []))).length > 190000
    · rw [if_pos (by omega), if_pos h]
    · rw [if_neg (by omega), if_neg h]
  | false =>
    have e : b ++ [1, (x.f0.size : Int) % 256] ++ bytesOf x.f0 ++ ([] ++ (be 4 (x.f2.length : Int) ++ x.f2)) = b ++ ([1, (x.f0.size : Int) % 256] ++ (bytesOf x.f0 ++ (be 4 (x.f2.length : Int) ++ x.f2))) := by simp only [List.append_assoc, List.nil_append]
    have hL := Long_f k [] x.f2 (by omega) (by simp; omega)
    simp only [Bool.false_eq_true, if_false]
    rw [hL, Option.bind_some, if_pos (by simp [hbl, h4]; omega), Option.bind_some, e]
    by_cases h : (b ++ ([1, (x.f0.size : Int) % 256] ++ (bytesOf x.f0 ++ (be 4 (x.f2.length : Int) ++ x.f2)))).length > 190000
    · rw [if_pos (by omega), if_pos h]
    · rw [if_neg (by omega), if_neg h]
theorem App_l0 (l : List S38) (hl : l.length < 1000000000) : ∀ (d i k : Nat) (b : List Int), l.length - i = d → i ≤ l.length → b.length ≤ 190000 → 2 * d + 20 < k →
    unit_Append.l0 k b l (l.length : Int) (i : Int) = some (appU b (l.drop i)) := by
  intro d
  induction d with
  | zero =>
    intro i k b hd hi hb hk
    obtain ⟨k, rfl⟩ : ∃ j, k = j + 1 := ⟨k - 1, by omega⟩
    rw [unit_Append.l0, if_neg (by omega), List.drop_of_length_le (by omega)]
    rfl
  | succ d ih =>
    intro i k b hd hi hb hk
    obtain ⟨k, rfl⟩ : ∃ j, k = j + 1 + 1 := ⟨k - 2, by omega⟩
    have hil : i < l.length := by omega
    have hw : wrap64 ((i : Int) + 1) = ((i + 1 : Nat) : Int) := by rw [w64_id _ (by omega) (by omega)]; omega
    have hdr : l.drop i = l[i] :: l.drop (i + 1) := List.drop_eq_getElem_cons hil
    rw [unit_Append.l0, if_pos (by omega), if_pos (by omega), if_pos (by omega), rd_U l i hil, good_f, Option.bind_some, hdr, appU]
    by_cases hg : goodU l[i] = true
    · rw [if_pos hg, if_pos hg]
      have hj := App_j1 k (by omega) b hb l[i] hg l (l.length : Int) (i : Int)
      have hrec : ∀ b' : List Int, b'.length ≤ 190000 → unit_Append.l0 k b' l (l.length : Int) (wrap64 ((i : Int) + 1)) = some (appU b' (l.drop (i + 1))) := by
        intro b' hb'
        rw [hw]
        exact ih (i + 1) k b' (by omega) (by omega) hb' (by omega)
      have hfin : unit_Append.j1 (k + 1) b (if l[i].f1 = true then 2 else 1) l (l.length : Int) (i : Int) l[i].f0 l[i].f1 l[i].f2 = some (if (b ++ opOct l[i]).length > 190000 then ([], false) else appU (b ++ opOct l[i]) (l.drop (i + 1))) := by
        rw [hj]
        by_cases h : (b ++ opOct l[i]).length > 190000
        · rw [if_pos h, if_pos h]
        · rw [if_neg h, if_neg h, hrec _ (by omega)]
      by_cases hd1 : l[i].f1 = true
      · rw [if_pos hd1]
        rw [if_pos hd1] at hfin
        exact hfin
      · rw [if_neg hd1]
        rw [if_neg hd1] at hfin
        exact hfin
    · rw [if_neg hg, if_neg hg]
theorem AppendU (k : Nat) (l : List S38) (hl : l.length < 1000000000) (hk : 2 * l.length + 20 < k) : unit_Append.f k l = some (appU [] l) := by
  unfold unit_Append.f
  have := App_l0 l hl l.length 0 k [] (by omega) (by omega) (by simp) hk
  simpa using this
theorem opOct_len (x : S38) : (opOct x).length = 2 + x.f0.size + (if x.f1 = true then 0 else 4 + x.f2.length) := by
  unfold opOct
  have hbl := bytesOf_len x.f0
  split <;> simp [be_len, hbl] <;> omega
end Go.Proofs.Ytpjkaodbcclecaa.Pure
