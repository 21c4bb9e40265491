/-
A node's octets, and that they are read as they were told, whatever noughts stand behind.
-/
import Derived.Test.YtfhaffpegncdiaaNNodeOk
import Derived.Test.YtfhaffpegncdiaaNOctsTxt
import Derived.Test.YtfhaffpegncdiaaPNx5
import Derived.Test.YtfhaffpegncdiaaPNx8
namespace Go.Proofs.Ytfhaffpegncdiaa.Pure
open Go.RowKit Go.Proofs.Ytfhaffpegncdiaa.PN Go.Proofs.YtfhaffpegncdiaaW.PrintWords Go.Proofs.YtfhaffpegncdiaaW.PrintLast Go.Proofs.YtfhaffpegncdiaaW.PrintMore
set_option linter.unusedVariables false
set_option linter.unusedSimpArgs false
def txO (s : ByteArray) : List Int := be 1 (s.size : Int) ++ bytesOf s
def rowOct (lf : Bool) (x : S41) : List Int := txO x.f0 ++ (if lf = true then txO x.f1 else be 4 x.f2)
def rowsOct (lf : Bool) : List S41 → List Int
  | [] => []
  | x :: l => rowOct lf x ++ rowsOct lf l
def nodeOct (lf : Bool) (l : List S41) : List Int := be 1 (if lf = true then 1 else 2) ++ (be 2 (l.length : Int) ++ rowsOct lf l)
theorem txO_len (s : ByteArray) : (txO s).length = 1 + s.size := by unfold txO; rw [List.length_append, be_len, bytesOf_len]
theorem txO_oct (s : ByteArray) : Oct (txO s) := oct_app (be_oct _ _) (oct_bytesOf _)
theorem rowOct_len (lf : Bool) (x : S41) : (rowOct lf x).length = rowLen lf x := by
  unfold rowOct rowLen
  rw [List.length_append, txO_len]
  cases lf with
  | true => rw [if_pos rfl, if_pos rfl, txO_len]; omega
  | false => rw [if_neg (by decide), if_neg (by decide), be_len]; omega
theorem rowOct_oct (lf : Bool) (x : S41) : Oct (rowOct lf x) := by
  unfold rowOct
  refine oct_app (txO_oct _) ?_
  split
  · exact txO_oct _
  · exact be_oct _ _
theorem rowsOct_len (lf : Bool) (l : List S41) : (rowsOct lf l).length = rowsLen lf l := by
  induction l with
  | nil => rfl
  | cons x l ih => rw [rowsOct, rowsLen, List.length_append, rowOct_len, ih]
theorem rowsOct_oct (lf : Bool) (l : List S41) : Oct (rowsOct lf l) := by
  induction l with
  | nil => exact oct_nil
  | cons x l ih => exact oct_app (rowOct_oct lf x) ih
theorem rowsOct_drop (lf : Bool) (l : List S41) (j : Nat) (h : j < l.length) : rowsOct lf (l.drop j) = rowOct lf (rd_T41 l (j : Int)) ++ rowsOct lf (l.drop (j + 1)) := by
  rw [rd_get l j h, List.drop_eq_getElem_cons h, rowsOct]
theorem nodeOct_len (lf : Bool) (l : List S41) : (nodeOct lf l).length = 3 + rowsLen lf l := by
  unfold nodeOct
  rw [List.length_append, List.length_append, be_len, be_len, rowsOct_len]; omega
theorem short_step (k : Nat) (hk : 9 ≤ k) (acc : List Int) (s : ByteArray) (hs : s.size ≤ 255) (ha : acc.length ≤ 100000) : octs_Short.f k acc s = some (acc ++ txO s, true) := by
  rw [Short_f k acc s hk (by omega), if_pos hs]
  rfl
theorem app_l0 (lf : Bool) (l : List S41) (hl : l.length ≤ 100) (hg : ∀ x ∈ l, rowOk lf x) : ∀ (d j k : Nat) (acc : List Int), l.length - j = d → j ≤ l.length → d + 20 < k → acc.length + rowsLen lf (l.drop j) ≤ 50000 →
    node_Append.l0 k acc l (l.length : Int) (j : Int) lf l = some (acc ++ rowsOct lf (l.drop j), true) := by
  intro d
  induction d with
  | zero =>
    intro j k acc hd hj hk hv
    obtain ⟨k, rfl⟩ : ∃ k', k = k' + 1 := ⟨k - 1, by omega⟩
    rw [node_Append.l0, if_neg (by omega), show l.drop j = [] from List.drop_eq_nil_of_le (by omega), rowsOct, List.append_nil]
  | succ d ih =>
    intro j k acc hd hj hk hv
    obtain ⟨k, rfl⟩ : ∃ k', k = k' + 1 := ⟨k - 1, by omega⟩
    have hjl : j < l.length := by omega
    have hro := hg _ (rd_mem l j hjl)
    have hrl := rowOct_len lf (rd_T41 l (j : Int))
    rw [rowsLen_drop lf l j hjl] at hv
    rw [rowsOct_drop lf l j hjl]
    have step := ih (j + 1) k (acc ++ rowOct lf (rd_T41 l (j : Int))) (by omega) (by omega) (by omega) (by rw [List.length_append]; omega)
    obtain ⟨h0, h1, h2, h3⟩ := hro
    have t0 := txO_len (rd_T41 l (j : Int)).f0
    rw [node_Append.l0, if_pos (by omega), if_pos (by omega), if_pos (by omega), short_step k (by omega) acc _ (by omega) (by omega), Option.bind_some]
    dsimp only
    unfold rowOct at step ⊢
    cases lf with
    | true =>
      have h2 := (h2 rfl).1
      rw [if_pos rfl] at step ⊢
      rw [if_pos rfl, short_step k (by omega) _ _ (by omega) (by rw [List.length_append]; omega), Option.bind_some, w_next j (by omega), List.append_assoc, step]
      simp only [List.append_assoc]
    | false =>
      obtain ⟨_, h4, h5⟩ := h3 rfl
      have w4 : wd 4 = 4 := by decide
      rw [if_neg (by decide)] at step ⊢
      rw [if_neg (by decide), u64_id _ (by omega) (by omega), Int_f k (by omega) _ 4 _ (by rw [List.length_append]; omega), w4, Option.bind_some, w_next j (by omega), List.append_assoc, step]
      simp only [List.append_assoc]
theorem app_f (lf : Bool) (r : List S41) (h : TamedG lf r) (k : Nat) (hk : 600 ≤ k) : node_Append.f k lf r = some (if (lf || decide (0 < r.length)) = true then (nodeOct lf r, true) else ([], false)) := by
  have hok := Ok_f lf r h k (by omega)
  obtain ⟨ha, hl, hg, hn⟩ := h
  obtain ⟨k, rfl⟩ : ∃ j, k = j + 1 := ⟨k - 1, by omega⟩
  unfold node_Append.f
  rw [hok, Option.bind_some]
  by_cases hb : (lf || decide (0 < r.length)) = true
  · rw [if_pos hb, if_pos hb]
    have w1 : wd 1 = 1 := by decide
    have w2 : wd 2 = 2 := by decide
    have fin : ∀ v : Int, node_Append.j0 (k + 1) v lf r = some (be 1 v ++ (be 2 (r.length : Int) ++ rowsOct lf r), true) := by
      intro v
      rw [node_Append.j0, Int_f k (by omega) [] 1 v (by simp), w1, Option.bind_some, List.nil_append, u64_id _ (by omega) (by omega), Int_f k (by omega) _ 2 _ (by rw [be_len]; omega), w2, Option.bind_some]
      have step := app_l0 lf r (by omega) hg r.length 0 k (be 1 v ++ be 2 (r.length : Int)) (by omega) (by omega) (by omega) (by rw [List.length_append, be_len, be_len, List.drop_zero]; omega)
      rw [List.drop_zero, List.append_assoc] at step
      exact step
    unfold nodeOct
    cases lf with
    | true => rw [if_pos rfl, if_pos rfl]; exact fin 1
    | false => rw [if_neg (by decide), if_neg (by decide)]; exact fin 2
  · rw [if_neg hb, if_neg hb]
end Go.Proofs.Ytfhaffpegncdiaa.Pure
