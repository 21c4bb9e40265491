/-
The plain laws that the statement rests on, behind each other.
-/
import Derived.Test.YtfhaffpegncdiaaPNx10
import Derived.Test.YtfhaffpegncdiaaPNx17
import Derived.Test.YtfhaffpegncdiaaPNx11
import Derived.Test.YtfhaffpegncdiaaPNx4
import Derived.Test.YtfhaffpegncdiaaPNx6
import Derived.Test.YtfhaffpegncdiaaPNx7
import Derived.Laws.BitsLemmas
import Derived.IntWalk
import Derived.Lib.Bytes
import Derived.Test.YtfhaffpegncdiaaPNx3
import Derived.Test.YtfhaffpegncdiaaPNx2
import Derived.Test.YtfhaffpegncdiaaPNx9
import Derived.Test.YtfhaffpegncdiaaPNx12
import Derived.Test.YtfhaffpegncdiaaPNx5
import Derived.Test.YtfhaffpegncdiaaPNx8
import Derived.Test.YtfhaffpegncdiaaPNx13
import Derived.Test.YtfhaffpegncdiaaPNx14
/-
The order of keys: octet by octet.
-/
namespace Go.Proofs.Ytfhaffpegncdiaa.Pure
open Go.RowKit Go.Proofs.Ytfhaffpegncdiaa.PN Go.Proofs.YtfhaffpegncdiaaW.PrintWords Go.Proofs.YtfhaffpegncdiaaW.PrintLast Go.Proofs.YtfhaffpegncdiaaW.PrintMore
set_option linter.unusedVariables false
set_option linter.unusedSimpArgs false
theorem less_cons (a b : UInt8) (x y : List UInt8) : Op.bytesLess (a :: x) (b :: y) = true ↔ a < b ∨ (a = b ∧ Op.bytesLess x y = true) := by
  rw [Op.bytesLess, Bool.or_eq_true, Bool.and_eq_true, decide_eq_true_eq, beq_iff_eq]
theorem less_irrefl : ∀ x : List UInt8, Op.bytesLess x x = false
  | [] => rfl
  | a :: x => by
    rw [Bool.eq_false_iff]
    intro h
    rcases (less_cons a a x x).1 h with h | h
    · exact UInt8.lt_irrefl a h
    · rw [less_irrefl x] at h; cases h.2
end Go.Proofs.Ytfhaffpegncdiaa.Pure
/-
Rows that rise; what node.Find comes to on them.
-/
namespace Go.Proofs.Ytfhaffpegncdiaa.Pure
open Go.RowKit Go.Proofs.Ytfhaffpegncdiaa.PN Go.Proofs.YtfhaffpegncdiaaW.PrintWords Go.Proofs.YtfhaffpegncdiaaW.PrintLast Go.Proofs.YtfhaffpegncdiaaW.PrintMore
set_option linter.unusedVariables false
set_option linter.unusedSimpArgs false
def ky (l : List S41) (i : Nat) : List UInt8 := (rd_T41 l (i : Int)).f0.toList
/-- The place p of s in l: what stands ahead of it is below s, what stands from it on is not. -/
structure At (l : List S41) (s : List UInt8) (p : Nat) : Prop where
  le : p ≤ l.length
  lo : ∀ q, q < p → Op.bytesLess (ky l q) s = true
  hi : ∀ q, p ≤ q → q < l.length → Op.bytesLess (ky l q) s = false
end Go.Proofs.Ytfhaffpegncdiaa.Pure
/-
Small and Tame: Tame's rows rise.
-/
namespace Go.Proofs.Ytfhaffpegncdiaa.Pure
open Go.RowKit Go.Proofs.Ytfhaffpegncdiaa.PN Go.Proofs.YtfhaffpegncdiaaW.PrintWords Go.Proofs.YtfhaffpegncdiaaW.PrintLast Go.Proofs.YtfhaffpegncdiaaW.PrintMore
set_option linter.unusedVariables false
set_option linter.unusedSimpArgs false
theorem w_next (n : Nat) (h : n < 100000) : wrap64 ((n : Int) + 1) = ((n + 1 : Nat) : Int) := by unfold wrap64; omega
theorem w_prev (n : Nat) (h : 0 < n) (h2 : n < 100000) : wrap64 ((n : Int) - 1) = ((n - 1 : Nat) : Int) := by unfold wrap64; omega
end Go.Proofs.Ytfhaffpegncdiaa.Pure
/-
What the printed functions of the package octs come to, in plain Lean: numbers as octets and back, texts behind their lengths.
Conditions: the bounds on lengths and numbers that each lemma names.
-/
namespace Go.Proofs.Ytfhaffpegncdiaa.Pure
open Go.RowKit Go.Proofs.Ytfhaffpegncdiaa.PN Go.Proofs.YtfhaffpegncdiaaW.PrintWords Go.Proofs.YtfhaffpegncdiaaW.PrintLast Go.Proofs.YtfhaffpegncdiaaW.PrintMore
set_option linter.unusedVariables false
set_option linter.unusedSimpArgs false

/-- A number's n lowest octets, the highest first. -/
def be : Nat → Int → List Int
  | 0, _ => []
  | n + 1, v => v / 256 ^ n % 256 :: be n v
def wd (n : Int) : Nat := (mn (mx n 1) 8).toNat

theorem wd_ge (n : Int) : 1 ≤ wd n := by unfold wd mn mx; (repeat' split) <;> omega
theorem wd_le (n : Int) : wd n ≤ 8 := by unfold wd mn mx; (repeat' split) <;> omega
theorem wd_cast (n : Int) : mn (mx n 1) 8 = (wd n : Int) := by unfold wd mn mx; (repeat' split) <;> omega
theorem be_len (n : Nat) (v : Int) : (be n v).length = n := by
  induction n with
  | zero => rfl
  | succ n ih => simp [be, ih]
theorem u64_id (n : Int) (h0 : 0 ≤ n) (h1 : n < 18446744073709551616) : IntKind.u64.wrap n = n := IntWalk.u64_in n ⟨h0, by omega⟩
theorem w64_id (n : Int) (h0 : -9223372036854775808 ≤ n) (h1 : n < 9223372036854775808) : wrap64 n = n := by unfold wrap64; omega
/-- The loop of octs.Int. -/
theorem Int_l0 (v : Int) : ∀ (j : Nat) (K : Nat) (x : List Int), j ≤ 8 → j < K → x.length + j < 140737488355328 → octs_Int.l0 K x v ((j : Int) - 1) = some (x ++ be j v) := by
  intro j
  induction j with
  | zero =>
    intro K x _ hK hx
    obtain ⟨K, rfl⟩ : ∃ m, K = m + 1 := ⟨K - 1, by omega⟩
    simp only [octs_Int.l0]
    rw [if_neg (by omega)]
    simp [be]
  | succ j ih =>
    intro K x hj hK hx
    obtain ⟨K, rfl⟩ : ∃ m, K = m + 1 := ⟨K - 1, by omega⟩
    have e1 : (((j + 1 : Nat) : Int) - 1) = (j : Int) := by omega
    have e2 : IntKind.u64.wrap (wrap64 ((j : Int) * 8)) = (j : Int) * 8 := by
      rw [w64_id _ (by omega) (by omega), u64_id _ (by omega) (by omega)]
    have e3 : shr .u64 v ((j : Int) * 8) = v / 256 ^ j := by
      unfold shr
      have a1 : ((j : Int) * 8).toNat = 8 * j := by omega
      have a2 : min (8 * j) IntKind.u64.bits = 8 * j := Nat.min_eq_left (by simp only [IntKind.bits]; omega)
      rw [a1, a2, Int.pow_mul]
      rfl
    simp only [octs_Int.l0]
    rw [e1, if_pos (by omega), e2, if_pos (by omega), if_pos (by omega), e3, w64_id _ (by omega) (by omega), ih K _ (by omega) (by omega) (by simp; omega)]
    simp [be]
theorem Int_f (k : Nat) (hk : 9 ≤ k) (l : List Int) (n v : Int) (hl : l.length + 8 < 140737488355328) : octs_Int.f k l n v = some (l ++ be (wd n) v) := by
  unfold octs_Int.f slices_Clone_byte_byte.f octs_width.f
  have h8 := wd_le n
  have h1 := wd_ge n
  rw [if_pos (by omega)]
  simp only [Option.bind_some]
  rw [wd_cast, w64_id _ (by omega) (by omega)]
  exact Int_l0 v (wd n) k l h8 (by omega) (by omega)

/-! ### the reader -/
end Go.Proofs.Ytfhaffpegncdiaa.Pure
/-
Octets as texts: which of two texts of the same length stands first, and when they are one.
-/
namespace Go.Proofs.Ytfhaffpegncdiaa.Pure
open Go.RowKit Go.Proofs.Ytfhaffpegncdiaa.PN Go.Proofs.YtfhaffpegncdiaaW.PrintWords Go.Proofs.YtfhaffpegncdiaaW.PrintLast Go.Proofs.YtfhaffpegncdiaaW.PrintMore
set_option linter.unusedVariables false
set_option linter.unusedSimpArgs false

end Go.Proofs.Ytfhaffpegncdiaa.Pure
/-
Masks of whole numbers, and what a rest comes to.
-/
namespace Go.Proofs.Ytfhaffpegncdiaa.Pure
open Go.RowKit Go.Proofs.Ytfhaffpegncdiaa.PN Go.Proofs.YtfhaffpegncdiaaW.PrintWords Go.Proofs.YtfhaffpegncdiaaW.PrintLast Go.Proofs.YtfhaffpegncdiaaW.PrintMore
set_option linter.unusedVariables false
set_option linter.unusedSimpArgs false
end Go.Proofs.Ytfhaffpegncdiaa.Pure
/-
Tame's rows may all be, and go into a page; how many octets a node has.
-/
namespace Go.Proofs.Ytfhaffpegncdiaa.Pure
open Go.RowKit Go.Proofs.Ytfhaffpegncdiaa.PN Go.Proofs.YtfhaffpegncdiaaW.PrintWords Go.Proofs.YtfhaffpegncdiaaW.PrintLast Go.Proofs.YtfhaffpegncdiaaW.PrintMore
set_option linter.unusedVariables false
set_option linter.unusedSimpArgs false
def rowLen (lf : Bool) (x : S41) : Nat := if lf = true then 2 + x.f0.size + x.f1.size else 5 + x.f0.size
def rowsLen (lf : Bool) : List S41 → Nat
  | [] => 0
  | x :: l => rowLen lf x + rowsLen lf l
theorem rd_get (l : List S41) (i : Nat) (h : i < l.length) : rd_T41 l (i : Int) = l[i] := by
  unfold rd_T41
  rw [Int.toNat_natCast, List.getD_eq_getElem?_getD, List.getElem?_eq_getElem h]
  rfl
theorem rowsLen_drop (lf : Bool) (l : List S41) (j : Nat) (h : j < l.length) : rowsLen lf (l.drop j) = rowLen lf (rd_T41 l (j : Int)) + rowsLen lf (l.drop (j + 1)) := by
  rw [rd_get l j h, List.drop_eq_getElem_cons h, rowsLen]
end Go.Proofs.Ytfhaffpegncdiaa.Pure
/-
What Tame makes may be, has the size that its rows have, and is itself.
-/
namespace Go.Proofs.Ytfhaffpegncdiaa.Pure
open Go.RowKit Go.Proofs.Ytfhaffpegncdiaa.PN Go.Proofs.YtfhaffpegncdiaaW.PrintWords Go.Proofs.YtfhaffpegncdiaaW.PrintLast Go.Proofs.YtfhaffpegncdiaaW.PrintMore
set_option linter.unusedVariables false
set_option linter.unusedSimpArgs false
theorem size_zero (s : ByteArray) : s.toList = [] ↔ s.size = 0 := by
  rw [← List.length_eq_zero_iff, ByteArray.toList_eq, Array.length_toList]
  rfl
theorem w_rowT (a b : Nat) (h : a + b < 1000000) : wrap64 ((wrap64 (2 + (a : Int))) + (b : Int)) = ((2 + a + b : Nat) : Int) := by unfold wrap64; omega
theorem w_rowF (a : Nat) (h : a < 1000000) : wrap64 (5 + (a : Int)) = ((5 + a : Nat) : Int) := by unfold wrap64; omega
theorem w_add (a b : Nat) (h : a + b < 1000000) : wrap64 ((a : Int) + (b : Int)) = ((a + b : Nat) : Int) := by unfold wrap64; omega
theorem rd_mem (l : List S41) (j : Nat) (h : j < l.length) : rd_T41 l (j : Int) ∈ l := by rw [rd_get l j h]; exact List.getElem_mem h
end Go.Proofs.Ytfhaffpegncdiaa.Pure
/-
Any rows of a node: the program's answer and the document's, on their size and on whether they may be, are one.
-/
namespace Go.Proofs.Ytfhaffpegncdiaa.Pure
open Go.RowKit Go.Proofs.Ytfhaffpegncdiaa.PN Go.Proofs.YtfhaffpegncdiaaW.PrintWords Go.Proofs.YtfhaffpegncdiaaW.PrintLast Go.Proofs.YtfhaffpegncdiaaW.PrintMore
set_option linter.unusedVariables false
set_option linter.unusedSimpArgs false
/-- Rows that are not too many, and not too long. -/
def RB (l : List S41) : Prop := l.length ≤ 400 ∧ ∀ x ∈ l, x.f0.size ≤ 1000 ∧ x.f1.size ≤ 1000
theorem rowLen_B (lf : Bool) {x : S41} (h : x.f0.size ≤ 1000 ∧ x.f1.size ≤ 1000) : rowLen lf x ≤ 2002 := by
  unfold rowLen
  split <;> omega
theorem rowsLen_B (lf : Bool) : ∀ {l : List S41}, (∀ x ∈ l, x.f0.size ≤ 1000 ∧ x.f1.size ≤ 1000) → rowsLen lf l ≤ 2002 * l.length
  | [], _ => by simp [rowsLen]
  | x :: l, h => by
    have h1 := rowLen_B lf (h x List.mem_cons_self)
    have h2 := rowsLen_B lf (fun y hy => h y (List.mem_cons_of_mem x hy))
    simp only [rowsLen, List.length_cons]
    omega
theorem rd_B {l : List S41} (h : RB l) (j : Nat) (hj : j < l.length) : (rd_T41 l (j : Int)).f0.size ≤ 1000 ∧ (rd_T41 l (j : Int)).f1.size ≤ 1000 := h.2 _ (rd_mem l j hj)
theorem drop_B (lf : Bool) {l : List S41} (h : RB l) (j : Nat) : rowsLen lf (l.drop j) ≤ 900000 := by
  have h1 := rowsLen_B lf (l := l.drop j) (fun x hx => h.2 x (List.mem_of_mem_drop hx))
  have h2 := h.1
  rw [List.length_drop] at h1
  omega
theorem rowSizeB_f (lf : Bool) (l : List S41) (x : S41) (h : x.f0.size ≤ 1000 ∧ x.f1.size ≤ 1000) : node_rowSize.f lf l x.f0 x.f1 x.f2 = some ((rowLen lf x : Nat) : Int) := by
  unfold node_rowSize.f rowLen
  cases lf with
  | true => rw [if_pos rfl, if_pos rfl, w_rowT _ _ (by omega)]
  | false => rw [if_neg (by decide), if_neg (by decide), w_rowF _ (by omega)]
theorem SizeB_l0 (lf : Bool) (l : List S41) (h : RB l) : ∀ (d j k v : Nat), l.length - j = d → j ≤ l.length → d < k → v + rowsLen lf (l.drop j) ≤ 900100 →
    node_Size.l0 k (v : Int) l (l.length : Int) (j : Int) lf l = some ((v + rowsLen lf (l.drop j) : Nat) : Int) := by
  have hl := h.1
  intro d
  induction d with
  | zero =>
    intro j k v hd hj hk hv
    obtain ⟨k, rfl⟩ : ∃ k', k = k' + 1 := ⟨k - 1, by omega⟩
    rw [node_Size.l0, if_neg (by omega), show l.drop j = [] from List.drop_eq_nil_of_le (by omega)]
    rfl
  | succ d ih =>
    intro j k v hd hj hk hv
    obtain ⟨k, rfl⟩ : ∃ k', k = k' + 1 := ⟨k - 1, by omega⟩
    have hjl : j < l.length := by omega
    rw [rowsLen_drop lf l j hjl] at hv ⊢
    rw [node_Size.l0, if_pos (by omega), if_pos (by omega), if_pos (by omega), rowSizeB_f lf l _ (rd_B h j hjl), Option.bind_some, w_add _ _ (by omega), w_next j (by omega), ih (j + 1) k _ (by omega) (by omega) (by omega) (by omega), Nat.add_assoc]
theorem SizeB_f (lf : Bool) (l : List S41) (h : RB l) (k : Nat) (hk : 500 ≤ k) : node_Size.f k lf l = some ((3 + rowsLen lf l : Nat) : Int) := by
  have hb := drop_B lf h 0
  have hl := h.1
  have h := SizeB_l0 lf l h l.length 0 k 3 (by omega) (by omega) (by omega) (by omega)
  rw [List.drop_zero] at h
  exact h
/-! ### which rows may be -/
def rowP (lf : Bool) (x : S41) : Prop := 1 ≤ x.f0.size ∧ x.f0.size ≤ 130 ∧ (lf = true → x.f1.size ≤ 20 ∧ x.f2 = 0) ∧ (lf = false → x.f1.size = 0 ∧ 2 ≤ x.f2 ∧ x.f2 ≤ 4294967295)
instance (lf : Bool) (x : S41) : Decidable (rowP lf x) := by unfold rowP; infer_instance
theorem goodU_f (k : Nat) (hk : 1 ≤ k) (lf : Bool) (l : List S41) (x : S41) : node_good.f k lf l x.f0 x.f1 x.f2 = some (decide (rowP lf x)) := by
  obtain ⟨k, rfl⟩ : ∃ j, k = j + 1 := ⟨k - 1, by omega⟩
  have z0 := size_zero x.f0
  have z1 := size_zero x.f1
  unfold node_good.f
  by_cases h0 : x.f0.toList = []
  · rw [if_pos h0, node_good.j0, if_pos rfl, decide_eq_false (fun h => by have := z0.1 h0; have := h.1; omega)]
  · have h1 : 1 ≤ x.f0.size := by
      by_cases e : x.f0.size = 0
      · exact absurd (z0.2 e) h0
      · omega
    rw [if_neg h0, node_good.j0]
    by_cases h2 : x.f0.size ≤ 130
    · rw [decide_eq_false (show ¬ (x.f0.size : Int) > 130 by omega), if_neg (by decide)]
      cases lf with
      | true =>
        rw [if_pos rfl]
        by_cases h3 : x.f1.size ≤ 20
        · rw [if_pos (by omega)]
          by_cases h4 : x.f2 = 0
          · rw [decide_eq_true (show rowP true x from ⟨h1, h2, fun _ => ⟨h3, h4⟩, fun h => Bool.noConfusion h⟩), h4]; rfl
          · rw [decide_eq_false (fun h : rowP true x => h4 (h.2.2.1 rfl).2), beq_eq_false_iff_ne.2 h4]
        · rw [if_neg (by omega), decide_eq_false (fun h : rowP true x => h3 (h.2.2.1 rfl).1)]
      | false =>
        rw [if_neg (by decide)]
        by_cases h3 : x.f1.size = 0
        · rw [if_pos (z1.2 h3)]
          by_cases h4 : 2 ≤ x.f2
          · rw [if_pos h4]
            by_cases h5 : x.f2 ≤ 4294967295
            · rw [decide_eq_true (show rowP false x from ⟨h1, h2, fun h => Bool.noConfusion h, fun _ => ⟨h3, h4, h5⟩⟩), decide_eq_true h5]
            · rw [decide_eq_false (fun h : rowP false x => h5 (h.2.2.2 rfl).2.2), decide_eq_false h5]
          · rw [if_neg (by omega), decide_eq_false (fun h : rowP false x => h4 (h.2.2.2 rfl).2.1)]
        · rw [if_neg (fun e => h3 (z1.1 e)), decide_eq_false (fun h : rowP false x => h3 (h.2.2.2 rfl).1)]
    · rw [decide_eq_true (show (x.f0.size : Int) > 130 by omega), if_pos rfl, decide_eq_false (fun h => h2 h.2.1)]
def ascAt (l : List S41) (j : Nat) : Bool := decide (j = 0) || Op.bytesLess (rd_T41 l ((j - 1 : Nat) : Int)).f0.toList (rd_T41 l (j : Int)).f0.toList
def okFrom (lf : Bool) (l : List S41) : Nat → Nat → Bool
  | 0, _ => true
  | d + 1, j => decide (rowP lf (rd_T41 l (j : Int))) && (ascAt l j && okFrom lf l d (j + 1))
def okEnd (lf : Bool) (l : List S41) : Bool := (lf || decide (0 < l.length)) && decide (3 + rowsLen lf l ≤ 512)
def okU (lf : Bool) (l : List S41) : Bool := okFrom lf l l.length 0 && okEnd lf l
theorem OkB_l0 (lf : Bool) (l : List S41) (h : RB l) : ∀ (d j k : Nat), l.length - j = d → j ≤ l.length → d + 600 < k →
    node_Ok.l0 k l (l.length : Int) (j : Int) lf l = some (okFrom lf l d j && okEnd lf l) := by
  have hl := h.1
  intro d
  induction d with
  | zero =>
    intro j k hd hj hk
    obtain ⟨k, rfl⟩ : ∃ k', k = k' + 1 := ⟨k - 1, by omega⟩
    have e : decide (((3 + rowsLen lf l : Nat) : Int) ≤ 512) = decide (3 + rowsLen lf l ≤ 512) := by
      by_cases q : 3 + rowsLen lf l ≤ 512
      · rw [decide_eq_true q, decide_eq_true (by omega)]
      · rw [decide_eq_false q, decide_eq_false (by omega)]
    rw [node_Ok.l0, if_neg (by omega), SizeB_f lf l h k (by omega), Option.bind_some, e, okFrom, Bool.true_and, okEnd]
    cases lf with
    | true => rw [if_pos rfl]; rfl
    | false =>
      rw [if_neg (by decide)]
      by_cases h : 0 < l.length
      · rw [if_pos (by omega), decide_eq_true h]; rfl
      · rw [if_neg (by omega), decide_eq_false h]; rfl
  | succ d ih =>
    intro j k hd hj hk
    obtain ⟨k, rfl⟩ : ∃ k', k = k' + 1 := ⟨k - 1, by omega⟩
    have hjl : j < l.length := by omega
    have step := ih (j + 1) k (by omega) (by omega) (by omega)
    rw [node_Ok.l0, if_pos (by omega), if_pos (by omega), if_pos (by omega), goodU_f k (by omega) lf l _, Option.bind_some, okFrom]
    by_cases hp : rowP lf (rd_T41 l (j : Int))
    · rw [decide_eq_true hp, if_pos rfl, w_next j (by omega), Bool.true_and]
      by_cases h0 : j = 0
      · rw [if_neg (by omega), step, show ascAt l j = true by unfold ascAt; rw [decide_eq_true h0]; rfl, Bool.true_and]
      · have ea : ascAt l j = Op.bytesLess (rd_T41 l ((j - 1 : Nat) : Int)).f0.toList (rd_T41 l (j : Int)).f0.toList := by unfold ascAt; rw [decide_eq_false h0]; rfl
        rw [if_pos (by omega), w_prev j (by omega) (by omega), if_pos (by omega), if_pos (by omega), ea]
        cases hb : Op.bytesLess (rd_T41 l ((j - 1 : Nat) : Int)).f0.toList (rd_T41 l (j : Int)).f0.toList with
        | true => rw [if_pos rfl, step, Bool.true_and]
        | false => rw [if_neg (by decide)]; rfl
    · rw [decide_eq_false hp, if_neg (by decide)]; rfl
theorem OkB_f (lf : Bool) (l : List S41) (h : RB l) (k : Nat) (hk : 1100 ≤ k) : node_Ok.f k lf l = some (okU lf l) := by
  have hl := h.1
  exact OkB_l0 lf l h l.length 0 k (by omega) (by omega) (by omega)
theorem okFrom_all (lf : Bool) (l : List S41) : ∀ (d j : Nat), okFrom lf l d j = true → ∀ i, j ≤ i → i < j + d → rowP lf (rd_T41 l (i : Int)) := by
  intro d
  induction d with
  | zero => intro j _ i h1 h2; omega
  | succ d ih =>
    intro j h i h1 h2
    rw [okFrom, Bool.and_eq_true, Bool.and_eq_true] at h
    by_cases e : i = j
    · rw [e]; exact of_decide_eq_true h.1
    · exact ih (j + 1) h.2.2 i (by omega) (by omega)
theorem okU_rows {lf : Bool} {l : List S41} (h : okU lf l = true) : ∀ x ∈ l, rowP lf x := by
  intro x hx
  obtain ⟨i, hi, e⟩ := List.getElem_of_mem hx
  unfold okU at h
  rw [Bool.and_eq_true] at h
  have := okFrom_all lf l l.length 0 h.1 i (by omega) (by omega)
  rw [rd_get l i hi, e] at this
  exact this
theorem okU_len {lf : Bool} {l : List S41} (h : okU lf l = true) : 3 + rowsLen lf l ≤ 512 := by
  unfold okU okEnd at h
  rw [Bool.and_eq_true, Bool.and_eq_true] at h
  exact of_decide_eq_true h.2.2
end Go.Proofs.Ytfhaffpegncdiaa.Pure
/-
Octets that were written are read as they were: numbers and texts at the head of a row.
-/
namespace Go.Proofs.Ytfhaffpegncdiaa.Pure
open Go.RowKit Go.Proofs.Ytfhaffpegncdiaa.PN Go.Proofs.YtfhaffpegncdiaaW.PrintWords Go.Proofs.YtfhaffpegncdiaaW.PrintLast Go.Proofs.YtfhaffpegncdiaaW.PrintMore
set_option linter.unusedVariables false
set_option linter.unusedSimpArgs false
theorem bytesOf_len (s : ByteArray) : (bytesOf s).length = s.size := by unfold bytesOf; rw [List.length_map, Array.length_toList]; rfl
theorem Short_f (k : Nat) (l : List Int) (s : ByteArray) (hk : 9 ≤ k) (hl : l.length + 600 < 140737488355328) :
    octs_Short.f k l s = if s.size ≤ 255 then some (l ++ (be 1 (s.size : Int) ++ bytesOf s), true) else some (l, false) := by
  unfold octs_Short.f slices_Clone_byte_byte.f
  by_cases h : s.size ≤ 255
  · have h1 : wd 1 = 1 := by decide
    have h2 := be_len 1 (s.size : Int)
    rw [if_neg (by omega), if_pos h, u64_id _ (by omega) (by omega), Int_f k hk l 1 _ (by omega), h1]
    simp only [Option.bind_some]
    rw [if_pos (by simp [h2]; omega), List.append_assoc]
  · rw [if_pos (by omega), if_neg h, if_pos (by omega)]
    rfl
end Go.Proofs.Ytfhaffpegncdiaa.Pure
/-
A node's octets, and that they are read as they were told, whatever noughts stand behind.
-/
namespace Go.Proofs.Ytfhaffpegncdiaa.Pure
open Go.RowKit Go.Proofs.Ytfhaffpegncdiaa.PN Go.Proofs.YtfhaffpegncdiaaW.PrintWords Go.Proofs.YtfhaffpegncdiaaW.PrintLast Go.Proofs.YtfhaffpegncdiaaW.PrintMore
set_option linter.unusedVariables false
set_option linter.unusedSimpArgs false
def txO (s : ByteArray) : List Int := be 1 (s.size : Int) ++ bytesOf s
def rowOct (lf : Bool) (x : S41) : List Int := txO x.f0 ++ (if lf = true then txO x.f1 else be 4 x.f2)
def rowsOct (lf : Bool) : List S41 → List Int
  | [] => []
  | x :: l => rowOct lf x ++ rowsOct lf l
def nodeOct (lf : Bool) (l : List S41) : List Int := be 1 (if lf = true then 1 else 2) ++ (be 2 (l.length : Int) ++ rowsOct lf l)
theorem txO_len (s : ByteArray) : (txO s).length = 1 + s.size := by unfold txO; rw [List.length_append, be_len, bytesOf_len]
theorem rowOct_len (lf : Bool) (x : S41) : (rowOct lf x).length = rowLen lf x := by
  unfold rowOct rowLen
  rw [List.length_append, txO_len]
  cases lf with
  | true => rw [if_pos rfl, if_pos rfl, txO_len]; omega
  | false => rw [if_neg (by decide), if_neg (by decide), be_len]; omega
theorem rowsOct_drop (lf : Bool) (l : List S41) (j : Nat) (h : j < l.length) : rowsOct lf (l.drop j) = rowOct lf (rd_T41 l (j : Int)) ++ rowsOct lf (l.drop (j + 1)) := by
  rw [rd_get l j h, List.drop_eq_getElem_cons h, rowsOct]
theorem short_step (k : Nat) (hk : 9 ≤ k) (acc : List Int) (s : ByteArray) (hs : s.size ≤ 255) (ha : acc.length ≤ 100000) : octs_Short.f k acc s = some (acc ++ txO s, true) := by
  rw [Short_f k acc s hk (by omega), if_pos hs]
  rfl
end Go.Proofs.Ytfhaffpegncdiaa.Pure
/-
The document's own writing of a number.
-/
namespace Go.Proofs.Ytfhaffpegncdiaa.Pure
open Go.RowKit Go.Proofs.Ytfhaffpegncdiaa.PN Go.Proofs.YtfhaffpegncdiaaW.PrintWords Go.Proofs.YtfhaffpegncdiaaW.PrintLast Go.Proofs.YtfhaffpegncdiaaW.PrintMore
set_option linter.unusedVariables false
set_option linter.unusedSimpArgs false
end Go.Proofs.Ytfhaffpegncdiaa.Pure
/-
Any rows of a node: the program's octets and the document's are one.
-/
namespace Go.Proofs.Ytfhaffpegncdiaa.Pure
open Go.RowKit Go.Proofs.Ytfhaffpegncdiaa.PN Go.Proofs.YtfhaffpegncdiaaW.PrintWords Go.Proofs.YtfhaffpegncdiaaW.PrintLast Go.Proofs.YtfhaffpegncdiaaW.PrintMore
set_option linter.unusedVariables false
set_option linter.unusedSimpArgs false
theorem appB_l0 (lf : Bool) (l : List S41) (h : RB l) (hg : ∀ x ∈ l, rowP lf x) : ∀ (d j k : Nat) (acc : List Int), l.length - j = d → j ≤ l.length → d + 20 < k → acc.length + rowsLen lf (l.drop j) ≤ 50000 →
    node_Append.l0 k acc l (l.length : Int) (j : Int) lf l = some (acc ++ rowsOct lf (l.drop j), true) := by
  have hl := h.1
  intro d
  induction d with
  | zero =>
    intro j k acc hd hj hk hv
    obtain ⟨k, rfl⟩ : ∃ k', k = k' + 1 := ⟨k - 1, by omega⟩
    rw [node_Append.l0, if_neg (by omega), show l.drop j = [] from List.drop_eq_nil_of_le (by omega), rowsOct, List.append_nil]
  | succ d ih =>
    intro j k acc hd hj hk hv
    obtain ⟨k, rfl⟩ : ∃ k', k = k' + 1 := ⟨k - 1, by omega⟩
    have hjl : j < l.length := by omega
    have hro := hg _ (rd_mem l j hjl)
    have hrl := rowOct_len lf (rd_T41 l (j : Int))
    rw [rowsLen_drop lf l j hjl] at hv
    rw [rowsOct_drop lf l j hjl]
    have step := ih (j + 1) k (acc ++ rowOct lf (rd_T41 l (j : Int))) (by omega) (by omega) (by omega) (by rw [List.length_append]; omega)
    obtain ⟨h0, h1, h2, h3⟩ := hro
    have t0 := txO_len (rd_T41 l (j : Int)).f0
    rw [node_Append.l0, if_pos (by omega), if_pos (by omega), if_pos (by omega), short_step k (by omega) acc _ (by omega) (by omega), Option.bind_some]
    dsimp only
    unfold rowOct at step ⊢
    cases lf with
    | true =>
      have h2 := (h2 rfl).1
      rw [if_pos rfl] at step ⊢
      rw [if_pos rfl, short_step k (by omega) _ _ (by omega) (by rw [List.length_append]; omega), Option.bind_some, w_next j (by omega), List.append_assoc, step]
      simp only [List.append_assoc]
    | false =>
      obtain ⟨_, h4, h5⟩ := h3 rfl
      have w4 : wd 4 = 4 := by decide
      rw [if_neg (by decide)] at step ⊢
      rw [if_neg (by decide), u64_id _ (by omega) (by omega), Int_f k (by omega) _ 4 _ (by rw [List.length_append]; omega), w4, Option.bind_some, w_next j (by omega), List.append_assoc, step]
      simp only [List.append_assoc]
theorem appB_f (lf : Bool) (l : List S41) (h : RB l) (k : Nat) (hk : 1200 ≤ k) : node_Append.f k lf l = some (if okU lf l = true then (nodeOct lf l, true) else ([], false)) := by
  have hl := h.1
  unfold node_Append.f
  rw [OkB_f lf l h k (by omega), Option.bind_some]
  by_cases hb : okU lf l = true
  · have hg := okU_rows hb
    have hn := okU_len hb
    obtain ⟨k, rfl⟩ : ∃ j, k = j + 1 := ⟨k - 1, by omega⟩
    rw [if_pos hb, if_pos hb]
    have w1 : wd 1 = 1 := by decide
    have w2 : wd 2 = 2 := by decide
    have fin : ∀ v : Int, node_Append.j0 (k + 1) v lf l = some (be 1 v ++ (be 2 (l.length : Int) ++ rowsOct lf l), true) := by
      intro v
      rw [node_Append.j0, Int_f k (by omega) [] 1 v (by simp), w1, Option.bind_some, List.nil_append, u64_id _ (by omega) (by omega), Int_f k (by omega) _ 2 _ (by rw [be_len]; omega), w2, Option.bind_some]
      have step := appB_l0 lf l h hg l.length 0 k (be 1 v ++ be 2 (l.length : Int)) (by omega) (by omega) (by omega) (by rw [List.length_append, be_len, be_len, List.drop_zero]; omega)
      rw [List.drop_zero, List.append_assoc] at step
      exact step
    unfold nodeOct
    cases lf with
    | true => rw [if_pos rfl, if_pos rfl]; exact fin 1
    | false => rw [if_neg (by decide), if_neg (by decide)]; exact fin 2
  · rw [if_neg hb, if_neg hb]
end Go.Proofs.Ytfhaffpegncdiaa.Pure
/-
The self-test of the statements of layer 10 answers true, with 30 rounds or more.
-/
namespace Go.Proofs.Ytfhaffpegncdiaa.Pure
open Go.RowKit Go.Proofs.Ytfhaffpegncdiaa.PN Go.Proofs.YtfhaffpegncdiaaW.PrintWords Go.Proofs.YtfhaffpegncdiaaW.PrintLast Go.Proofs.YtfhaffpegncdiaaW.PrintMore
set_option linter.unusedVariables false
set_option linter.unusedSimpArgs false
theorem awake10_ok (k : Nat) (hk : 30 ≤ k) : waybilllaw10_awake.f k = some true :=
  at_rounds (g := fun k => waybilllaw10_awake.f k) (fun k => waybilllaw10_awake.mono k) hk (by decide +kernel)
end Go.Proofs.Ytfhaffpegncdiaa.Pure
