/-
Rows that rise; what node.Find comes to on them.
-/
import Derived.Test.YtfhaffpegncdiaaNNodeKeys
import Derived.Test.YtfhaffpegncdiaaPNx10
namespace Go.Proofs.Ytfhaffpegncdiaa.Pure
open Go.RowKit Go.Proofs.Ytfhaffpegncdiaa.PN Go.Proofs.YtfhaffpegncdiaaW.PrintWords Go.Proofs.YtfhaffpegncdiaaW.PrintLast Go.Proofs.YtfhaffpegncdiaaW.PrintMore
set_option linter.unusedVariables false
set_option linter.unusedSimpArgs false
def ky (l : List S41) (i : Nat) : List UInt8 := (rd_T41 l (i : Int)).f0.toList
def Asc (l : List S41) : Prop := ∀ i j : Nat, i < j → j < l.length → Op.bytesLess (ky l i) (ky l j) = true
theorem rd_left (l : List S41) (x : S41) (i : Nat) (h : i < l.length) : rd_T41 (l ++ [x]) (i : Int) = rd_T41 l (i : Int) := by
  unfold rd_T41
  rw [Int.toNat_natCast, List.getD_eq_getElem?_getD, List.getD_eq_getElem?_getD, List.getElem?_append_left h]
theorem rd_last (l : List S41) (x : S41) : rd_T41 (l ++ [x]) (l.length : Int) = x := by
  unfold rd_T41
  rw [Int.toNat_natCast, List.getD_eq_getElem?_getD, List.getElem?_append_right (Nat.le_refl _)]
  simp
theorem asc_add {l : List S41} {x : S41} (h : Asc l) (hx : 0 < l.length → Op.bytesLess (ky l (l.length - 1)) x.f0.toList = true) : Asc (l ++ [x]) := by
  intro i j hij hj
  rw [List.length_append, List.length_singleton] at hj
  have hi : i < l.length := by omega
  by_cases hjl : j < l.length
  · unfold ky
    rw [rd_left l x i hi, rd_left l x j hjl]
    exact h i j hij hjl
  · have hj2 : j = l.length := by omega
    subst hj2
    have hlast := hx (by omega)
    have e1 : ky (l ++ [x]) i = ky l i := by unfold ky; rw [rd_left l x i hi]
    have e2 : ky (l ++ [x]) l.length = x.f0.toList := by unfold ky; rw [rd_last]
    rw [e1, e2]
    by_cases h2 : i = l.length - 1
    · rw [h2]; exact hlast
    · exact less_trans _ _ _ (h i (l.length - 1) (by omega) (by omega)) hlast
/-- The place p of s in l: what stands ahead of it is below s, what stands from it on is not. -/
structure At (l : List S41) (s : List UInt8) (p : Nat) : Prop where
  le : p ≤ l.length
  lo : ∀ q, q < p → Op.bytesLess (ky l q) s = true
  hi : ∀ q, p ≤ q → q < l.length → Op.bytesLess (ky l q) s = false
theorem find_l0 (l : List S41) (hl : l.length ≤ 1000) (ha : Asc l) (key : ByteArray) : ∀ (d i j k : Nat), j - i ≤ d → i ≤ j → j ≤ l.length → (∀ q, q < i → Op.bytesLess (ky l q) key.toList = true) → (∀ q, j ≤ q → q < l.length → Op.bytesLess (ky l q) key.toList = false) → d < k →
    ∃ p : Nat, node_Find.l0 k l key (i : Int) (j : Int) = some (p : Int) ∧ At l key.toList p := by
  intro d
  induction d with
  | zero =>
    intro i j k hd hij hj hlo hhi hk
    obtain ⟨k, rfl⟩ : ∃ k', k = k' + 1 := ⟨k - 1, by omega⟩
    have e : i = j := by omega
    subst e
    refine ⟨i, ?_, ⟨hj, hlo, hhi⟩⟩
    rw [node_Find.l0, if_neg (by omega)]
  | succ d ih =>
    intro i j k hd hij hj hlo hhi hk
    obtain ⟨k, rfl⟩ : ∃ k', k = k' + 1 := ⟨k - 1, by omega⟩
    by_cases hlt : i < j
    · have hm : ((i : Int) + (j : Int)) / 2 = (((i + j) / 2 : Nat) : Int) := by omega
      have hm2 : (((i + j) / 2 : Nat) : Int) + 1 = (((i + j) / 2 + 1 : Nat) : Int) := by omega
      have m1 : i ≤ (i + j) / 2 := by omega
      have m2 : (i + j) / 2 < j := by omega
      rw [node_Find.l0, if_pos (by omega), if_pos (by omega), if_pos (by omega), if_pos (by omega), hm]
      generalize (i + j) / 2 = m at *
      have hc : Lib.compareBytes (rd_T41 l (m : Int)).f0.data.toList key.data.toList < 0 ↔ Op.bytesLess (ky l m) key.toList = true := by
        rw [less_cmp]; unfold ky; rw [ByteArray.toList_eq, ByteArray.toList_eq]
      by_cases hb : Op.bytesLess (ky l m) key.toList = true
      · rw [if_pos (hc.2 hb), hm2]
        refine ih (m + 1) j k (by omega) (by omega) hj (fun q hq => ?_) hhi (by omega)
        by_cases hqm : q = m
        · rw [hqm]; exact hb
        · exact less_trans _ _ _ (ha q m (by omega) (by omega)) hb
      · rw [if_neg (fun h => hb (hc.1 h))]
        refine ih i m k (by omega) (by omega) (by omega) hlo (fun q hq hql => ?_) (by omega)
        by_cases hqm : q = m
        · rw [hqm]; exact Bool.eq_false_iff.2 hb
        · rw [Bool.eq_false_iff]
          intro hh
          exact hb (less_trans _ _ _ (ha m q (by omega) hql) hh)
    · have e : i = j := by omega
      subst e
      refine ⟨i, ?_, ⟨hj, hlo, hhi⟩⟩
      rw [node_Find.l0, if_neg (by omega)]
def isAt (l : List S41) (s : List UInt8) (p : Nat) : Bool := decide (p < l.length ∧ ky l p = s)
theorem find_f (k : Nat) (lf : Bool) (l : List S41) (hl : l.length ≤ 1000) (ha : Asc l) (key : ByteArray) (hk : l.length < k) :
    ∃ p : Nat, At l key.toList p ∧ node_Find.f k lf l key = some (if lf = true ∨ isAt l key.toList p = true then ((p : Int), isAt l key.toList p) else (mx ((p : Int) - 1) 0, false)) := by
  obtain ⟨p, hp, hat⟩ := find_l0 l hl ha key l.length 0 l.length k (by omega) (by omega) (Nat.le_refl _) (fun q hq => by omega) (fun q h1 h2 => by omega) hk
  refine ⟨p, hat, ?_⟩
  have hle := hat.le
  have hat2 : node_Find.at l key (p : Int) = some (isAt l key.toList p) := by
    unfold node_Find.at isAt
    by_cases h : p < l.length
    · rw [if_pos (by omega), if_pos (by omega)]
      congr 1
      rw [Bool.eq_iff_iff, decide_eq_true_eq, decide_eq_true_eq, cmp_zero]
      unfold ky
      rw [ByteArray.toList_eq, ByteArray.toList_eq]
      exact ⟨fun e => ⟨h, e⟩, fun e => e.2⟩
    · rw [if_neg (by omega), decide_eq_false (fun e => h e.1)]
  unfold node_Find.f
  rw [show (0 : Int) = ((0 : Nat) : Int) from rfl, hp, Option.bind_some, if_pos (by omega), if_pos (by omega), hat2, Option.bind_some]
  cases lf with
  | true => rw [if_pos rfl, if_pos (Or.inl rfl)]
  | false =>
    rw [if_neg (by decide)]
    cases h : isAt l key.toList p with
    | true => rw [if_pos rfl, if_pos (Or.inr rfl)]
    | false => rw [if_neg (by decide), if_neg (by simp)]
end Go.Proofs.Ytfhaffpegncdiaa.Pure
