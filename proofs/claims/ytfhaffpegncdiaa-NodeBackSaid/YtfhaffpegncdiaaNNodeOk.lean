/-
What Tame makes may be, has the size that its rows have, and is itself.
-/
import Derived.Test.YtfhaffpegncdiaaNNodeGood
import Derived.Test.YtfhaffpegncdiaaPNx3
import Derived.Test.YtfhaffpegncdiaaPNx2
import Derived.Test.YtfhaffpegncdiaaPNx9
namespace Go.Proofs.Ytfhaffpegncdiaa.Pure
open Go.RowKit Go.Proofs.Ytfhaffpegncdiaa.PN Go.Proofs.YtfhaffpegncdiaaW.PrintWords Go.Proofs.YtfhaffpegncdiaaW.PrintLast Go.Proofs.YtfhaffpegncdiaaW.PrintMore
set_option linter.unusedVariables false
set_option linter.unusedSimpArgs false
theorem size_zero (s : ByteArray) : s.toList = [] ↔ s.size = 0 := by
  rw [← List.length_eq_zero_iff, ByteArray.toList_eq, Array.length_toList]
  rfl
theorem good_f (k : Nat) (hk : 1 ≤ k) (lf : Bool) (l : List S41) (x : S41) (h : rowOk lf x) : node_good.f k lf l x.f0 x.f1 x.f2 = some true := by
  obtain ⟨k, rfl⟩ : ∃ j, k = j + 1 := ⟨k - 1, by omega⟩
  obtain ⟨h0, h1, h2, h3⟩ := h
  unfold node_good.f
  rw [if_neg (fun e => by have := (size_zero _).1 e; omega), decide_eq_false (by omega), node_good.j0, if_neg (by decide)]
  cases lf with
  | true =>
    obtain ⟨a, b⟩ := h2 rfl
    rw [if_pos rfl, if_pos (by omega), b]
    rfl
  | false =>
    obtain ⟨a, b, c⟩ := h3 rfl
    rw [if_neg (by decide), if_pos (by rw [a]; exact (size_zero ⟨#[]⟩).2 rfl), if_pos b, decide_eq_true (by omega)]
theorem w_rowT (a b : Nat) (h : a + b < 1000000) : wrap64 ((wrap64 (2 + (a : Int))) + (b : Int)) = ((2 + a + b : Nat) : Int) := by unfold wrap64; omega
theorem w_rowF (a : Nat) (h : a < 1000000) : wrap64 (5 + (a : Int)) = ((5 + a : Nat) : Int) := by unfold wrap64; omega
theorem w_add (a b : Nat) (h : a + b < 1000000) : wrap64 ((a : Int) + (b : Int)) = ((a + b : Nat) : Int) := by unfold wrap64; omega
theorem rowSize_f (lf : Bool) (l : List S41) (x : S41) (h : rowOk lf x) : node_rowSize.f lf l x.f0 x.f1 x.f2 = some ((rowLen lf x : Nat) : Int) := by
  obtain ⟨h0, h1, h2, h3⟩ := h
  unfold node_rowSize.f rowLen
  cases lf with
  | true => have := (h2 rfl).1; rw [if_pos rfl, if_pos rfl, w_rowT _ _ (by omega)]
  | false => rw [if_neg (by decide), if_neg (by decide), w_rowF _ (by omega)]
theorem rd_mem (l : List S41) (j : Nat) (h : j < l.length) : rd_T41 l (j : Int) ∈ l := by rw [rd_get l j h]; exact List.getElem_mem h
theorem Size_l0 (lf : Bool) (l : List S41) (hl : l.length ≤ 100) (hg : ∀ x ∈ l, rowOk lf x) : ∀ (d j k v : Nat), l.length - j = d → j ≤ l.length → d < k → v + rowsLen lf (l.drop j) ≤ 100000 →
    node_Size.l0 k (v : Int) l (l.length : Int) (j : Int) lf l = some ((v + rowsLen lf (l.drop j) : Nat) : Int) := by
  intro d
  induction d with
  | zero =>
    intro j k v hd hj hk hv
    obtain ⟨k, rfl⟩ : ∃ k', k = k' + 1 := ⟨k - 1, by omega⟩
    rw [node_Size.l0, if_neg (by omega), show l.drop j = [] from List.drop_eq_nil_of_le (by omega)]
    rfl
  | succ d ih =>
    intro j k v hd hj hk hv
    obtain ⟨k, rfl⟩ : ∃ k', k = k' + 1 := ⟨k - 1, by omega⟩
    have hjl : j < l.length := by omega
    rw [rowsLen_drop lf l j hjl] at hv ⊢
    rw [node_Size.l0, if_pos (by omega), if_pos (by omega), if_pos (by omega), rowSize_f lf l _ (hg _ (rd_mem l j hjl)), Option.bind_some, w_add _ _ (by omega), w_next j (by omega), ih (j + 1) k _ (by omega) (by omega) (by omega) (by omega), Nat.add_assoc]
theorem Size_f (lf : Bool) (l : List S41) (hl : l.length ≤ 100) (hg : ∀ x ∈ l, rowOk lf x) (k : Nat) (hk : 200 ≤ k) : node_Size.f k lf l = some ((3 + rowsLen lf l : Nat) : Int) := by
  have hb := rowsLen_le hg
  have h := Size_l0 lf l hl hg l.length 0 k 3 (by omega) (by omega) (by omega) (by rw [List.drop_zero]; omega)
  rw [List.drop_zero] at h
  exact h
theorem Ok_l0 (lf : Bool) (l : List S41) (hl : l.length ≤ 100) (ha : Asc l) (hg : ∀ x ∈ l, rowOk lf x) (hn : 3 + rowsLen lf l ≤ 512) : ∀ (d j k : Nat), l.length - j = d → j ≤ l.length → d + 300 < k →
    node_Ok.l0 k l (l.length : Int) (j : Int) lf l = some (lf || decide (0 < l.length)) := by
  intro d
  induction d with
  | zero =>
    intro j k hd hj hk
    obtain ⟨k, rfl⟩ : ∃ k', k = k' + 1 := ⟨k - 1, by omega⟩
    rw [node_Ok.l0, if_neg (by omega), Size_f lf l hl hg k (by omega), Option.bind_some, decide_eq_true (by omega)]
    cases lf with
    | true => rw [if_pos rfl]; rfl
    | false =>
      rw [if_neg (by decide)]
      by_cases h : 0 < l.length
      · rw [if_pos (by omega), decide_eq_true h]; rfl
      · rw [if_neg (by omega), decide_eq_false h]; rfl
  | succ d ih =>
    intro j k hd hj hk
    obtain ⟨k, rfl⟩ : ∃ k', k = k' + 1 := ⟨k - 1, by omega⟩
    have hjl : j < l.length := by omega
    have step := ih (j + 1) k (by omega) (by omega) (by omega)
    rw [node_Ok.l0, if_pos (by omega), if_pos (by omega), if_pos (by omega), good_f k (by omega) lf l _ (hg _ (rd_mem l j hjl)), Option.bind_some, if_pos rfl, w_next j (by omega)]
    by_cases h0 : j = 0
    · rw [if_neg (by omega)]; exact step
    · have hb : Op.bytesLess (rd_T41 l ((j - 1 : Nat) : Int)).f0.toList (rd_T41 l (j : Int)).f0.toList = true := ha (j - 1) j (by omega) hjl
      rw [if_pos (by omega), w_prev j (by omega) (by omega), if_pos (by omega), if_pos (by omega), if_pos hb]
      exact step
theorem Ok_f (lf : Bool) (r : List S41) (h : TamedG lf r) (k : Nat) (hk : 500 ≤ k) : node_Ok.f k lf r = some (lf || decide (0 < r.length)) := by
  obtain ⟨ha, hl, hg, hn⟩ := h
  exact Ok_l0 lf r (by omega) ha hg hn r.length 0 k (by omega) (by omega) (by omega)
theorem same_l0 (lf : Bool) (l : List S41) (hl : l.length ≤ 100) : ∀ (d j k : Nat), l.length - j = d → j ≤ l.length → d < k → waybilllaw10_Same.l0 k (j : Int) lf l lf l = some true := by
  intro d
  induction d with
  | zero =>
    intro j k hd hj hk
    obtain ⟨k, rfl⟩ : ∃ k', k = k' + 1 := ⟨k - 1, by omega⟩
    rw [waybilllaw10_Same.l0, if_neg (by omega)]
  | succ d ih =>
    intro j k hd hj hk
    obtain ⟨k, rfl⟩ : ∃ k', k = k' + 1 := ⟨k - 1, by omega⟩
    rw [waybilllaw10_Same.l0, if_pos (by omega), if_pos (by omega), if_pos (by omega), if_neg (by simp), w_next j (by omega)]
    exact ih (j + 1) k (by omega) (by omega) (by omega)
theorem same_f (lf : Bool) (l : List S41) (hl : l.length ≤ 100) (k : Nat) (hk : 200 ≤ k) : waybilllaw10_Same.f k lf l lf l = some true := by
  obtain ⟨k, rfl⟩ : ∃ j, k = j + 1 := ⟨k - 1, by omega⟩
  unfold waybilllaw10_Same.f
  rw [if_neg (by simp), show ((l.length : Int) != (l.length : Int)) = false by simp, waybilllaw10_Same.j0, if_neg (by decide)]
  exact same_l0 lf l hl l.length 0 k (by omega) (by omega) (by omega)
end Go.Proofs.Ytfhaffpegncdiaa.Pure
