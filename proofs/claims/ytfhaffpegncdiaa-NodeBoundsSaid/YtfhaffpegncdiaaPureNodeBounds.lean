/-
Keys, values and pages go up to their bounds, rows rise, and one more of anything is no node: for any lengths around the bounds, any page, leaf or not.
Conditions: none but those of the statement.
-/
import Derived.Test.YtfhaffpegncdiaaBaseNodeBounds
import Derived.Test.YtfhaffpegncdiaaPNx21
namespace Go.Proofs.Ytfhaffpegncdiaa.Pure
open Go.RowKit Go.Proofs.Ytfhaffpegncdiaa.PN Go.Proofs.YtfhaffpegncdiaaW.PrintWords Go.Proofs.YtfhaffpegncdiaaW.PrintLast Go.Proofs.YtfhaffpegncdiaaW.PrintMore
set_option linter.unusedVariables false
set_option linter.unusedSimpArgs false
theorem okU_one (lf : Bool) (x : S41) (h : x.f0.size ≤ 150 ∧ x.f1.size ≤ 150) : okU lf [x] = decide (rowP lf x) := by
  have hl : rowLen lf x ≤ 302 := by unfold rowLen; split <;> omega
  have e : okU lf [x] = ((decide (rowP lf x) && (true && true)) && ((lf || true) && decide (3 + (rowLen lf x + 0) ≤ 512))) := rfl
  rw [e, decide_eq_true (show 3 + (rowLen lf x + 0) ≤ 512 by omega), Bool.or_true, Bool.and_true, Bool.and_true, Bool.and_true]
theorem okU_two (lf : Bool) (x : S41) : okU lf [x, x] = false := by
  have e : okU lf [x, x] = ((decide (rowP lf x) && (true && (decide (rowP lf x) && ((false || Op.bytesLess x.f0.toList x.f0.toList) && true)))) && okEnd lf [x, x]) := rfl
  rw [e, less_irrefl, Bool.false_or, Bool.false_and, Bool.and_false, Bool.and_false, Bool.and_false, Bool.false_and]
theorem rb_one (x : S41) (h : x.f0.size ≤ 150 ∧ x.f1.size ≤ 150) : RB [x] := ⟨by show 1 ≤ 400; omega, fun y hy => by rw [List.mem_singleton] at hy; rw [hy]; omega⟩
theorem rb_two (x : S41) (h : x.f0.size ≤ 150 ∧ x.f1.size ≤ 150) : RB [x, x] := by
  refine ⟨by show 2 ≤ 400; omega, fun y hy => ?_⟩
  have : y = x := by simpa using hy
  rw [this]; omega
theorem rb_nil : RB [] := ⟨by show 0 ≤ 400; omega, fun y hy => by simp at hy⟩
theorem B_j3 (lf : Bool) (x : S41) (h : x.f0.size ≤ 150 ∧ x.f1.size ≤ 150) (g : Bool) (hg : g = decide (rowP lf x)) (k : Nat) (hk : 1300 ≤ k) : waybilllaw10_NodeBounds.j3 (k + 1) lf g lf [x] = some true := by
  have e0 : okU true [] = true := rfl
  have e1 : okU false [] = false := rfl
  have ea : (if okU lf [x] = true then (nodeOct lf [x], true) else (([] : List Int), false)).2 = okU lf [x] := by
    by_cases q : okU lf [x] = true
    · rw [if_pos q, q]
    · rw [if_neg q, Bool.eq_false_iff.2 q]
  rw [waybilllaw10_NodeBounds.j3, Option.bind_some, if_pos (by simp), Option.bind_some, if_pos (by simp), appB_f lf [x] (rb_one x h) k (by omega), Option.bind_some, OkB_f lf [x] (rb_one x h) k (by omega), Option.bind_some, ea, okU_one lf x h, hg, if_pos (by simp), if_pos (by simp)]
  show ((node_Ok.f k lf [x, x]).bind fun t275 => (if t275 = true then (none) else ((node_Ok.f k true ([] : List (S41))).bind fun t276 => (if t276 = true then ((node_Ok.f k false ([] : List (S41))).bind fun t277 => (if t277 = true then (none) else ((waybilllaw10_awake.f k).bind fun t278 => (some t278)))) else (none))))) = some true
  rw [OkB_f lf [x, x] (rb_two x h) k (by omega), Option.bind_some, okU_two, if_neg (by decide), OkB_f true [] rb_nil k (by omega), Option.bind_some, e0, if_pos rfl, OkB_f false [] rb_nil k (by omega), Option.bind_some, e1, if_neg (by decide), awake10_ok k (by omega), Option.bind_some]
theorem B_j2 (n m : Nat) (page : Int) (lf : Bool) (K V : ByteArray) (hK : K.size = n) (hV : V.size = m) (hn0 : 1 ≤ n) (hn : n ≤ 150) (hm : m ≤ 150) (g : Bool) (hg : lf = false → g = decide (rowP false (⟨K, ⟨#[]⟩, page⟩ : S41))) (k : Nat) (hk : 1400 ≤ k) :
    waybilllaw10_NodeBounds.j2 k (n : Int) (m : Int) lf V g lf [(⟨K, (⟨#[]⟩ : ByteArray), page⟩ : S41)] = some true := by
  obtain ⟨k, rfl⟩ : ∃ k', k = k' + 1 + 1 := ⟨k - 2, by omega⟩
  rw [waybilllaw10_NodeBounds.j2]
  cases lf with
  | false =>
    rw [if_neg (by decide)]
    exact B_j3 false _ ⟨by show K.size ≤ 150; omega, by show 0 ≤ 150; omega⟩ g (hg rfl) k (by omega)
  | true =>
    rw [if_pos rfl, if_pos (by simp)]
    show (if (n : Int) ≤ 130 then waybilllaw10_NodeBounds.j3 (k + 1) true (decide ((m : Int) ≤ 20)) true [(⟨K, V, 0⟩ : S41)] else waybilllaw10_NodeBounds.j3 (k + 1) true false true [(⟨K, V, 0⟩ : S41)]) = some true
    have hs : (⟨K, V, 0⟩ : S41).f0.size ≤ 150 ∧ (⟨K, V, 0⟩ : S41).f1.size ≤ 150 := ⟨by show K.size ≤ 150; omega, by show V.size ≤ 150; omega⟩
    by_cases h1 : n ≤ 130
    · rw [if_pos (by omega)]
      refine B_j3 true _ hs _ ?_ k (by omega)
      by_cases h2 : m ≤ 20
      · rw [decide_eq_true (by omega), decide_eq_true (show rowP true ⟨K, V, 0⟩ from ⟨by show 1 ≤ K.size; omega, by show K.size ≤ 130; omega, fun _ => ⟨by show V.size ≤ 20; omega, rfl⟩, fun h => Bool.noConfusion h⟩)]
      · rw [decide_eq_false (by omega), decide_eq_false (fun h : rowP true ⟨K, V, 0⟩ => h2 (by have := (h.2.2.1 rfl).1; exact hV ▸ this))]
    · rw [if_neg (by omega)]
      refine B_j3 true _ hs _ ?_ k (by omega)
      rw [decide_eq_false (fun h : rowP true ⟨K, V, 0⟩ => h1 (by have := h.2.1; exact hK ▸ this))]
theorem B_l1 (n m : Nat) (page : Int) (lf : Bool) (K : ByteArray) (hK : K.size = n) (hn0 : 1 ≤ n) (hn : n ≤ 150) (hm : m ≤ 150) : ∀ (d j k : Nat) (V : ByteArray), m - j = d → j ≤ m → V.size = j → d + 1500 < k →
    waybilllaw10_NodeBounds.l1 k (n : Int) (m : Int) page lf K V (j : Int) = some true := by
  intro d
  induction d with
  | zero =>
    intro j k V hd hj hV hk
    obtain ⟨k, rfl⟩ : ∃ k', k = k' + 1 := ⟨k - 1, by omega⟩
    have hjm : V.size = m := by omega
    rw [waybilllaw10_NodeBounds.l1, if_neg (by omega), Option.bind_some]
    have no : ∀ g : Bool, (¬ rowP false (⟨K, ⟨#[]⟩, page⟩ : S41)) → g = false → waybilllaw10_NodeBounds.j2 k (n : Int) (m : Int) lf V g lf [(⟨K, (⟨#[]⟩ : ByteArray), page⟩ : S41)] = some true := by
      intro g h1 h2
      exact B_j2 n m page lf K V hK hjm hn0 hn hm g (fun _ => by rw [h2, decide_eq_false h1]) k (by omega)
    by_cases h1 : n ≤ 130
    · rw [if_pos (by omega)]
      by_cases h2 : 2 ≤ page
      · rw [if_pos h2]
        refine B_j2 n m page lf K V hK hjm hn0 hn hm _ (fun _ => ?_) k (by omega)
        by_cases h3 : page ≤ 4294967295
        · rw [decide_eq_true h3, decide_eq_true (show rowP false ⟨K, ⟨#[]⟩, page⟩ from ⟨by show 1 ≤ K.size; omega, by show K.size ≤ 130; omega, fun h => Bool.noConfusion h, fun _ => ⟨rfl, h2, h3⟩⟩)]
        · rw [decide_eq_false h3, decide_eq_false (fun h : rowP false ⟨K, ⟨#[]⟩, page⟩ => h3 (h.2.2.2 rfl).2.2)]
      · rw [if_neg h2]
        exact no false (fun h => h2 (h.2.2.2 rfl).2.1) rfl
    · rw [if_neg (by omega)]
      exact no false (fun h => h1 (by have := h.2.1; exact hK ▸ this)) rfl
  | succ d ih =>
    intro j k V hd hj hV hk
    obtain ⟨k, rfl⟩ : ∃ k', k = k' + 1 := ⟨k - 1, by omega⟩
    rw [waybilllaw10_NodeBounds.l1, if_pos (by omega), if_pos (by omega), w_next j (by omega)]
    exact ih (j + 1) k _ (by omega) (by omega) (by rw [ByteArray.size_append, hV]; rfl) (by omega)
theorem B_l0 (n m : Nat) (page : Int) (lf : Bool) (hn0 : 1 ≤ n) (hn : n ≤ 150) (hm : m ≤ 150) : ∀ (d j k : Nat) (K : ByteArray), n - j = d → j ≤ n → K.size = j → d + 2000 < k →
    waybilllaw10_NodeBounds.l0 k (n : Int) (m : Int) page lf K (⟨#[]⟩ : ByteArray) (j : Int) = some true := by
  intro d
  induction d with
  | zero =>
    intro j k K hd hj hK hk
    obtain ⟨k, rfl⟩ : ∃ k', k = k' + 1 := ⟨k - 1, by omega⟩
    rw [waybilllaw10_NodeBounds.l0, if_neg (by omega)]
    exact B_l1 n m page lf K (by omega) hn0 hn hm m 0 k _ (by omega) (by omega) rfl (by omega)
  | succ d ih =>
    intro j k K hd hj hK hk
    obtain ⟨k, rfl⟩ : ∃ k', k = k' + 1 := ⟨k - 1, by omega⟩
    rw [waybilllaw10_NodeBounds.l0, if_pos (by omega), if_pos (by omega), w_next j (by omega)]
    exact ih (j + 1) k _ (by omega) (by omega) (by rw [ByteArray.size_append, hK]; rfl) (by omega)
theorem and7 (x : Int) : 0 ≤ Go.bits .and .i64 x 7 ∧ Go.bits .and .i64 x 7 < 8 := by
  unfold Go.bits
  have h1 : (BitVec.ofInt (IntKind.i64.bits) x &&& BitVec.ofInt (IntKind.i64.bits) 7).toNat ≤ 7 := by
    rw [BitVec.toNat_and]
    have : (BitVec.ofInt (IntKind.i64.bits) 7).toNat = 7 := by decide
    rw [this]
    exact Nat.and_le_right
  simp only []
  rw [IntKind.wrap_i64]
  omega
theorem NodeBounds : waybilllaw10_NodeBounds.Pure := by
  intro a0 a1 a2 a3 _ _ _
  refine ⟨3000, ?_⟩
  unfold waybilllaw10_NodeBounds.f
  have h0 := and7 a0
  have h1 := and7 a1
  generalize Go.bits .and .i64 a0 7 = x at *
  generalize Go.bits .and .i64 a1 7 = y at *
  have e0 : wrap64 (125 + x) = (((125 + x).toNat : Nat) : Int) := by rw [w64_id _ (by omega) (by omega)]; omega
  have e1 : wrap64 (16 + y) = (((16 + y).toNat : Nat) : Int) := by rw [w64_id _ (by omega) (by omega)]; omega
  rw [e0, e1]
  exact B_l0 _ _ a2 a3 (by omega) (by omega) (by omega) _ 0 3000 _ rfl (by omega) rfl (by omega)
end Go.Proofs.Ytfhaffpegncdiaa.Pure
