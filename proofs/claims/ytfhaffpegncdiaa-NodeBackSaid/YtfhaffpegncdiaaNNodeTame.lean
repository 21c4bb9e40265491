/-
Small and Tame: Tame's rows rise.
-/
import Derived.Test.YtfhaffpegncdiaaNNodeAsc
import Derived.Test.YtfhaffpegncdiaaPNx17
import Derived.Test.YtfhaffpegncdiaaPNx11
namespace Go.Proofs.Ytfhaffpegncdiaa.Pure
open Go.RowKit Go.Proofs.Ytfhaffpegncdiaa.PN Go.Proofs.YtfhaffpegncdiaaW.PrintWords Go.Proofs.YtfhaffpegncdiaaW.PrintLast Go.Proofs.YtfhaffpegncdiaaW.PrintMore
set_option linter.unusedVariables false
set_option linter.unusedSimpArgs false
theorem wn (n : Nat) (h : n < 100000) : wrap64 (n : Int) = (n : Int) := by unfold wrap64; omega
theorem w_next (n : Nat) (h : n < 100000) : wrap64 ((n : Int) + 1) = ((n + 1 : Nat) : Int) := by unfold wrap64; omega
theorem w_prev (n : Nat) (h : 0 < n) (h2 : n < 100000) : wrap64 ((n : Int) - 1) = ((n - 1 : Nat) : Int) := by unfold wrap64; omega
theorem size_ok (lf : Bool) (l : List S41) (hl : l.length ≤ 1000) : ∀ (d j k : Nat) (v : Int), l.length - j = d → j ≤ l.length → d < k → ∃ t, waybillref7_NodeSize.l0 k v (j : Int) lf l = some t := by
  intro d
  induction d with
  | zero =>
    intro j k v hd hj hk
    obtain ⟨k, rfl⟩ : ∃ k', k = k' + 1 := ⟨k - 1, by omega⟩
    exact ⟨v, by rw [waybillref7_NodeSize.l0, if_neg (by omega)]⟩
  | succ d ih =>
    intro j k v hd hj hk
    obtain ⟨k, rfl⟩ : ∃ k', k = k' + 1 := ⟨k - 1, by omega⟩
    rw [waybillref7_NodeSize.l0, if_pos (by omega), if_pos (by omega), w_next j (by omega)]
    split
    · exact ih (j + 1) k _ (by omega) (by omega) (by omega)
    · exact ih (j + 1) k _ (by omega) (by omega) (by omega)
theorem cut_ok (s : ByteArray) (n : Int) (hn : 0 ≤ n) : 0 ≤ mn (s.size : Int) n ∧ mn (s.size : Int) n ≤ (s.size : Int) ∧ ((s.extract 0 (mn (s.size : Int) n).toNat).size : Int) ≤ n := by
  have h : (s.extract 0 (mn (s.size : Int) n).toNat).size = min (mn (s.size : Int) n).toNat s.size := by rw [ByteArray.size_extract]; omega
  rw [h]
  unfold mn
  split <;> omega
def Short (l : List S41) : Prop := ∀ i : Nat, i < l.length → (rd_T41 l (i : Int)).f0.size ≤ 130
theorem short_add {l : List S41} {x : S41} (h : Short l) (hx : x.f0.size ≤ 130) : Short (l ++ [x]) := by
  intro i hi
  rw [List.length_append, List.length_singleton] at hi
  by_cases hil : i < l.length
  · rw [rd_left l x i hil]; exact h i hil
  · have : i = l.length := by omega
    subst this
    rw [rd_last]; exact hx
def Tamed (r : List S41) : Prop := Asc r ∧ r.length ≤ 40
theorem plus_list (s : ByteArray) : (s ++ (⟨#[43]⟩ : ByteArray)).toList = s.toList ++ [43] := by
  rw [ByteArray.toList_eq, ByteArray.toList_eq, ByteArray.data_append, Array.toList_append]
theorem tame_j4 (l : List S41) (lf : Bool) (i k : Nat) (acc : List S41) (K V : ByteArray) (P : Int) (hi : i < 40) (ha : Asc acc) (hs : Short acc) (hc : acc.length ≤ i) (hK : 0 < acc.length → Op.bytesLess (ky acc (acc.length - 1)) K.toList = true) (hk : 100 ≤ k)
    (ih : ∀ y : List S41, Asc y → Short y → y.length ≤ i + 1 → ∃ r, waybilllaw10_Tame.l0 k ((i + 1 : Nat) : Int) lf l lf y = some (lf, r) ∧ Tamed r) :
    ∃ r, waybilllaw10_Tame.j4 (k + 1) (i : Int) lf l lf acc K V P = some (lf, r) ∧ Tamed r := by
  rw [waybilllaw10_Tame.j4]
  by_cases h1 : (K.size : Int) > 130
  · rw [if_pos h1]; exact ⟨acc, rfl, ha, by omega⟩
  · have hlen : (acc ++ [(⟨K, V, P⟩ : S41)]).length = acc.length + 1 := by rw [List.length_append, List.length_singleton]
    have ha2 : Asc (acc ++ [(⟨K, V, P⟩ : S41)]) := asc_add ha hK
    have hs2 : Short (acc ++ [(⟨K, V, P⟩ : S41)]) := short_add hs (show K.size ≤ 130 by omega)
    have htake : (acc ++ [(⟨K, V, P⟩ : S41)]).take acc.length = acc := List.take_left' rfl
    rw [if_neg h1, if_pos (by omega), Option.bind_some]
    generalize acc ++ [(⟨K, V, P⟩ : S41)] = y at *
    obtain ⟨t, ht⟩ := size_ok lf y (by omega) y.length 0 k 3 (by omega) (by omega) (by omega)
    have ht' : waybillref7_NodeSize.f k lf y = some t := ht
    rw [ht', Option.bind_some]
    by_cases h2 : t > 512
    · rw [if_pos h2, w_prev y.length (by omega) (by omega), if_pos (by omega), if_pos (by omega), Int.toNat_natCast, show y.length - 1 = acc.length by omega, htake]
      exact ⟨acc, rfl, ha, by omega⟩
    · rw [if_neg h2, w_next i (by omega)]
      exact ih y ha2 hs2 (by omega)
theorem tame_j2 (l : List S41) (lf : Bool) (i k : Nat) (acc : List S41) (K V : ByteArray) (P : Int) (hi : i < 40) (ha : Asc acc) (hs : Short acc) (hc : acc.length ≤ i) (hk : 100 ≤ k)
    (ih : ∀ y : List S41, Asc y → Short y → y.length ≤ i + 1 → ∃ r, waybilllaw10_Tame.l0 k ((i + 1 : Nat) : Int) lf l lf y = some (lf, r) ∧ Tamed r) :
    ∃ r, waybilllaw10_Tame.j2 (k + 1 + 1 + 1) (i : Int) lf l lf acc K V P = some (lf, r) ∧ Tamed r := by
  rw [waybilllaw10_Tame.j2]
  by_cases h0 : acc.length = 0
  · rw [if_neg (by omega), waybilllaw10_Tame.j3, if_neg (by decide)]
    exact tame_j4 l lf i k acc K V P hi ha hs hc (fun h => by omega) hk ih
  · rw [if_pos (by omega), w_prev acc.length (by omega) (by omega), if_pos (by omega), if_pos (by omega), waybilllaw10_Tame.j3]
    have hky : (rd_T41 acc ((acc.length - 1 : Nat) : Int)).f0.toList = ky acc (acc.length - 1) := rfl
    rw [hky]
    cases hb : Op.bytesLess (ky acc (acc.length - 1)) K.toList with
    | true =>
      rw [if_neg (by decide)]
      exact tame_j4 l lf i k acc K V P hi ha hs hc (fun _ => hb) hk ih
    | false =>
      have hz := hs (acc.length - 1) (by omega)
      rw [if_pos (by decide), w_prev acc.length (by omega) (by omega), if_pos (by omega), if_pos (by omega), if_pos (by omega)]
      refine tame_j4 l lf i k acc _ V P hi ha hs hc (fun _ => ?_) hk ih
      rw [plus_list]
      exact less_plus _
theorem tame_l0 (l : List S41) (lf : Bool) (hl : l.length ≤ 200) : ∀ (d i k : Nat) (acc : List S41), 40 - i ≤ d → i ≤ 40 → Asc acc → Short acc → acc.length ≤ i → 5 * d + 200 ≤ k → ∃ r, waybilllaw10_Tame.l0 k (i : Int) lf l lf acc = some (lf, r) ∧ Tamed r := by
  intro d
  induction d with
  | zero =>
    intro i k acc hd hi ha hs hc hk
    obtain ⟨k, rfl⟩ : ∃ k', k = k' + 1 + 1 := ⟨k - 2, by omega⟩
    rw [waybilllaw10_Tame.l0]
    have e : decide ((i : Int) < 40) = false := decide_eq_false (by omega)
    refine ⟨acc, ?_, ha, by omega⟩
    split
    · rw [e, waybilllaw10_Tame.j1, if_neg (by decide)]
    · rw [waybilllaw10_Tame.j1, if_neg (by decide)]
  | succ d ih =>
    intro i k acc hd hi ha hs hc hk
    obtain ⟨k, rfl⟩ : ∃ k', k = k' + 1 + 1 + 1 + 1 + 1 := ⟨k - 5, by omega⟩
    rw [waybilllaw10_Tame.l0]
    by_cases h1 : (i : Int) < (l.length : Int)
    · rw [if_pos h1]
      by_cases h2 : i < 40
      · have ca := cut_ok (rd_T41 l (i : Int)).f0 100 (by omega)
        have cb := cut_ok (rd_T41 l (i : Int)).f1 20 (by omega)
        rw [decide_eq_true (by omega), waybilllaw10_Tame.j1, if_pos rfl, if_pos (by omega), if_pos h1, if_pos ca.1, if_pos ca.2.1, if_pos (by omega), if_pos cb.1, if_pos cb.2.1]
        have step := fun y (hy : Asc y) (hy2 : Short y) (hy3 : y.length ≤ i + 1) => ih (i + 1) k y (by omega) (by omega) hy hy2 hy3 (by omega)
        cases lf with
        | true => rw [if_pos rfl]; exact tame_j2 l true i k acc _ _ _ h2 ha hs hc (by omega) step
        | false => rw [if_neg (by decide)]; exact tame_j2 l false i k acc _ _ _ h2 ha hs hc (by omega) step
      · refine ⟨acc, ?_, ha, by omega⟩
        rw [decide_eq_false (by omega), waybilllaw10_Tame.j1, if_neg (by decide)]
    · refine ⟨acc, ?_, ha, by omega⟩
      rw [if_neg h1, waybilllaw10_Tame.j1, if_neg (by decide)]
theorem tame_f (l : List S41) (lf : Bool) (hl : l.length ≤ 200) (k : Nat) (hk : 400 ≤ k) : ∃ r, waybilllaw10_Tame.f k lf l = some (lf, r) ∧ Tamed r := by
  unfold waybilllaw10_Tame.f
  exact tame_l0 l lf hl 40 0 k [] (by omega) (by omega) (fun i j _ h => by simp at h) (fun i h => by simp at h) (by simp) (by omega)
theorem small_l0 (l : List S41) (lf : Bool) (hl : l.length ≤ 200) : ∀ (d j k : Nat), l.length - j = d → j ≤ l.length → d < k → ∃ t, waybilllaw10_Small.l0 k (j : Int) lf l = some t := by
  intro d
  induction d with
  | zero =>
    intro j k hd hj hk
    obtain ⟨k, rfl⟩ : ∃ k', k = k' + 1 := ⟨k - 1, by omega⟩
    exact ⟨true, by rw [waybilllaw10_Small.l0, if_neg (by omega)]⟩
  | succ d ih =>
    intro j k hd hj hk
    obtain ⟨k, rfl⟩ : ∃ k', k = k' + 1 := ⟨k - 1, by omega⟩
    rw [waybilllaw10_Small.l0, if_pos (by omega), if_pos (by omega), w_next j (by omega)]
    split
    · exact ⟨_, rfl⟩
    · split
      · exact ⟨_, rfl⟩
      · exact ih (j + 1) k (by omega) (by omega) (by omega)
theorem small_f (l : List S41) (lf : Bool) (k : Nat) (hk : 400 ≤ k) : ∃ t, waybilllaw10_Small.f k lf l = some t ∧ (t = true → l.length ≤ 200) := by
  unfold waybilllaw10_Small.f
  by_cases h : (l.length : Int) > 200
  · rw [if_pos h]; exact ⟨false, rfl, fun e => by cases e⟩
  · obtain ⟨t, ht⟩ := small_l0 l lf (by omega) l.length 0 k (by omega) (by omega) (by omega)
    rw [if_neg h]
    exact ⟨t, ht, fun _ => by omega⟩
end Go.Proofs.Ytfhaffpegncdiaa.Pure
