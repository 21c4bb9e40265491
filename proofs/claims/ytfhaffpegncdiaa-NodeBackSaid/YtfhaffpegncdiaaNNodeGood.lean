/-
Tame's rows may all be, and go into a page; how many octets a node has.
-/
import Derived.Test.YtfhaffpegncdiaaNNodeTame
import Derived.Test.YtfhaffpegncdiaaNOctsMask
import Derived.Test.YtfhaffpegncdiaaPNx11
import Derived.Test.YtfhaffpegncdiaaPNx17
namespace Go.Proofs.Ytfhaffpegncdiaa.Pure
open Go.RowKit Go.Proofs.Ytfhaffpegncdiaa.PN Go.Proofs.YtfhaffpegncdiaaW.PrintWords Go.Proofs.YtfhaffpegncdiaaW.PrintLast Go.Proofs.YtfhaffpegncdiaaW.PrintMore
set_option linter.unusedVariables false
set_option linter.unusedSimpArgs false
def rowOk (lf : Bool) (x : S41) : Prop := 1 ≤ x.f0.size ∧ x.f0.size ≤ 130 ∧ (lf = true → x.f1.size ≤ 20 ∧ x.f2 = 0) ∧ (lf = false → x.f1 = ⟨#[]⟩ ∧ 2 ≤ x.f2 ∧ x.f2 ≤ 65537)
def rowLen (lf : Bool) (x : S41) : Nat := if lf = true then 2 + x.f0.size + x.f1.size else 5 + x.f0.size
def rowsLen (lf : Bool) : List S41 → Nat
  | [] => 0
  | x :: l => rowLen lf x + rowsLen lf l
theorem rowsLen_app (lf : Bool) (a b : List S41) : rowsLen lf (a ++ b) = rowsLen lf a + rowsLen lf b := by
  induction a with
  | nil => simp [rowsLen]
  | cons x a ih => simp only [List.cons_append, rowsLen, ih]; omega
theorem rowLen_le {lf : Bool} {x : S41} (h : rowOk lf x) : rowLen lf x ≤ 152 := by
  obtain ⟨h0, h1, h2, h3⟩ := h
  unfold rowLen
  cases lf with
  | true => rw [if_pos rfl]; have := (h2 rfl).1; omega
  | false => rw [if_neg (by decide)]; omega
theorem rowsLen_le {lf : Bool} {l : List S41} (h : ∀ x ∈ l, rowOk lf x) : rowsLen lf l ≤ 152 * l.length := by
  induction l with
  | nil => simp [rowsLen]
  | cons x l ih =>
    have h1 := rowLen_le (h x List.mem_cons_self)
    have h2 := ih (fun y hy => h y (List.mem_cons_of_mem _ hy))
    simp only [rowsLen, List.length_cons]
    omega
theorem rd_get (l : List S41) (i : Nat) (h : i < l.length) : rd_T41 l (i : Int) = l[i] := by
  unfold rd_T41
  rw [Int.toNat_natCast, List.getD_eq_getElem?_getD, List.getElem?_eq_getElem h]
  rfl
theorem rowsLen_drop (lf : Bool) (l : List S41) (j : Nat) (h : j < l.length) : rowsLen lf (l.drop j) = rowLen lf (rd_T41 l (j : Int)) + rowsLen lf (l.drop (j + 1)) := by
  rw [rd_get l j h, List.drop_eq_getElem_cons h, rowsLen]
theorem w_four (v a b : Nat) (h : v + a + b < 1000000) : wrap64 ((wrap64 ((wrap64 ((wrap64 ((wrap64 ((v : Int) + 1)) + (a : Int))) + 4)) - 3)) + (b : Int)) = ((v + (2 + a + b) : Nat) : Int) := by unfold wrap64; omega
theorem w_five (v a : Nat) (h : v + a < 1000000) : wrap64 ((wrap64 ((wrap64 ((v : Int) + 1)) + (a : Int))) + 4) = ((v + (5 + a) : Nat) : Int) := by unfold wrap64; omega
theorem size_val (lf : Bool) (l : List S41) (hl : l.length ≤ 100) (hg : ∀ x ∈ l, rowOk lf x) : ∀ (d j k v : Nat), l.length - j = d → j ≤ l.length → d < k → v + rowsLen lf (l.drop j) ≤ 100000 →
    waybillref7_NodeSize.l0 k (v : Int) (j : Int) lf l = some ((v + rowsLen lf (l.drop j) : Nat) : Int) := by
  intro d
  induction d with
  | zero =>
    intro j k v hd hj hk hv
    obtain ⟨k, rfl⟩ : ∃ k', k = k' + 1 := ⟨k - 1, by omega⟩
    rw [waybillref7_NodeSize.l0, if_neg (by omega), show l.drop j = [] from List.drop_eq_nil_of_le (by omega)]
    rfl
  | succ d ih =>
    intro j k v hd hj hk hv
    obtain ⟨k, rfl⟩ : ∃ k', k = k' + 1 := ⟨k - 1, by omega⟩
    have hjl : j < l.length := by omega
    rw [rowsLen_drop lf l j hjl] at hv ⊢
    have hr := rowLen_le (hg _ (show rd_T41 l (j : Int) ∈ l by rw [rd_get l j hjl]; exact List.getElem_mem hjl))
    rw [waybillref7_NodeSize.l0, if_pos (by omega), if_pos (by omega), w_next j (by omega)]
    unfold rowLen at hv hr ⊢
    cases lf with
    | true =>
      rw [if_pos rfl] at hv hr ⊢
      rw [if_pos rfl, w_four v _ _ (by omega), ih (j + 1) k _ (by omega) (by omega) (by omega) (by omega), Nat.add_assoc]
    | false =>
      rw [if_neg (by decide)] at hv hr ⊢
      rw [if_neg (by decide), w_five v _ (by omega), ih (j + 1) k _ (by omega) (by omega) (by omega) (by omega), Nat.add_assoc]
def valOk (lf : Bool) (V : ByteArray) (P : Int) : Prop := (lf = true → V.size ≤ 20 ∧ P = 0) ∧ (lf = false → V = ⟨#[]⟩ ∧ 2 ≤ P ∧ P ≤ 65537)
def TamedG (lf : Bool) (r : List S41) : Prop := Asc r ∧ r.length ≤ 40 ∧ (∀ x ∈ r, rowOk lf x) ∧ 3 + rowsLen lf r ≤ 512
theorem k_one (s : ByteArray) : 1 ≤ ((⟨#[107]⟩ : ByteArray) ++ s).size := by
  rw [ByteArray.size_append]
  show 1 ≤ 1 + _
  omega
theorem page_in (x : Int) : 2 ≤ wrap64 (2 + (Go.bits .and .i64 x 65535)) ∧ wrap64 (2 + (Go.bits .and .i64 x 65535)) ≤ 65537 := by
  have h := and16 x
  generalize Go.bits .and .i64 x 65535 = y at *
  unfold wrap64
  omega
theorem tameg_j4 (l : List S41) (lf : Bool) (i k : Nat) (acc : List S41) (K V : ByteArray) (P : Int) (hi : i < 40) (ha : Asc acc) (hs : Short acc) (hg : ∀ x ∈ acc, rowOk lf x) (hn : 3 + rowsLen lf acc ≤ 512) (hVP : valOk lf V P) (hK1 : 1 ≤ K.size) (hc : acc.length ≤ i) (hK : 0 < acc.length → Op.bytesLess (ky acc (acc.length - 1)) K.toList = true) (hk : 100 ≤ k)
    (ih : ∀ y : List S41, Asc y → Short y → (∀ x ∈ y, rowOk lf x) → 3 + rowsLen lf y ≤ 512 → y.length ≤ i + 1 → ∃ r, waybilllaw10_Tame.l0 k ((i + 1 : Nat) : Int) lf l lf y = some (lf, r) ∧ TamedG lf r) :
    ∃ r, waybilllaw10_Tame.j4 (k + 1) (i : Int) lf l lf acc K V P = some (lf, r) ∧ TamedG lf r := by
  rw [waybilllaw10_Tame.j4]
  by_cases h1 : (K.size : Int) > 130
  · rw [if_pos h1]; exact ⟨acc, rfl, ha, by omega, hg, hn⟩
  · have hlen : (acc ++ [(⟨K, V, P⟩ : S41)]).length = acc.length + 1 := by rw [List.length_append, List.length_singleton]
    have ha2 : Asc (acc ++ [(⟨K, V, P⟩ : S41)]) := asc_add ha hK
    have hs2 : Short (acc ++ [(⟨K, V, P⟩ : S41)]) := short_add hs (show K.size ≤ 130 by omega)
    have hro : rowOk lf (⟨K, V, P⟩ : S41) := ⟨hK1, (show K.size ≤ 130 by omega), hVP.1, hVP.2⟩
    have hg2 : ∀ x ∈ acc ++ [(⟨K, V, P⟩ : S41)], rowOk lf x := by
      intro x hx
      rcases List.mem_append.1 hx with h | h
      · exact hg x h
      · rw [List.mem_singleton] at h; rw [h]; exact hro
    have htake : (acc ++ [(⟨K, V, P⟩ : S41)]).take acc.length = acc := List.take_left' rfl
    rw [if_neg h1, if_pos (by omega), Option.bind_some]
    generalize acc ++ [(⟨K, V, P⟩ : S41)] = y at *
    have hrl := rowsLen_le hg2
    have ht := size_val lf y (by omega) hg2 y.length 0 k 3 (by omega) (by omega) (by omega) (by rw [List.drop_zero]; omega)
    rw [List.drop_zero] at ht
    have ht' : waybillref7_NodeSize.f k lf y = some ((3 + rowsLen lf y : Nat) : Int) := ht
    rw [ht', Option.bind_some]
    by_cases h2 : ((3 + rowsLen lf y : Nat) : Int) > 512
    · rw [if_pos h2, w_prev y.length (by omega) (by omega), if_pos (by omega), if_pos (by omega), Int.toNat_natCast, show y.length - 1 = acc.length by omega, htake]
      exact ⟨acc, rfl, ha, by omega, hg, hn⟩
    · rw [if_neg h2, w_next i (by omega)]
      exact ih y ha2 hs2 hg2 (by omega) (by omega)
theorem tameg_j2 (l : List S41) (lf : Bool) (i k : Nat) (acc : List S41) (K V : ByteArray) (P : Int) (hi : i < 40) (ha : Asc acc) (hs : Short acc) (hg : ∀ x ∈ acc, rowOk lf x) (hn : 3 + rowsLen lf acc ≤ 512) (hVP : valOk lf V P) (hK1 : 1 ≤ K.size) (hc : acc.length ≤ i) (hk : 100 ≤ k)
    (ih : ∀ y : List S41, Asc y → Short y → (∀ x ∈ y, rowOk lf x) → 3 + rowsLen lf y ≤ 512 → y.length ≤ i + 1 → ∃ r, waybilllaw10_Tame.l0 k ((i + 1 : Nat) : Int) lf l lf y = some (lf, r) ∧ TamedG lf r) :
    ∃ r, waybilllaw10_Tame.j2 (k + 1 + 1 + 1) (i : Int) lf l lf acc K V P = some (lf, r) ∧ TamedG lf r := by
  rw [waybilllaw10_Tame.j2]
  by_cases h0 : acc.length = 0
  · rw [if_neg (by omega), waybilllaw10_Tame.j3, if_neg (by decide)]
    exact tameg_j4 l lf i k acc K V P hi ha hs hg hn hVP hK1 hc (fun h => by omega) hk ih
  · rw [if_pos (by omega), w_prev acc.length (by omega) (by omega), if_pos (by omega), if_pos (by omega), waybilllaw10_Tame.j3]
    have hky : (rd_T41 acc ((acc.length - 1 : Nat) : Int)).f0.toList = ky acc (acc.length - 1) := rfl
    rw [hky]
    cases hb : Op.bytesLess (ky acc (acc.length - 1)) K.toList with
    | true =>
      rw [if_neg (by decide)]
      exact tameg_j4 l lf i k acc K V P hi ha hs hg hn hVP hK1 hc (fun _ => hb) hk ih
    | false =>
      have hz := hs (acc.length - 1) (by omega)
      rw [if_pos (by decide), w_prev acc.length (by omega) (by omega), if_pos (by omega), if_pos (by omega), if_pos (by omega)]
      refine tameg_j4 l lf i k acc _ V P hi ha hs hg hn hVP (by rw [ByteArray.size_append]; show 1 ≤ _ + 1; omega) hc (fun _ => ?_) hk ih
      rw [plus_list]
      exact less_plus _
theorem tameg_l0 (l : List S41) (lf : Bool) (hl : l.length ≤ 200) : ∀ (d i k : Nat) (acc : List S41), 40 - i ≤ d → i ≤ 40 → Asc acc → Short acc → (∀ x ∈ acc, rowOk lf x) → 3 + rowsLen lf acc ≤ 512 → acc.length ≤ i → 5 * d + 200 ≤ k → ∃ r, waybilllaw10_Tame.l0 k (i : Int) lf l lf acc = some (lf, r) ∧ TamedG lf r := by
  intro d
  induction d with
  | zero =>
    intro i k acc hd hi ha hs hg hn hc hk
    obtain ⟨k, rfl⟩ : ∃ k', k = k' + 1 + 1 := ⟨k - 2, by omega⟩
    rw [waybilllaw10_Tame.l0]
    have e : decide ((i : Int) < 40) = false := decide_eq_false (by omega)
    refine ⟨acc, ?_, ha, by omega, hg, hn⟩
    split
    · rw [e, waybilllaw10_Tame.j1, if_neg (by decide)]
    · rw [waybilllaw10_Tame.j1, if_neg (by decide)]
  | succ d ih =>
    intro i k acc hd hi ha hs hg hn hc hk
    obtain ⟨k, rfl⟩ : ∃ k', k = k' + 1 + 1 + 1 + 1 + 1 := ⟨k - 5, by omega⟩
    rw [waybilllaw10_Tame.l0]
    by_cases h1 : (i : Int) < (l.length : Int)
    · rw [if_pos h1]
      by_cases h2 : i < 40
      · have ca := cut_ok (rd_T41 l (i : Int)).f0 100 (by omega)
        have cb := cut_ok (rd_T41 l (i : Int)).f1 20 (by omega)
        rw [decide_eq_true (by omega), waybilllaw10_Tame.j1, if_pos rfl, if_pos (by omega), if_pos h1, if_pos ca.1, if_pos ca.2.1, if_pos (by omega), if_pos cb.1, if_pos cb.2.1]
        have step := fun y (hy : Asc y) (hy2 : Short y) (hg2 : ∀ x ∈ y, rowOk lf x) (hn2 : 3 + rowsLen lf y ≤ 512) (hy3 : y.length ≤ i + 1) => ih (i + 1) k y (by omega) (by omega) hy hy2 hg2 hn2 hy3 (by omega)
        cases lf with
        | true => rw [if_pos rfl]; exact tameg_j2 l true i k acc _ _ _ h2 ha hs hg hn ⟨fun _ => ⟨by omega, rfl⟩, fun h => Bool.noConfusion h⟩ (k_one _) hc (by omega) step
        | false => rw [if_neg (by decide)]; exact tameg_j2 l false i k acc _ _ _ h2 ha hs hg hn ⟨fun h => Bool.noConfusion h, fun _ => ⟨rfl, page_in _⟩⟩ (k_one _) hc (by omega) step
      · refine ⟨acc, ?_, ha, by omega, hg, hn⟩
        rw [decide_eq_false (by omega), waybilllaw10_Tame.j1, if_neg (by decide)]
    · refine ⟨acc, ?_, ha, by omega, hg, hn⟩
      rw [if_neg h1, waybilllaw10_Tame.j1, if_neg (by decide)]
theorem tameg_f (l : List S41) (lf : Bool) (hl : l.length ≤ 200) (k : Nat) (hk : 400 ≤ k) : ∃ r, waybilllaw10_Tame.f k lf l = some (lf, r) ∧ TamedG lf r := by
  unfold waybilllaw10_Tame.f
  exact tameg_l0 l lf hl 40 0 k [] (by omega) (by omega) (fun i j _ h => by simp at h) (fun i h => by simp at h) (fun x h => by simp at h) (by simp [rowsLen]) (by simp) (by omega)
end Go.Proofs.Ytfhaffpegncdiaa.Pure
