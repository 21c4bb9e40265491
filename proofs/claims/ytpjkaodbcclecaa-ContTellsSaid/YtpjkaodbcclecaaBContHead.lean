/-
What octets are as a head of a content: the given program's reader and the document's own come to the same.
-/
import Derived.Test.YtpjkaodbcclecaaPBx6
import Derived.Test.YtpjkaodbcclecaaPBx10
import Derived.Test.YtpjkaodbcclecaaBContLib
import Derived.Test.YtpjkaodbcclecaaBOctsRefTxs
import Derived.Test.YtpjkaodbcclecaaBOctsMask
namespace Go.Proofs.Ytpjkaodbcclecaa.Pure
open Go.RowKit Go.Proofs.Ytpjkaodbcclecaa.PB Go.Proofs.YtpjkaodbcclecaaW.PrintWords Go.Proofs.YtpjkaodbcclecaaW.PrintLast Go.Proofs.YtpjkaodbcclecaaW.PrintMore
set_option linter.unusedVariables false
set_option linter.unusedSimpArgs false
def errH : Int × Int × ByteArray × Int := (0, 0, (⟨#[]⟩ : ByteArray), 4)
/-- The mode behind the type, and nothing behind it. -/
def modeH (z f : Int) (r : List Int) (s : ByteArray) : Int × Int × ByteArray × Int :=
  if Go.bits .and .u64 f 4096 = 0 then (if r.length = 0 then (z, 0, s, 0) else errH)
  else if r.length = 1 ∧ (r.getD 0 0 = 1 ∨ r.getD 0 0 = 2) then (z, r.getD 0 0, s, 0) else errH
def tailH (z f : Int) (r : List Int) : Int × Int × ByteArray × Int :=
  if Go.bits .and .u64 f 32768 = 0 then modeH z f r (⟨#[]⟩ : ByteArray)
  else match txt r 1 with
    | none => errH
    | some (t, r') => if t.length = 0 then errH else modeH z f r' (strOfNums t)
def parseH (l : List Int) : Int × Int × ByteArray × Int :=
  if l.length < 14 then errH else
  if num (l.take 2) = 60 ∧ num ((l.drop 2).take 2) = 0 ∧ Go.bits .andNot .u64 (num ((l.drop 12).take 2)) 36864 = 0 then tailH (num ((l.drop 4).take 8)) (num ((l.drop 12).take 2)) (l.drop 14) else errH
theorem In_anyN (k : Nat) (l : List Int) (b : Bool) (n : Int) (hk : 9 ≤ k) (ho : Oct l) (hl : l.length < 140737488355328) : ∃ v l' b', octs_In_Int.f k l b n = some (v, l', b') ∧ Oct l' ∧ l'.length < 140737488355328 ∧ (b = true → b' = true) := by
  cases b with
  | true => exact ⟨_, _, _, In_Int_bad k l n (by omega), oct_nil, by simp, fun _ => rfl⟩
  | false =>
    rw [In_Int k l n hk ho hl]
    split
    · exact ⟨_, _, _, rfl, oct_nil, by simp, fun h => by cases h⟩
    · exact ⟨_, _, _, rfl, oct_drop ho _, by rw [List.length_drop]; omega, fun h => by cases h⟩
theorem P3g (k : Nat) (hk : 1 ≤ k) (x : Bool) (l : List Int) (b : Bool) (z m : Int) (s : ByteArray) : cont_Parse.j3 k x l b z m s = some (if x = true ∧ b = false ∧ l.length = 0 then (z, m, s, 0) else errH) := by
  obtain ⟨k, rfl⟩ : ∃ j, k = j + 1 := ⟨k - 1, by omega⟩
  rw [cont_Parse.j3]
  unfold octs_In_Ok.f octs_In_Left.f
  cases x with
  | false => simp [errH]
  | true =>
    cases b with
    | true => simp [errH]
    | false =>
      cases l with
      | nil => simp
      | cons c l =>
        have h : ((c :: l).length : Int) > 0 := by rw [List.length_cons]; omega
        rw [if_pos rfl, Option.bind_some, if_pos (show (!false, c :: l, false).1 = true from rfl), Option.bind_some, if_pos h, if_neg (by simp)]
        rfl
theorem P3bad (k : Nat) (hk : 1 ≤ k) (x : Bool) (l : List Int) (b : Bool) (z m : Int) (s : ByteArray) (h : x = false ∨ b = true) : cont_Parse.j3 k x l b z m s = some errH := by
  rw [P3g k hk, if_neg]
  rintro ⟨rfl, rfl, _⟩
  simp at h
theorem P2bad (k : Nat) (hk : 12 ≤ k) (x : Bool) (f : Int) (l : List Int) (b : Bool) (z : Int) (s : ByteArray) (ho : Oct l) (hl : l.length < 140737488355328) (h : x = false ∨ b = true) :
    cont_Parse.j2 k x f l b z 0 s = some errH := by
  obtain ⟨k, rfl⟩ : ∃ j, k = j + 1 := ⟨k - 1, by omega⟩
  rw [cont_Parse.j2]
  by_cases hf : Go.bits .and .u64 f 4096 = 0
  · rw [if_pos hf, P3bad k (by omega) _ _ _ _ _ _ h]
  · rw [if_neg hf]
    obtain ⟨v, l', b', hi, _, _, hb⟩ := In_anyN k l b 1 (by omega) ho hl
    rw [hi, Option.bind_some]
    cases x with
    | false => rw [if_neg (by simp)]; exact P3bad k (by omega) _ _ _ _ _ _ (.inl rfl)
    | true =>
      have hb' : b' = true := hb (by simpa using h)
      rw [if_pos rfl]
      split
      · exact P3bad k (by omega) _ _ _ _ _ _ (.inr hb')
      · exact P3bad k (by omega) _ _ _ _ _ _ (.inr hb')
theorem Short_anyN (k : Nat) (l : List Int) (b : Bool) (hk : 9 ≤ k) (ho : Oct l) (hl : l.length < 140737488355328) : ∃ s l' b', octs_In_Short.f k l b = some (s, l', b') ∧ Oct l' ∧ l'.length < 140737488355328 ∧ (b = true → b' = true) := by
  cases b with
  | true => exact ⟨_, _, _, In_Short_bad k l, oct_nil, by simp, fun _ => rfl⟩
  | false =>
    rw [In_Short k l hk ho hl]
    refine ⟨_, _, _, rfl, ?_, ?_, fun h => by cases h⟩
    · unfold txt
      (repeat' split) <;> first | exact oct_nil | exact oct_drop (oct_drop ho _) _
    · unfold txt
      (repeat' split) <;> simp [told] <;> omega
theorem P1bad (k : Nat) (hk : 13 ≤ k) (x : Bool) (f : Int) (l : List Int) (b : Bool) (z : Int) (ho : Oct l) (hl : l.length < 140737488355328) (h : x = false ∨ b = true) :
    cont_Parse.j1 k x f l b z 0 (⟨#[]⟩ : ByteArray) = some errH := by
  obtain ⟨k, rfl⟩ : ∃ j, k = j + 1 := ⟨k - 1, by omega⟩
  rw [cont_Parse.j1]
  by_cases hf : Go.bits .and .u64 f 32768 = 0
  · rw [if_pos hf, P2bad k (by omega) _ _ _ _ _ _ ho hl h]
  · rw [if_neg hf]
    obtain ⟨s, l', b', hi, ho', hl', hb⟩ := Short_anyN k l b (by omega) ho hl
    rw [hi, Option.bind_some]
    cases x with
    | false => rw [if_neg (by simp)]; exact P2bad k (by omega) _ _ _ _ _ _ ho' hl' (.inl rfl)
    | true => rw [if_pos rfl]; exact P2bad k (by omega) _ _ _ _ _ _ ho' hl' (.inr (hb (by simpa using h)))
theorem P0bad (k : Nat) (hk : 14 ≤ k) (x : Bool) (l : List Int) (b : Bool) (ho : Oct l) (hl : l.length < 140737488355328) (h : x = false ∨ b = true) :
    cont_Parse.j0 k x l b = some errH := by
  obtain ⟨k, rfl⟩ : ∃ j, k = j + 1 := ⟨k - 1, by omega⟩
  rw [cont_Parse.j0]
  obtain ⟨v, l1, b1, hi, ho1, hl1, hb1⟩ := In_anyN k l b 8 (by omega) ho hl
  rw [hi, Option.bind_some]
  obtain ⟨v2, l2, b2, hi2, ho2, hl2, hb2⟩ := In_anyN k l1 b1 2 (by omega) ho1 hl1
  rw [hi2, Option.bind_some]
  cases x with
  | false => rw [if_neg (by simp)]; exact P1bad k (by omega) _ _ _ _ _ ho2 hl2 (.inl rfl)
  | true => rw [if_pos rfl]; exact P1bad k (by omega) _ _ _ _ _ ho2 hl2 (.inr (hb2 (hb1 (by simpa using h))))
theorem P2g (k : Nat) (hk : 12 ≤ k) (f : Int) (l : List Int) (z : Int) (s : ByteArray) (ho : Oct l) (hl : l.length < 140737488355328) :
    cont_Parse.j2 k true f l false z 0 s = some (modeH z f l s) := by
  obtain ⟨k, rfl⟩ : ∃ j, k = j + 1 := ⟨k - 1, by omega⟩
  rw [cont_Parse.j2]
  unfold modeH
  by_cases h : Go.bits .and .u64 f 4096 = 0
  · rw [if_pos h, if_pos h, P3g k (by omega)]
    simp
  · rw [if_neg h, if_neg h, In_Int k l 1 (by omega) ho hl, w1]
    cases l with
    | nil =>
      have e : (if ([] : List Int).length = 1 ∧ (([] : List Int).getD 0 0 = 1 ∨ ([] : List Int).getD 0 0 = 2) then (z, ([] : List Int).getD 0 0, s, (0 : Int)) else errH) = errH := if_neg (by simp)
      rw [e, if_pos (by simp), Option.bind_some, if_pos rfl]
      split
      · exact P3bad k (by omega) _ _ _ _ _ _ (.inr rfl)
      · exact P3bad k (by omega) _ _ _ _ _ _ (.inr rfl)
    | cons c r =>
      have hc := (oct_cons ho).1
      have hn : num ((c :: r).take 1) = c := by simp [num, numA]
      have hw : wrap64 c = c := w64_id c (by omega) (by omega)
      have hd : (c :: r).drop 1 = r := rfl
      have hg : (c :: r).getD 0 0 = c := rfl
      rw [if_neg (by simp), hn, hd, hg, Option.bind_some, if_pos rfl]
      simp only [hw]
      by_cases h1 : c = 1
      · rw [if_pos h1, P3g k (by omega)]
        cases r with
        | nil => simp [h1]
        | cons d r => simp
      · rw [if_neg h1, P3g k (by omega)]
        by_cases h2 : c = 2
        · subst h2
          cases r with
          | nil => simp
          | cons d r => simp
        · rw [if_neg (by simp [h2]), if_neg (by simp [h1, h2])]
theorem P1g (k : Nat) (hk : 13 ≤ k) (f : Int) (l : List Int) (z : Int) (ho : Oct l) (hl : l.length < 140737488355328) :
    cont_Parse.j1 k true f l false z 0 (⟨#[]⟩ : ByteArray) = some (tailH z f l) := by
  obtain ⟨k, rfl⟩ : ∃ j, k = j + 1 := ⟨k - 1, by omega⟩
  rw [cont_Parse.j1]
  unfold tailH
  by_cases h : Go.bits .and .u64 f 32768 = 0
  · rw [if_pos h, if_pos h, P2g k (by omega) _ _ _ _ ho hl]
  · rw [if_neg h, if_neg h, In_Short k l (by omega) ho hl, Option.bind_some, if_pos rfl]
    cases ht : txt l 1 with
    | none => exact P2bad k (by omega) _ _ _ _ _ _ oct_nil (by simp [told]) (.inr rfl)
    | some p =>
      obtain ⟨t, r⟩ := p
      obtain ⟨h1, h2, h3⟩ := txt_some ht
      have hor : Oct r := by rw [h3]; exact oct_drop ho _
      have hlr : r.length < 140737488355328 := by rw [h3, List.length_drop]; omega
      show cont_Parse.j2 k (!(strOfNums t).toList.isEmpty) f r false z 0 (strOfNums t) = some (if t.length = 0 then errH else modeH z f r (strOfNums t))
      rw [str_toList]
      by_cases h0 : t.length = 0
      · have : t = [] := List.eq_nil_of_length_eq_zero h0
        subst this
        rw [if_pos h0]
        exact P2bad k (by omega) _ _ _ _ _ _ hor hlr (.inl rfl)
      · have he : (!(u8s t).isEmpty) = true := by
          cases t with
          | nil => simp at h0
          | cons c t => rfl
        rw [if_neg h0, he, P2g k (by omega) _ _ _ _ hor hlr]
theorem ParseH_f (k : Nat) (hk : 16 ≤ k) (l : List Int) (ho : Oct l) (hl : l.length < 140737488355328) : cont_Parse.f k l = some (parseH l) := by
  unfold cont_Parse.f octs_From.f parseH
  rw [Option.bind_some]
  show ((octs_In_Int.f k l false 2).bind _) = _
  rw [In_Int k l 2 (by omega) ho hl, w2]
  by_cases h2 : l.length < 2
  · rw [if_pos h2, Option.bind_some, if_neg (by simp), if_pos (by omega)]
    exact P0bad k (by omega) _ _ _ oct_nil (by simp) (.inr rfl)
  rw [if_neg h2, Option.bind_some]
  have ho2 := oct_drop ho 2
  have hl2 : (l.drop 2).length < 140737488355328 := by rw [List.length_drop]; omega
  by_cases hc : num (l.take 2) = 60
  case neg =>
    rw [if_neg hc]
    have e : (if l.length < 14 then errH else if num (l.take 2) = 60 ∧ num ((l.drop 2).take 2) = 0 ∧ Go.bits .andNot .u64 (num ((l.drop 12).take 2)) 36864 = 0 then tailH (num ((l.drop 4).take 8)) (num ((l.drop 12).take 2)) (l.drop 14) else errH) = errH := by
      split
      · rfl
      · rw [if_neg (fun h => hc h.1)]
    rw [e]
    exact P0bad k (by omega) _ _ _ ho2 hl2 (.inl rfl)
  rw [if_pos hc]
  show ((octs_In_Int.f k (l.drop 2) false 2).bind _) = _
  rw [In_Int k _ 2 (by omega) ho2 hl2, w2]
  have hdl : (l.drop 2).length = l.length - 2 := List.length_drop
  by_cases h4 : l.length < 4
  · rw [if_pos (by omega), Option.bind_some, if_pos (by omega)]
    exact P0bad k (by omega) _ _ _ oct_nil (by simp) (.inr rfl)
  rw [if_neg (by omega), Option.bind_some]
  have ho4 := oct_drop ho 4
  have hl4 : (l.drop 4).length = l.length - 4 := List.length_drop
  show cont_Parse.j0 k (num ((l.drop 2).take 2) == 0) ((l.drop 2).drop 2) false = _
  rw [List.drop_drop]
  by_cases hw : num ((l.drop 2).take 2) = 0
  case neg =>
    have e : (if l.length < 14 then errH else if num (l.take 2) = 60 ∧ num ((l.drop 2).take 2) = 0 ∧ Go.bits .andNot .u64 (num ((l.drop 12).take 2)) 36864 = 0 then tailH (num ((l.drop 4).take 8)) (num ((l.drop 12).take 2)) (l.drop 14) else errH) = errH := by
      split
      · rfl
      · rw [if_neg (fun h => hw h.2.1)]
    rw [e]
    exact P0bad k (by omega) _ _ _ ho4 (show (l.drop 4).length < _ by omega) (.inl (by simpa using hw))
  have hw' : (num ((l.drop 2).take 2) == 0) = true := by simpa using hw
  rw [hw']
  obtain ⟨k, rfl⟩ : ∃ j, k = j + 1 := ⟨k - 1, by omega⟩
  rw [cont_Parse.j0]
  show ((octs_In_Int.f k (l.drop 4) false 8).bind _) = _
  rw [In_Int k _ 8 (by omega) ho4 (by omega), w8]
  by_cases h12 : l.length < 12
  · rw [if_pos (by omega), Option.bind_some, if_pos (by omega)]
    show ((octs_In_Int.f k [] true 2).bind _) = _
    rw [In_Int_bad k [] 2 (by omega), Option.bind_some, if_pos rfl]
    exact P1bad k (by omega) _ _ _ _ _ oct_nil (by simp) (.inr rfl)
  rw [if_neg (by omega), Option.bind_some]
  have ho12 := oct_drop ho 12
  have hl12 : (l.drop 12).length = l.length - 12 := List.length_drop
  show ((octs_In_Int.f k ((l.drop 4).drop 8) false 2).bind _) = _
  rw [List.drop_drop]
  show ((octs_In_Int.f k (l.drop 12) false 2).bind _) = _
  rw [In_Int k _ 2 (by omega) ho12 (by omega), w2]
  by_cases h14 : l.length < 14
  · rw [if_pos (by omega), Option.bind_some, if_pos h14, if_pos rfl]
    exact P1bad k (by omega) _ _ _ _ _ oct_nil (by simp) (.inr rfl)
  rw [if_neg (by omega), Option.bind_some, if_neg h14, if_pos rfl]
  have ho14 := oct_drop ho 14
  have hl14 : (l.drop 14).length = l.length - 14 := List.length_drop
  show cont_Parse.j1 k (Go.bits .andNot .u64 (num ((l.drop 12).take 2)) 36864 == 0) (num ((l.drop 12).take 2)) ((l.drop 12).drop 2) false (num ((l.drop 4).take 8)) 0 (⟨#[]⟩ : ByteArray) = _
  rw [List.drop_drop]
  show cont_Parse.j1 k (Go.bits .andNot .u64 (num ((l.drop 12).take 2)) 36864 == 0) (num ((l.drop 12).take 2)) (l.drop 14) false (num ((l.drop 4).take 8)) 0 (⟨#[]⟩ : ByteArray) = _
  by_cases hf : Go.bits .andNot .u64 (num ((l.drop 12).take 2)) 36864 = 0
  · rw [if_pos ⟨hc, hw, hf⟩, beq_iff_eq.2 hf, P1g k (by omega) _ _ _ ho14 (by omega)]
  · rw [if_neg (fun h => hf h.2.2)]
    exact P1bad k (by omega) _ _ _ _ _ ho14 (by omega) (.inl (by simpa using hf))
/-! ### the document's own -/
theorem flags_nat (n : Nat) (hn : n < 65536) : n &&& 18446744073709514751 = n &&& 28671 := by
  have h := Nat.and_mod_two_pow (a := n) (b := 18446744073709514751) (n := 16)
  have hle : n &&& 18446744073709514751 ≤ n := Nat.and_le_left
  rw [Nat.mod_eq_of_lt (by omega), Nat.mod_eq_of_lt (by omega : n < 2 ^ 16)] at h
  exact h
theorem u64s (n : Int) (h0 : 0 ≤ n) (h1 : n < 2 ^ 62) : IntKind.u64.wrap n = n := u64_id n h0 (by omega)
theorem and_nat (n m : Nat) (hn : n < 65536) (hm : m < 65536) : Go.bits .and .u64 (n : Int) (m : Int) = ((n &&& m : Nat) : Int) :=
  (bits_nat .u64 62 (by decide) u64s n m (by omega) (by omega)).1
theorem andNot_nat (n : Nat) (hn : n < 65536) : Go.bits .andNot .u64 (n : Int) 36864 = ((n &&& 18446744073709514751 : Nat) : Int) := by
  unfold Go.bits
  have e : (BitVec.ofInt IntKind.u64.bits (n : Int) &&& ~~~ BitVec.ofInt IntKind.u64.bits 36864).toNat = n &&& 18446744073709514751 := by
    rw [BitVec.toNat_and]
    have e1 : (~~~ BitVec.ofInt IntKind.u64.bits 36864).toNat = 18446744073709514751 := by decide
    rw [e1, BitVec.ofInt_natCast, BitVec.toNat_ofNat, Nat.mod_eq_of_lt (by simp only [IntKind.bits]; omega)]
  simp only [e]
  exact u64_id _ (by omega) (by have : n &&& 18446744073709514751 ≤ n := Nat.and_le_left; omega)
theorem flags_same (f : Int) (h0 : 0 ≤ f) (h1 : f < 65536) : Go.bits .andNot .u64 f 36864 = Go.bits .and .u64 f 28671 := by
  obtain ⟨n, rfl⟩ : ∃ n : Nat, f = n := ⟨f.toNat, by omega⟩
  have h2 := and_nat n 28671 (by omega) (by omega)
  rw [andNot_nat n (by omega), flags_nat n (by omega), show (28671 : Int) = ((28671 : Nat) : Int) from rfl, h2]
theorem H1g (k : Nat) (hk : 14 ≤ k) (l : List Int) (f : Int) (a : Nat) (z : Int) (s : ByteArray) (ho : Oct l) (hl : l.length < 100000000) (ha : a ≤ l.length) :
    waybillref1_HeadOf.j1 k l f (a : Int) z 0 s = some (modeH z f (l.drop a) s) := by
  obtain ⟨k, rfl⟩ : ∃ j, k = j + 1 := ⟨k - 1, by omega⟩
  have hdl : (l.drop a).length = l.length - a := List.length_drop
  rw [waybillref1_HeadOf.j1]
  unfold modeH
  by_cases h : Go.bits .and .u64 f 4096 = 0
  · rw [if_pos h, if_pos h]
    by_cases e : a = l.length
    · rw [if_pos (by omega), if_pos (by omega)]
    · rw [if_neg (by omega), if_neg (by omega)]; rfl
  · have hN := Num_f k (by omega) l a 1 ho (by omega) (by omega) (by omega)
    rw [if_neg h, if_neg h]
    rw [show ((1 : Nat) : Int) = 1 from rfl] at hN
    rw [hN, Option.bind_some]
    obtain ⟨k, rfl⟩ : ∃ j, k = j + 1 := ⟨k - 1, by omega⟩
    by_cases h1 : a + 1 ≤ l.length
    · rw [if_pos h1, if_pos rfl]
      have hv : num ((l.drop a).take 1) = (l.drop a).getD 0 0 := by
        cases hd : l.drop a with
        | nil => rw [hd] at hdl; simp at hdl; omega
        | cons c r => simp [num, numA]
      have hg := getD_oct (oct_drop ho a) 0
      rw [hv]
      generalize (l.drop a).getD 0 0 = v at hg ⊢
      have hw : wrap64 v = v := w64_id _ (by omega) (by omega)
      have hwa : wrap64 ((a : Int) + 1) = (a : Int) + 1 := w64_id _ (by omega) (by omega)
      by_cases h2 : v < 1
      · show (if v < 1 then _ else _) = _
        rw [if_pos h2, waybillref1_HeadOf.j2, if_pos rfl, if_neg (by omega)]
        rfl
      · show (if v < 1 then _ else _) = _
        rw [if_neg h2, waybillref1_HeadOf.j2]
        by_cases h3 : v > 2
        · show (if decide (v > 2) = true then _ else _) = _
          rw [if_pos (decide_eq_true h3), if_neg (by omega)]; rfl
        · show (if decide (v > 2) = true then _ else _) = _
          rw [if_neg (by simpa using h3)]
          show (if wrap64 ((a : Int) + 1) = (l.length : Int) then some (z, wrap64 v, s, 0) else _) = _
          rw [hwa, hw]
          by_cases h4 : l.length = a + 1
          · rw [if_pos (by omega), if_pos (by omega)]
          · rw [if_neg (by omega), if_neg (by omega)]; rfl
    · rw [if_neg h1, if_neg (by simp), waybillref1_HeadOf.j2, if_pos rfl, if_neg (by omega)]
      rfl
theorem HeadOf_f (k : Nat) (hk : 18 ≤ k) (l : List Int) (ho : Oct l) (hl : l.length < 100000000) : waybillref1_HeadOf.f k l = some (parseH l) := by
  have hN1 : waybillref1_Num.f k l 0 2 = some (if 2 ≤ l.length then (num (l.take 2), true) else (0, false)) := by
    have := Num_f k (by omega) l 0 2 ho (by omega) (by omega) (by omega); simpa using this
  have hN2 : waybillref1_Num.f k l 2 2 = some (if 4 ≤ l.length then (num ((l.drop 2).take 2), true) else (0, false)) := Num_f k (by omega) l 2 2 ho (by omega) (by omega) (by omega)
  have hN3 : waybillref1_Num.f k l 4 8 = some (if 12 ≤ l.length then (num ((l.drop 4).take 8), true) else (0, false)) := Num_f k (by omega) l 4 8 ho (by omega) (by omega) (by omega)
  have hN4 : waybillref1_Num.f k l 12 2 = some (if 14 ≤ l.length then (num ((l.drop 12).take 2), true) else (0, false)) := Num_f k (by omega) l 12 2 ho (by omega) (by omega) (by omega)
  unfold waybillref1_HeadOf.f parseH
  rw [hN1, Option.bind_some, hN2, Option.bind_some, hN3, Option.bind_some, hN4, Option.bind_some]
  obtain ⟨k, rfl⟩ : ∃ j, k = j + 1 := ⟨k - 1, by omega⟩
  have hbad : ∀ a b, waybillref1_HeadOf.j0 (k + 1) l a b true = some errH := by
    intro a b; rw [waybillref1_HeadOf.j0, if_pos rfl]; rfl
  by_cases h14 : l.length < 14
  · rw [if_pos h14, if_neg (show ¬ 14 ≤ l.length by omega), if_neg (by simp), hbad]
  rw [if_neg h14, if_pos (show 14 ≤ l.length by omega), if_pos (show 2 ≤ l.length by omega), if_pos (show 4 ≤ l.length by omega), if_pos (show 12 ≤ l.length by omega), if_pos rfl]
  by_cases hc : num (l.take 2) = 60
  case neg =>
    rw [if_neg hc, hbad, if_neg (fun h => hc h.1)]
  rw [if_pos hc]
  by_cases hw : num ((l.drop 2).take 2) = 0
  case neg =>
    rw [if_neg hw, hbad, if_neg (fun h => hw h.2.1)]
  rw [if_pos hw]
  have ho12 : Oct ((l.drop 12).take 2) := oct_take (oct_drop ho 12) 2
  have hb := num_bound _ ho12
  have hbl : ((l.drop 12).take 2).length = 2 := by rw [List.length_take, List.length_drop]; omega
  rw [hbl] at hb
  show waybillref1_HeadOf.j0 (k + 1) l (num ((l.drop 4).take 8)) (num ((l.drop 12).take 2)) (Go.bits .and .u64 (num ((l.drop 12).take 2)) 28671 != 0) = _
  rw [flags_same _ hb.1 (by omega)]
  generalize num ((l.drop 4).take 8) = z
  generalize num ((l.drop 12).take 2) = f
  by_cases hf : Go.bits .and .u64 f 28671 = 0
  case neg =>
    have : (Go.bits .and .u64 f 28671 != 0) = true := by simpa using hf
    rw [this, hbad, if_neg (fun h => hf h.2.2)]
  have hf' : (Go.bits .and .u64 f 28671 != 0) = false := by simpa using hf
  rw [if_pos ⟨hc, hw, hf⟩, hf', waybillref1_HeadOf.j0, if_neg (by simp)]
  unfold tailH
  by_cases h8 : Go.bits .and .u64 f 32768 = 0
  · rw [if_pos h8, if_pos h8]
    exact H1g k (by omega) l f 14 z _ ho hl (by omega)
  rw [if_neg h8, if_neg h8]
  have hT := Text_f k (by omega) l 14 1 ho (by omega) hl (by omega)
  rw [show ((14 : Nat) : Int) = 14 from rfl, show ((1 : Nat) : Int) = 1 from rfl] at hT
  rw [hT, Option.bind_some]
  cases ht : txt (l.drop 14) 1 with
  | none => rw [rtxt_no ht, if_neg (by simp)]; rfl
  | some p =>
    obtain ⟨t, r⟩ := p
    obtain ⟨h1, h2, h3⟩ := txt_some ht
    rw [List.length_drop] at h1
    rw [rtxt_yes ht, if_pos rfl]
    show (if (t.length : Int) = 0 then _ else waybillref1_HeadOf.j1 k l f (((14 : Nat) : Int) + ((1 : Nat) : Int) + (t.length : Int)) z 0 (strOfNums t)) = some (if t.length = 0 then errH else modeH z f r (strOfNums t))
    by_cases h0 : t.length = 0
    · rw [if_pos (by omega), if_pos h0]; rfl
    · rw [if_neg (by omega), if_neg h0, show ((14 : Nat) : Int) + ((1 : Nat) : Int) + (t.length : Int) = ((15 + t.length : Nat) : Int) by omega, H1g k (by omega) l f (15 + t.length) z _ ho hl (by omega), h3, List.drop_drop]
      have : 14 + (1 + t.length) = 15 + t.length := by omega
      rw [this]
end Go.Proofs.Ytpjkaodbcclecaa.Pure
