/-
The plain laws that the statement rests on, behind each other.
-/
import Derived.Test.YtfhaffpegncdiaaPNx10
import Derived.Test.YtfhaffpegncdiaaPNx17
import Derived.Test.YtfhaffpegncdiaaPNx11
import Derived.Test.YtfhaffpegncdiaaPNx4
import Derived.Test.YtfhaffpegncdiaaPNx6
import Derived.Test.YtfhaffpegncdiaaPNx7
import Derived.Laws.BitsLemmas
import Derived.IntWalk
import Derived.Lib.Bytes
import Derived.Test.YtfhaffpegncdiaaPNx3
import Derived.Test.YtfhaffpegncdiaaPNx2
import Derived.Test.YtfhaffpegncdiaaPNx9
import Derived.Test.YtfhaffpegncdiaaPNx12
import Derived.Test.YtfhaffpegncdiaaPNx5
import Derived.Test.YtfhaffpegncdiaaPNx8
import Derived.Test.YtfhaffpegncdiaaPNx13
import Derived.Test.YtfhaffpegncdiaaPNx14
import Derived.Test.YtfhaffpegncdiaaPNx15
import Derived.Test.YtfhaffpegncdiaaPNx16
/-
The order of keys: octet by octet.
-/
namespace Go.Proofs.Ytfhaffpegncdiaa.Pure
open Go.RowKit Go.Proofs.Ytfhaffpegncdiaa.PN Go.Proofs.YtfhaffpegncdiaaW.PrintWords Go.Proofs.YtfhaffpegncdiaaW.PrintLast Go.Proofs.YtfhaffpegncdiaaW.PrintMore
set_option linter.unusedVariables false
set_option linter.unusedSimpArgs false
theorem less_cons (a b : UInt8) (x y : List UInt8) : Op.bytesLess (a :: x) (b :: y) = true ↔ a < b ∨ (a = b ∧ Op.bytesLess x y = true) := by
  rw [Op.bytesLess, Bool.or_eq_true, Bool.and_eq_true, decide_eq_true_eq, beq_iff_eq]
theorem less_trans : ∀ x y z : List UInt8, Op.bytesLess x y = true → Op.bytesLess y z = true → Op.bytesLess x z = true
  | [], [], _, h, _ => by cases h
  | [], _ :: _, [], _, h => by cases h
  | [], _ :: _, _ :: _, _, _ => rfl
  | _ :: _, [], _, h, _ => by cases h
  | _ :: _, _ :: _, [], _, h => by cases h
  | a :: x, b :: y, c :: z, h1, h2 => by
    rw [less_cons] at *
    rcases h1 with h1 | ⟨rfl, h1⟩
    · rcases h2 with h2 | ⟨rfl, h2⟩
      · exact Or.inl (UInt8.lt_trans h1 h2)
      · exact Or.inl h1
    · rcases h2 with h2 | ⟨rfl, h2⟩
      · exact Or.inl h2
      · exact Or.inr ⟨rfl, less_trans x y z h1 h2⟩
theorem less_plus : ∀ x : List UInt8, Op.bytesLess x (x ++ [43]) = true
  | [] => rfl
  | a :: x => (less_cons a a x _).2 (Or.inr ⟨rfl, less_plus x⟩)
end Go.Proofs.Ytfhaffpegncdiaa.Pure
/-
Rows that rise; what node.Find comes to on them.
-/
namespace Go.Proofs.Ytfhaffpegncdiaa.Pure
open Go.RowKit Go.Proofs.Ytfhaffpegncdiaa.PN Go.Proofs.YtfhaffpegncdiaaW.PrintWords Go.Proofs.YtfhaffpegncdiaaW.PrintLast Go.Proofs.YtfhaffpegncdiaaW.PrintMore
set_option linter.unusedVariables false
set_option linter.unusedSimpArgs false
def ky (l : List S41) (i : Nat) : List UInt8 := (rd_T41 l (i : Int)).f0.toList
def Asc (l : List S41) : Prop := ∀ i j : Nat, i < j → j < l.length → Op.bytesLess (ky l i) (ky l j) = true
theorem rd_left (l : List S41) (x : S41) (i : Nat) (h : i < l.length) : rd_T41 (l ++ [x]) (i : Int) = rd_T41 l (i : Int) := by
  unfold rd_T41
  rw [Int.toNat_natCast, List.getD_eq_getElem?_getD, List.getD_eq_getElem?_getD, List.getElem?_append_left h]
theorem rd_last (l : List S41) (x : S41) : rd_T41 (l ++ [x]) (l.length : Int) = x := by
  unfold rd_T41
  rw [Int.toNat_natCast, List.getD_eq_getElem?_getD, List.getElem?_append_right (Nat.le_refl _)]
  simp
theorem asc_add {l : List S41} {x : S41} (h : Asc l) (hx : 0 < l.length → Op.bytesLess (ky l (l.length - 1)) x.f0.toList = true) : Asc (l ++ [x]) := by
  intro i j hij hj
  rw [List.length_append, List.length_singleton] at hj
  have hi : i < l.length := by omega
  by_cases hjl : j < l.length
  · unfold ky
    rw [rd_left l x i hi, rd_left l x j hjl]
    exact h i j hij hjl
  · have hj2 : j = l.length := by omega
    subst hj2
    have hlast := hx (by omega)
    have e1 : ky (l ++ [x]) i = ky l i := by unfold ky; rw [rd_left l x i hi]
    have e2 : ky (l ++ [x]) l.length = x.f0.toList := by unfold ky; rw [rd_last]
    rw [e1, e2]
    by_cases h2 : i = l.length - 1
    · rw [h2]; exact hlast
    · exact less_trans _ _ _ (h i (l.length - 1) (by omega) (by omega)) hlast
/-- The place p of s in l: what stands ahead of it is below s, what stands from it on is not. -/
structure At (l : List S41) (s : List UInt8) (p : Nat) : Prop where
  le : p ≤ l.length
  lo : ∀ q, q < p → Op.bytesLess (ky l q) s = true
  hi : ∀ q, p ≤ q → q < l.length → Op.bytesLess (ky l q) s = false
end Go.Proofs.Ytfhaffpegncdiaa.Pure
/-
Small and Tame: Tame's rows rise.
-/
namespace Go.Proofs.Ytfhaffpegncdiaa.Pure
open Go.RowKit Go.Proofs.Ytfhaffpegncdiaa.PN Go.Proofs.YtfhaffpegncdiaaW.PrintWords Go.Proofs.YtfhaffpegncdiaaW.PrintLast Go.Proofs.YtfhaffpegncdiaaW.PrintMore
set_option linter.unusedVariables false
set_option linter.unusedSimpArgs false
theorem w_next (n : Nat) (h : n < 100000) : wrap64 ((n : Int) + 1) = ((n + 1 : Nat) : Int) := by unfold wrap64; omega
theorem w_prev (n : Nat) (h : 0 < n) (h2 : n < 100000) : wrap64 ((n : Int) - 1) = ((n - 1 : Nat) : Int) := by unfold wrap64; omega
theorem cut_ok (s : ByteArray) (n : Int) (hn : 0 ≤ n) : 0 ≤ mn (s.size : Int) n ∧ mn (s.size : Int) n ≤ (s.size : Int) ∧ ((s.extract 0 (mn (s.size : Int) n).toNat).size : Int) ≤ n := by
  have h : (s.extract 0 (mn (s.size : Int) n).toNat).size = min (mn (s.size : Int) n).toNat s.size := by rw [ByteArray.size_extract]; omega
  rw [h]
  unfold mn
  split <;> omega
def Short (l : List S41) : Prop := ∀ i : Nat, i < l.length → (rd_T41 l (i : Int)).f0.size ≤ 130
theorem short_add {l : List S41} {x : S41} (h : Short l) (hx : x.f0.size ≤ 130) : Short (l ++ [x]) := by
  intro i hi
  rw [List.length_append, List.length_singleton] at hi
  by_cases hil : i < l.length
  · rw [rd_left l x i hil]; exact h i hil
  · have : i = l.length := by omega
    subst this
    rw [rd_last]; exact hx
theorem plus_list (s : ByteArray) : (s ++ (⟨#[43]⟩ : ByteArray)).toList = s.toList ++ [43] := by
  rw [ByteArray.toList_eq, ByteArray.toList_eq, ByteArray.data_append, Array.toList_append]
end Go.Proofs.Ytfhaffpegncdiaa.Pure
/-
What the printed functions of the package octs come to, in plain Lean: numbers as octets and back, texts behind their lengths.
Conditions: the bounds on lengths and numbers that each lemma names.
-/
namespace Go.Proofs.Ytfhaffpegncdiaa.Pure
open Go.RowKit Go.Proofs.Ytfhaffpegncdiaa.PN Go.Proofs.YtfhaffpegncdiaaW.PrintWords Go.Proofs.YtfhaffpegncdiaaW.PrintLast Go.Proofs.YtfhaffpegncdiaaW.PrintMore
set_option linter.unusedVariables false
set_option linter.unusedSimpArgs false

/-- All of them are octets. -/
def Oct (l : List Int) : Prop := ∀ x ∈ l, 0 ≤ x ∧ x < 256
/-- A number's n lowest octets, the highest first. -/
def be : Nat → Int → List Int
  | 0, _ => []
  | n + 1, v => v / 256 ^ n % 256 :: be n v
def numA : Int → List Int → Int
  | a, [] => a
  | a, c :: l => numA (a * 256 + c) l
def num (l : List Int) : Int := numA 0 l
def wd (n : Int) : Nat := (mn (mx n 1) 8).toNat

theorem wd_ge (n : Int) : 1 ≤ wd n := by unfold wd mn mx; (repeat' split) <;> omega
theorem wd_le (n : Int) : wd n ≤ 8 := by unfold wd mn mx; (repeat' split) <;> omega
theorem wd_cast (n : Int) : mn (mx n 1) 8 = (wd n : Int) := by unfold wd mn mx; (repeat' split) <;> omega
theorem be_len (n : Nat) (v : Int) : (be n v).length = n := by
  induction n with
  | zero => rfl
  | succ n ih => simp [be, ih]
theorem be_oct (n : Nat) (v : Int) : Oct (be n v) := by
  induction n with
  | zero => intro x hx; simp [be] at hx
  | succ n ih =>
    intro x hx
    simp only [be, List.mem_cons] at hx
    rcases hx with rfl | hx
    · omega
    · exact ih x hx
theorem oct_nil : Oct [] := fun x hx => by simp at hx
theorem oct_app {a b : List Int} (ha : Oct a) (hb : Oct b) : Oct (a ++ b) := fun x hx => (List.mem_append.1 hx).elim (ha x) (hb x)
theorem oct_take {a : List Int} (ha : Oct a) (n : Nat) : Oct (a.take n) := fun x hx => ha x (List.mem_of_mem_take hx)
theorem oct_drop {a : List Int} (ha : Oct a) (n : Nat) : Oct (a.drop n) := fun x hx => ha x (List.mem_of_mem_drop hx)
theorem oct_cons {x : Int} {a : List Int} (h : Oct (x :: a)) : (0 ≤ x ∧ x < 256) ∧ Oct a := ⟨h x (by simp), fun y hy => h y (by simp [hy])⟩
theorem oct_bytesOf (s : ByteArray) : Oct (bytesOf s) := by
  intro x hx
  simp only [bytesOf, List.mem_map] at hx
  obtain ⟨b, _, rfl⟩ := hx
  have := b.toNat_lt
  omega
theorem oct_wf {l : List Int} (h : ∀ x ∈ l, (Lit.int .u8 x).wf = true) : Oct l := by
  intro x hx
  have := h x hx
  simp [Lit.wf, IntKind.min, IntKind.max, IntKind.signed, IntKind.bits] at this
  omega

theorem u64_id (n : Int) (h0 : 0 ≤ n) (h1 : n < 18446744073709551616) : IntKind.u64.wrap n = n := IntWalk.u64_in n ⟨h0, by omega⟩
theorem w64_id (n : Int) (h0 : -9223372036854775808 ≤ n) (h1 : n < 9223372036854775808) : wrap64 n = n := by unfold wrap64; omega
theorem u64_wraps (n : Int) (h0 : 0 ≤ n) (h1 : n < 2 ^ 64) : IntKind.u64.wrap n = n := u64_id n h0 (by omega)

/-- The loop of octs.Int. -/
theorem Int_l0 (v : Int) : ∀ (j : Nat) (K : Nat) (x : List Int), j ≤ 8 → j < K → x.length + j < 140737488355328 → octs_Int.l0 K x v ((j : Int) - 1) = some (x ++ be j v) := by
  intro j
  induction j with
  | zero =>
    intro K x _ hK hx
    obtain ⟨K, rfl⟩ : ∃ m, K = m + 1 := ⟨K - 1, by omega⟩
    simp only [octs_Int.l0]
    rw [if_neg (by omega)]
    simp [be]
  | succ j ih =>
    intro K x hj hK hx
    obtain ⟨K, rfl⟩ : ∃ m, K = m + 1 := ⟨K - 1, by omega⟩
    have e1 : (((j + 1 : Nat) : Int) - 1) = (j : Int) := by omega
    have e2 : IntKind.u64.wrap (wrap64 ((j : Int) * 8)) = (j : Int) * 8 := by
      rw [w64_id _ (by omega) (by omega), u64_id _ (by omega) (by omega)]
    have e3 : shr .u64 v ((j : Int) * 8) = v / 256 ^ j := by
      unfold shr
      have a1 : ((j : Int) * 8).toNat = 8 * j := by omega
      have a2 : min (8 * j) IntKind.u64.bits = 8 * j := Nat.min_eq_left (by simp only [IntKind.bits]; omega)
      rw [a1, a2, Int.pow_mul]
      rfl
    simp only [octs_Int.l0]
    rw [e1, if_pos (by omega), e2, if_pos (by omega), if_pos (by omega), e3, w64_id _ (by omega) (by omega), ih K _ (by omega) (by omega) (by simp; omega)]
    simp [be]
theorem Int_f (k : Nat) (hk : 9 ≤ k) (l : List Int) (n v : Int) (hl : l.length + 8 < 140737488355328) : octs_Int.f k l n v = some (l ++ be (wd n) v) := by
  unfold octs_Int.f slices_Clone_byte_byte.f octs_width.f
  have h8 := wd_le n
  have h1 := wd_ge n
  rw [if_pos (by omega)]
  simp only [Option.bind_some]
  rw [wd_cast, w64_id _ (by omega) (by omega)]
  exact Int_l0 v (wd n) k l h8 (by omega) (by omega)

theorem p256_le (n : Nat) (h : n ≤ 8) : (256 : Int) ^ n ≤ 18446744073709551616 := by
  have : ∀ m : Fin 9, (256 : Int) ^ m.val ≤ 18446744073709551616 := by decide
  exact this ⟨n, by omega⟩
theorem or_byte (a c : Int) (ha : 0 ≤ a) (ha2 : a * 256 < 18446744073709551616) (hc : 0 ≤ c) (hc2 : c < 256) : Go.bits .or .u64 (IntKind.u64.wrap (a * 256)) (IntKind.u64.wrap c) = a * 256 + c := by
  rw [u64_id _ (by omega) ha2, u64_id _ hc (by omega)]
  exact bits_join .u64 64 (by decide) u64_wraps 8 (a * 256) c (by omega) (by omega) (by omega) hc (by omega) (by omega)
theorem rd_at (l : List Int) (i : Nat) : rd l (i : Int) = l.getD i 0 := by simp [rd]
theorem drop_at (l : List Int) (i : Nat) (h : i < l.length) : l.drop i = l.getD i 0 :: l.drop (i + 1) := by
  rw [List.drop_eq_getElem_cons h, List.getD_eq_getElem?_getD, List.getElem?_eq_getElem h]; rfl
theorem getD_oct {l : List Int} (ho : Oct l) (i : Nat) : 0 ≤ l.getD i 0 ∧ l.getD i 0 < 256 := by
  rw [List.getD_eq_getElem?_getD]
  by_cases h : i < l.length
  · rw [List.getElem?_eq_getElem h]; exact ho _ (List.getElem_mem h)
  · rw [List.getElem?_eq_none (by omega)]; simp
/-- The loop of octs.number. -/
theorem number_l0 (l : List Int) (ho : Oct l) (hl : l.length ≤ 8) : ∀ (d i K : Nat) (a : Int), l.length - i = d → i ≤ l.length → d < K → 0 ≤ a → a < 256 ^ i → octs_number.l0 K a l (l.length : Int) (i : Int) = some (numA a (l.drop i)) := by
  intro d
  induction d with
  | zero =>
    intro i K a hd hi hK h0 h1
    obtain ⟨K, rfl⟩ : ∃ m, K = m + 1 := ⟨K - 1, by omega⟩
    simp only [octs_number.l0]
    rw [if_neg (by omega), List.drop_of_length_le (by omega)]
    rfl
  | succ d ih =>
    intro i K a hd hi hK h0 h1
    obtain ⟨K, rfl⟩ : ∃ m, K = m + 1 := ⟨K - 1, by omega⟩
    have hp : (256 : Int) ^ (i + 1) = 256 ^ i * 256 := Int.pow_succ ..
    have hq := p256_le (i + 1) (by omega)
    have hb := getD_oct ho i
    have ha : a * 256 < 18446744073709551616 := by omega
    simp only [octs_number.l0]
    rw [if_pos (by omega), if_pos (by omega), if_pos (by omega), rd_at, or_byte a _ h0 ha hb.1 hb.2, w64_id _ (by omega) (by omega)]
    have e : ((i : Int) + 1) = ((i + 1 : Nat) : Int) := by omega
    rw [e, ih (i + 1) K _ (by omega) (by omega) (by omega) (by omega) (by omega), drop_at l i (by omega)]
    rfl
theorem number_f (k : Nat) (l : List Int) (ho : Oct l) (hl : l.length ≤ 8) (hk : l.length < k) : octs_number.f k l = some (num l) := by
  unfold octs_number.f
  exact number_l0 l ho hl l.length 0 k 0 (by omega) (by omega) hk (by omega) (by decide)

theorem numA_bound (l : List Int) (ho : Oct l) : ∀ (a : Int), 0 ≤ a → 0 ≤ numA a l ∧ numA a l < (a + 1) * 256 ^ l.length := by
  induction l with
  | nil => intro a ha; simp [numA]; omega
  | cons c l ih =>
    intro a ha
    have hc := oct_cons ho
    have := ih hc.2 (a * 256 + c) (by omega)
    refine ⟨this.1, ?_⟩
    have h2 : (a * 256 + c + 1) * 256 ^ l.length ≤ ((a + 1) * 256) * 256 ^ l.length := Int.mul_le_mul_of_nonneg_right (by omega) (Int.le_of_lt (Int.pow_pos (by omega)))
    have h3 : (a + 1) * 256 ^ (c :: l).length = ((a + 1) * 256) * 256 ^ l.length := by
      simp only [List.length_cons, Int.pow_succ]
      grind
    rw [h3]
    exact Int.lt_of_lt_of_le this.2 h2
theorem num_bound (l : List Int) (ho : Oct l) : 0 ≤ num l ∧ num l < 256 ^ l.length := by
  have := numA_bound l ho 0 (by omega)
  simpa [num] using this

/-! ### the reader -/
theorem take_f (l : List Int) (n : Int) (h0 : 0 ≤ n) (hl : l.length < 140737488355328) : octs_In_take.f l false n = if (l.length : Int) < n then some ([], [], true) else some (l.take n.toNat, l.drop n.toNat, false) := by
  unfold octs_In_take.f
  rw [if_neg (by simp), if_pos h0, if_pos hl]
theorem take_bad (l : List Int) (n : Int) : octs_In_take.f l true n = some ([], [], true) := by unfold octs_In_take.f; rw [if_pos rfl]
/-- A number of n octets. -/
theorem In_Int (k : Nat) (l : List Int) (n : Int) (hk : 9 ≤ k) (ho : Oct l) (hl : l.length < 140737488355328) :
    octs_In_Int.f k l false n = if l.length < wd n then some (0, [], true) else some (num (l.take (wd n)), l.drop (wd n), false) := by
  have h8 := wd_le n
  have h1 := wd_ge n
  unfold octs_In_Int.f octs_width.f
  simp only [Option.bind_some]
  rw [wd_cast, u64_id _ (by omega) (by omega), take_f l _ (by omega) hl]
  by_cases h : l.length < wd n
  · rw [if_pos h, if_pos (by omega)]
    simp only [Option.bind_some]
    rw [number_f k [] oct_nil (by simp) (by simp; omega)]
    rfl
  · rw [if_neg h, if_neg (by omega)]
    simp only [Option.bind_some, Int.toNat_natCast]
    rw [number_f k _ (oct_take ho _) (by simp; omega) (by simp; omega)]
    rfl
theorem In_Int_bad (k : Nat) (l : List Int) (n : Int) (hk : 1 ≤ k) : octs_In_Int.f k l true n = some (0, [], true) := by
  unfold octs_In_Int.f octs_width.f
  simp only [Option.bind_some]
  rw [take_bad]
  simp only [Option.bind_some]
  rw [number_f k [] oct_nil (by simp) (by simp; omega)]
  rfl
/-- A text behind its length of n octets (n: 1 or 4). -/
def txt (l : List Int) (n : Nat) : Option (List Int × List Int) :=
  if l.length < n then none else if (l.length : Int) - n < num (l.take n) then none else some ((l.drop n).take (num (l.take n)).toNat, (l.drop n).drop (num (l.take n)).toNat)
def told (o : Option (List Int × List Int)) : List Int × List Int × Bool := match o with
  | none => ([], [], true)
  | some (a, b) => (a, b, false)
theorem meas_f (k : Nat) (l : List Int) (n : Nat) (hn : n ≤ 8) (hk : 9 ≤ k) (ho : Oct l) (hl : l.length < 140737488355328) :
    octs_In_measured.f k l false (n : Int) = some (told (txt l n)) := by
  unfold octs_In_measured.f txt
  rw [if_neg (by simp)]
  by_cases h : l.length < n
  · rw [if_pos (by omega), if_pos h, u64_id _ (by omega) (by omega), take_f l _ (by omega) hl, if_pos (by omega)]
    rfl
  · rw [if_neg (by omega), if_neg h, if_pos (by omega), Int.toNat_natCast, number_f k _ (oct_take ho _) (by simp; omega) (by simp; omega)]
    simp only [Option.bind_some]
    have hb := num_bound _ (oct_take ho n)
    by_cases h2 : (l.length : Int) - n < num (l.take n)
    · rw [if_pos h2, if_pos h2]; rfl
    · rw [if_neg h2, if_neg h2, take_f _ _ hb.1 (by simp; omega), if_neg (by simp; omega)]
      rfl
theorem meas_bad (k : Nat) (l : List Int) (n : Int) : octs_In_measured.f k l true n = some ([], [], true) := by
  unfold octs_In_measured.f; rw [if_pos rfl, take_bad]
theorem In_Short (k : Nat) (l : List Int) (hk : 9 ≤ k) (ho : Oct l) (hl : l.length < 140737488355328) :
    octs_In_Short.f k l false = some (strOfNums (told (txt l 1)).1, (told (txt l 1)).2) := by
  unfold octs_In_Short.f
  rw [show (1 : Int) = ((1 : Nat) : Int) from rfl, meas_f k l 1 (by omega) hk ho hl]
  rfl
theorem In_Short_bad (k : Nat) (l : List Int) : octs_In_Short.f k l true = some (strOfNums [], [], true) := by
  unfold octs_In_Short.f; rw [meas_bad]; rfl
end Go.Proofs.Ytfhaffpegncdiaa.Pure
/-
Octets as texts: which of two texts of the same length stands first, and when they are one.
-/
namespace Go.Proofs.Ytfhaffpegncdiaa.Pure
open Go.RowKit Go.Proofs.Ytfhaffpegncdiaa.PN Go.Proofs.YtfhaffpegncdiaaW.PrintWords Go.Proofs.YtfhaffpegncdiaaW.PrintLast Go.Proofs.YtfhaffpegncdiaaW.PrintMore
set_option linter.unusedVariables false
set_option linter.unusedSimpArgs false

end Go.Proofs.Ytfhaffpegncdiaa.Pure
/-
Masks of whole numbers, and what a rest comes to.
-/
namespace Go.Proofs.Ytfhaffpegncdiaa.Pure
open Go.RowKit Go.Proofs.Ytfhaffpegncdiaa.PN Go.Proofs.YtfhaffpegncdiaaW.PrintWords Go.Proofs.YtfhaffpegncdiaaW.PrintLast Go.Proofs.YtfhaffpegncdiaaW.PrintMore
set_option linter.unusedVariables false
set_option linter.unusedSimpArgs false
theorem and16 (x : Int) : 0 ≤ Go.bits .and .i64 x 65535 ∧ Go.bits .and .i64 x 65535 < 65536 := by
  unfold Go.bits
  have h1 : (BitVec.ofInt (IntKind.i64.bits) x &&& BitVec.ofInt (IntKind.i64.bits) 65535).toNat ≤ 65535 := by
    rw [BitVec.toNat_and]
    have : (BitVec.ofInt (IntKind.i64.bits) 65535).toNat = 65535 := by decide
    rw [this]
    exact Nat.and_le_right
  simp only []
  rw [IntKind.wrap_i64]
  omega
theorem tmod_in (x m : Int) (hx : 0 ≤ x) (hm : 0 < m) : 0 ≤ Int.tmod x m ∧ Int.tmod x m < m := ⟨Int.tmod_nonneg m hx, Int.tmod_lt_of_pos x hm⟩
end Go.Proofs.Ytfhaffpegncdiaa.Pure
/-
Tame's rows may all be, and go into a page; how many octets a node has.
-/
namespace Go.Proofs.Ytfhaffpegncdiaa.Pure
open Go.RowKit Go.Proofs.Ytfhaffpegncdiaa.PN Go.Proofs.YtfhaffpegncdiaaW.PrintWords Go.Proofs.YtfhaffpegncdiaaW.PrintLast Go.Proofs.YtfhaffpegncdiaaW.PrintMore
set_option linter.unusedVariables false
set_option linter.unusedSimpArgs false
def rowOk (lf : Bool) (x : S41) : Prop := 1 ≤ x.f0.size ∧ x.f0.size ≤ 130 ∧ (lf = true → x.f1.size ≤ 20 ∧ x.f2 = 0) ∧ (lf = false → x.f1 = ⟨#[]⟩ ∧ 2 ≤ x.f2 ∧ x.f2 ≤ 65537)
def rowLen (lf : Bool) (x : S41) : Nat := if lf = true then 2 + x.f0.size + x.f1.size else 5 + x.f0.size
def rowsLen (lf : Bool) : List S41 → Nat
  | [] => 0
  | x :: l => rowLen lf x + rowsLen lf l
theorem rowLen_le {lf : Bool} {x : S41} (h : rowOk lf x) : rowLen lf x ≤ 152 := by
  obtain ⟨h0, h1, h2, h3⟩ := h
  unfold rowLen
  cases lf with
  | true => rw [if_pos rfl]; have := (h2 rfl).1; omega
  | false => rw [if_neg (by decide)]; omega
theorem rowsLen_le {lf : Bool} {l : List S41} (h : ∀ x ∈ l, rowOk lf x) : rowsLen lf l ≤ 152 * l.length := by
  induction l with
  | nil => simp [rowsLen]
  | cons x l ih =>
    have h1 := rowLen_le (h x List.mem_cons_self)
    have h2 := ih (fun y hy => h y (List.mem_cons_of_mem _ hy))
    simp only [rowsLen, List.length_cons]
    omega
theorem rd_get (l : List S41) (i : Nat) (h : i < l.length) : rd_T41 l (i : Int) = l[i] := by
  unfold rd_T41
  rw [Int.toNat_natCast, List.getD_eq_getElem?_getD, List.getElem?_eq_getElem h]
  rfl
theorem rowsLen_drop (lf : Bool) (l : List S41) (j : Nat) (h : j < l.length) : rowsLen lf (l.drop j) = rowLen lf (rd_T41 l (j : Int)) + rowsLen lf (l.drop (j + 1)) := by
  rw [rd_get l j h, List.drop_eq_getElem_cons h, rowsLen]
theorem w_four (v a b : Nat) (h : v + a + b < 1000000) : wrap64 ((wrap64 ((wrap64 ((wrap64 ((wrap64 ((v : Int) + 1)) + (a : Int))) + 4)) - 3)) + (b : Int)) = ((v + (2 + a + b) : Nat) : Int) := by unfold wrap64; omega
theorem w_five (v a : Nat) (h : v + a < 1000000) : wrap64 ((wrap64 ((wrap64 ((v : Int) + 1)) + (a : Int))) + 4) = ((v + (5 + a) : Nat) : Int) := by unfold wrap64; omega
theorem size_val (lf : Bool) (l : List S41) (hl : l.length ≤ 100) (hg : ∀ x ∈ l, rowOk lf x) : ∀ (d j k v : Nat), l.length - j = d → j ≤ l.length → d < k → v + rowsLen lf (l.drop j) ≤ 100000 →
    waybillref7_NodeSize.l0 k (v : Int) (j : Int) lf l = some ((v + rowsLen lf (l.drop j) : Nat) : Int) := by
  intro d
  induction d with
  | zero =>
    intro j k v hd hj hk hv
    obtain ⟨k, rfl⟩ : ∃ k', k = k' + 1 := ⟨k - 1, by omega⟩
    rw [waybillref7_NodeSize.l0, if_neg (by omega), show l.drop j = [] from List.drop_eq_nil_of_le (by omega)]
    rfl
  | succ d ih =>
    intro j k v hd hj hk hv
    obtain ⟨k, rfl⟩ : ∃ k', k = k' + 1 := ⟨k - 1, by omega⟩
    have hjl : j < l.length := by omega
    rw [rowsLen_drop lf l j hjl] at hv ⊢
    have hr := rowLen_le (hg _ (show rd_T41 l (j : Int) ∈ l by rw [rd_get l j hjl]; exact List.getElem_mem hjl))
    rw [waybillref7_NodeSize.l0, if_pos (by omega), if_pos (by omega), w_next j (by omega)]
    unfold rowLen at hv hr ⊢
    cases lf with
    | true =>
      rw [if_pos rfl] at hv hr ⊢
      rw [if_pos rfl, w_four v _ _ (by omega), ih (j + 1) k _ (by omega) (by omega) (by omega) (by omega), Nat.add_assoc]
    | false =>
      rw [if_neg (by decide)] at hv hr ⊢
      rw [if_neg (by decide), w_five v _ (by omega), ih (j + 1) k _ (by omega) (by omega) (by omega) (by omega), Nat.add_assoc]
def valOk (lf : Bool) (V : ByteArray) (P : Int) : Prop := (lf = true → V.size ≤ 20 ∧ P = 0) ∧ (lf = false → V = ⟨#[]⟩ ∧ 2 ≤ P ∧ P ≤ 65537)
def TamedG (lf : Bool) (r : List S41) : Prop := Asc r ∧ r.length ≤ 40 ∧ (∀ x ∈ r, rowOk lf x) ∧ 3 + rowsLen lf r ≤ 512
theorem k_one (s : ByteArray) : 1 ≤ ((⟨#[107]⟩ : ByteArray) ++ s).size := by
  rw [ByteArray.size_append]
  show 1 ≤ 1 + _
  omega
theorem page_in (x : Int) : 2 ≤ wrap64 (2 + (Go.bits .and .i64 x 65535)) ∧ wrap64 (2 + (Go.bits .and .i64 x 65535)) ≤ 65537 := by
  have h := and16 x
  generalize Go.bits .and .i64 x 65535 = y at *
  unfold wrap64
  omega
theorem tameg_j4 (l : List S41) (lf : Bool) (i k : Nat) (acc : List S41) (K V : ByteArray) (P : Int) (hi : i < 40) (ha : Asc acc) (hs : Short acc) (hg : ∀ x ∈ acc, rowOk lf x) (hn : 3 + rowsLen lf acc ≤ 512) (hVP : valOk lf V P) (hK1 : 1 ≤ K.size) (hc : acc.length ≤ i) (hK : 0 < acc.length → Op.bytesLess (ky acc (acc.length - 1)) K.toList = true) (hk : 100 ≤ k)
    (ih : ∀ y : List S41, Asc y → Short y → (∀ x ∈ y, rowOk lf x) → 3 + rowsLen lf y ≤ 512 → y.length ≤ i + 1 → ∃ r, waybilllaw10_Tame.l0 k ((i + 1 : Nat) : Int) lf l lf y = some (lf, r) ∧ TamedG lf r) :
    ∃ r, waybilllaw10_Tame.j4 (k + 1) (i : Int) lf l lf acc K V P = some (lf, r) ∧ TamedG lf r := by
  rw [waybilllaw10_Tame.j4]
  by_cases h1 : (K.size : Int) > 130
  · rw [if_pos h1]; exact ⟨acc, rfl, ha, by omega, hg, hn⟩
  · have hlen : (acc ++ [(⟨K, V, P⟩ : S41)]).length = acc.length + 1 := by rw [List.length_append, List.length_singleton]
    have ha2 : Asc (acc ++ [(⟨K, V, P⟩ : S41)]) := asc_add ha hK
    have hs2 : Short (acc ++ [(⟨K, V, P⟩ : S41)]) := short_add hs (show K.size ≤ 130 by omega)
    have hro : rowOk lf (⟨K, V, P⟩ : S41) := ⟨hK1, (show K.size ≤ 130 by omega), hVP.1, hVP.2⟩
    have hg2 : ∀ x ∈ acc ++ [(⟨K, V, P⟩ : S41)], rowOk lf x := by
      intro x hx
      rcases List.mem_append.1 hx with h | h
      · exact hg x h
      · rw [List.mem_singleton] at h; rw [h]; exact hro
    have htake : (acc ++ [(⟨K, V, P⟩ : S41)]).take acc.length = acc := List.take_left' rfl
    rw [if_neg h1, if_pos (by omega), Option.bind_some]
    generalize acc ++ [(⟨K, V, P⟩ : S41)] = y at *
    have hrl := rowsLen_le hg2
    have ht := size_val lf y (by omega) hg2 y.length 0 k 3 (by omega) (by omega) (by omega) (by rw [List.drop_zero]; omega)
    rw [List.drop_zero] at ht
    have ht' : waybillref7_NodeSize.f k lf y = some ((3 + rowsLen lf y : Nat) : Int) := ht
    rw [ht', Option.bind_some]
    by_cases h2 : ((3 + rowsLen lf y : Nat) : Int) > 512
    · rw [if_pos h2, w_prev y.length (by omega) (by omega), if_pos (by omega), if_pos (by omega), Int.toNat_natCast, show y.length - 1 = acc.length by omega, htake]
      exact ⟨acc, rfl, ha, by omega, hg, hn⟩
    · rw [if_neg h2, w_next i (by omega)]
      exact ih y ha2 hs2 hg2 (by omega) (by omega)
theorem tameg_j2 (l : List S41) (lf : Bool) (i k : Nat) (acc : List S41) (K V : ByteArray) (P : Int) (hi : i < 40) (ha : Asc acc) (hs : Short acc) (hg : ∀ x ∈ acc, rowOk lf x) (hn : 3 + rowsLen lf acc ≤ 512) (hVP : valOk lf V P) (hK1 : 1 ≤ K.size) (hc : acc.length ≤ i) (hk : 100 ≤ k)
    (ih : ∀ y : List S41, Asc y → Short y → (∀ x ∈ y, rowOk lf x) → 3 + rowsLen lf y ≤ 512 → y.length ≤ i + 1 → ∃ r, waybilllaw10_Tame.l0 k ((i + 1 : Nat) : Int) lf l lf y = some (lf, r) ∧ TamedG lf r) :
    ∃ r, waybilllaw10_Tame.j2 (k + 1 + 1 + 1) (i : Int) lf l lf acc K V P = some (lf, r) ∧ TamedG lf r := by
  rw [waybilllaw10_Tame.j2]
  by_cases h0 : acc.length = 0
  · rw [if_neg (by omega), waybilllaw10_Tame.j3, if_neg (by decide)]
    exact tameg_j4 l lf i k acc K V P hi ha hs hg hn hVP hK1 hc (fun h => by omega) hk ih
  · rw [if_pos (by omega), w_prev acc.length (by omega) (by omega), if_pos (by omega), if_pos (by omega), waybilllaw10_Tame.j3]
    have hky : (rd_T41 acc ((acc.length - 1 : Nat) : Int)).f0.toList = ky acc (acc.length - 1) := rfl
    rw [hky]
    cases hb : Op.bytesLess (ky acc (acc.length - 1)) K.toList with
    | true =>
      rw [if_neg (by decide)]
      exact tameg_j4 l lf i k acc K V P hi ha hs hg hn hVP hK1 hc (fun _ => hb) hk ih
    | false =>
      have hz := hs (acc.length - 1) (by omega)
      rw [if_pos (by decide), w_prev acc.length (by omega) (by omega), if_pos (by omega), if_pos (by omega), if_pos (by omega)]
      refine tameg_j4 l lf i k acc _ V P hi ha hs hg hn hVP (by rw [ByteArray.size_append]; show 1 ≤ _ + 1; omega) hc (fun _ => ?_) hk ih
      rw [plus_list]
      exact less_plus _
theorem tameg_l0 (l : List S41) (lf : Bool) (hl : l.length ≤ 200) : ∀ (d i k : Nat) (acc : List S41), 40 - i ≤ d → i ≤ 40 → Asc acc → Short acc → (∀ x ∈ acc, rowOk lf x) → 3 + rowsLen lf acc ≤ 512 → acc.length ≤ i → 5 * d + 200 ≤ k → ∃ r, waybilllaw10_Tame.l0 k (i : Int) lf l lf acc = some (lf, r) ∧ TamedG lf r := by
  intro d
  induction d with
  | zero =>
    intro i k acc hd hi ha hs hg hn hc hk
    obtain ⟨k, rfl⟩ : ∃ k', k = k' + 1 + 1 := ⟨k - 2, by omega⟩
    rw [waybilllaw10_Tame.l0]
    have e : decide ((i : Int) < 40) = false := decide_eq_false (by omega)
    refine ⟨acc, ?_, ha, by omega, hg, hn⟩
    split
    · rw [e, waybilllaw10_Tame.j1, if_neg (by decide)]
    · rw [waybilllaw10_Tame.j1, if_neg (by decide)]
  | succ d ih =>
    intro i k acc hd hi ha hs hg hn hc hk
    obtain ⟨k, rfl⟩ : ∃ k', k = k' + 1 + 1 + 1 + 1 + 1 := ⟨k - 5, by omega⟩
    rw [waybilllaw10_Tame.l0]
    by_cases h1 : (i : Int) < (l.length : Int)
    · rw [if_pos h1]
      by_cases h2 : i < 40
      · have ca := cut_ok (rd_T41 l (i : Int)).f0 100 (by omega)
        have cb := cut_ok (rd_T41 l (i : Int)).f1 20 (by omega)
        rw [decide_eq_true (by omega), waybilllaw10_Tame.j1, if_pos rfl, if_pos (by omega), if_pos h1, if_pos ca.1, if_pos ca.2.1, if_pos (by omega), if_pos cb.1, if_pos cb.2.1]
        have step := fun y (hy : Asc y) (hy2 : Short y) (hg2 : ∀ x ∈ y, rowOk lf x) (hn2 : 3 + rowsLen lf y ≤ 512) (hy3 : y.length ≤ i + 1) => ih (i + 1) k y (by omega) (by omega) hy hy2 hg2 hn2 hy3 (by omega)
        cases lf with
        | true => rw [if_pos rfl]; exact tameg_j2 l true i k acc _ _ _ h2 ha hs hg hn ⟨fun _ => ⟨by omega, rfl⟩, fun h => Bool.noConfusion h⟩ (k_one _) hc (by omega) step
        | false => rw [if_neg (by decide)]; exact tameg_j2 l false i k acc _ _ _ h2 ha hs hg hn ⟨fun h => Bool.noConfusion h, fun _ => ⟨rfl, page_in _⟩⟩ (k_one _) hc (by omega) step
      · refine ⟨acc, ?_, ha, by omega, hg, hn⟩
        rw [decide_eq_false (by omega), waybilllaw10_Tame.j1, if_neg (by decide)]
    · refine ⟨acc, ?_, ha, by omega, hg, hn⟩
      rw [if_neg h1, waybilllaw10_Tame.j1, if_neg (by decide)]
theorem tameg_f (l : List S41) (lf : Bool) (hl : l.length ≤ 200) (k : Nat) (hk : 400 ≤ k) : ∃ r, waybilllaw10_Tame.f k lf l = some (lf, r) ∧ TamedG lf r := by
  unfold waybilllaw10_Tame.f
  exact tameg_l0 l lf hl 40 0 k [] (by omega) (by omega) (fun i j _ h => by simp at h) (fun i h => by simp at h) (fun x h => by simp at h) (by simp [rowsLen]) (by simp) (by omega)
end Go.Proofs.Ytfhaffpegncdiaa.Pure
/-
What Tame makes may be, has the size that its rows have, and is itself.
-/
namespace Go.Proofs.Ytfhaffpegncdiaa.Pure
open Go.RowKit Go.Proofs.Ytfhaffpegncdiaa.PN Go.Proofs.YtfhaffpegncdiaaW.PrintWords Go.Proofs.YtfhaffpegncdiaaW.PrintLast Go.Proofs.YtfhaffpegncdiaaW.PrintMore
set_option linter.unusedVariables false
set_option linter.unusedSimpArgs false
theorem size_zero (s : ByteArray) : s.toList = [] ↔ s.size = 0 := by
  rw [← List.length_eq_zero_iff, ByteArray.toList_eq, Array.length_toList]
  rfl
theorem w_rowT (a b : Nat) (h : a + b < 1000000) : wrap64 ((wrap64 (2 + (a : Int))) + (b : Int)) = ((2 + a + b : Nat) : Int) := by unfold wrap64; omega
theorem w_rowF (a : Nat) (h : a < 1000000) : wrap64 (5 + (a : Int)) = ((5 + a : Nat) : Int) := by unfold wrap64; omega
theorem w_add (a b : Nat) (h : a + b < 1000000) : wrap64 ((a : Int) + (b : Int)) = ((a + b : Nat) : Int) := by unfold wrap64; omega
theorem rd_mem (l : List S41) (j : Nat) (h : j < l.length) : rd_T41 l (j : Int) ∈ l := by rw [rd_get l j h]; exact List.getElem_mem h
end Go.Proofs.Ytfhaffpegncdiaa.Pure
/-
Any rows of a node: the program's answer and the document's, on their size and on whether they may be, are one.
-/
namespace Go.Proofs.Ytfhaffpegncdiaa.Pure
open Go.RowKit Go.Proofs.Ytfhaffpegncdiaa.PN Go.Proofs.YtfhaffpegncdiaaW.PrintWords Go.Proofs.YtfhaffpegncdiaaW.PrintLast Go.Proofs.YtfhaffpegncdiaaW.PrintMore
set_option linter.unusedVariables false
set_option linter.unusedSimpArgs false
/-- Rows that are not too many, and not too long. -/
def RB (l : List S41) : Prop := l.length ≤ 400 ∧ ∀ x ∈ l, x.f0.size ≤ 1000 ∧ x.f1.size ≤ 1000
theorem rowLen_B (lf : Bool) {x : S41} (h : x.f0.size ≤ 1000 ∧ x.f1.size ≤ 1000) : rowLen lf x ≤ 2002 := by
  unfold rowLen
  split <;> omega
theorem rowsLen_B (lf : Bool) : ∀ {l : List S41}, (∀ x ∈ l, x.f0.size ≤ 1000 ∧ x.f1.size ≤ 1000) → rowsLen lf l ≤ 2002 * l.length
  | [], _ => by simp [rowsLen]
  | x :: l, h => by
    have h1 := rowLen_B lf (h x List.mem_cons_self)
    have h2 := rowsLen_B lf (fun y hy => h y (List.mem_cons_of_mem x hy))
    simp only [rowsLen, List.length_cons]
    omega
theorem rd_B {l : List S41} (h : RB l) (j : Nat) (hj : j < l.length) : (rd_T41 l (j : Int)).f0.size ≤ 1000 ∧ (rd_T41 l (j : Int)).f1.size ≤ 1000 := h.2 _ (rd_mem l j hj)
theorem drop_B (lf : Bool) {l : List S41} (h : RB l) (j : Nat) : rowsLen lf (l.drop j) ≤ 900000 := by
  have h1 := rowsLen_B lf (l := l.drop j) (fun x hx => h.2 x (List.mem_of_mem_drop hx))
  have h2 := h.1
  rw [List.length_drop] at h1
  omega
theorem rowSizeB_f (lf : Bool) (l : List S41) (x : S41) (h : x.f0.size ≤ 1000 ∧ x.f1.size ≤ 1000) : node_rowSize.f lf l x.f0 x.f1 x.f2 = some ((rowLen lf x : Nat) : Int) := by
  unfold node_rowSize.f rowLen
  cases lf with
  | true => rw [if_pos rfl, if_pos rfl, w_rowT _ _ (by omega)]
  | false => rw [if_neg (by decide), if_neg (by decide), w_rowF _ (by omega)]
theorem SizeB_l0 (lf : Bool) (l : List S41) (h : RB l) : ∀ (d j k v : Nat), l.length - j = d → j ≤ l.length → d < k → v + rowsLen lf (l.drop j) ≤ 900100 →
    node_Size.l0 k (v : Int) l (l.length : Int) (j : Int) lf l = some ((v + rowsLen lf (l.drop j) : Nat) : Int) := by
  have hl := h.1
  intro d
  induction d with
  | zero =>
    intro j k v hd hj hk hv
    obtain ⟨k, rfl⟩ : ∃ k', k = k' + 1 := ⟨k - 1, by omega⟩
    rw [node_Size.l0, if_neg (by omega), show l.drop j = [] from List.drop_eq_nil_of_le (by omega)]
    rfl
  | succ d ih =>
    intro j k v hd hj hk hv
    obtain ⟨k, rfl⟩ : ∃ k', k = k' + 1 := ⟨k - 1, by omega⟩
    have hjl : j < l.length := by omega
    rw [rowsLen_drop lf l j hjl] at hv ⊢
    rw [node_Size.l0, if_pos (by omega), if_pos (by omega), if_pos (by omega), rowSizeB_f lf l _ (rd_B h j hjl), Option.bind_some, w_add _ _ (by omega), w_next j (by omega), ih (j + 1) k _ (by omega) (by omega) (by omega) (by omega), Nat.add_assoc]
theorem SizeB_f (lf : Bool) (l : List S41) (h : RB l) (k : Nat) (hk : 500 ≤ k) : node_Size.f k lf l = some ((3 + rowsLen lf l : Nat) : Int) := by
  have hb := drop_B lf h 0
  have hl := h.1
  have h := SizeB_l0 lf l h l.length 0 k 3 (by omega) (by omega) (by omega) (by omega)
  rw [List.drop_zero] at h
  exact h
theorem RSizeB_l0 (lf : Bool) (l : List S41) (h : RB l) : ∀ (d j k v : Nat), l.length - j = d → j ≤ l.length → d < k → v + rowsLen lf (l.drop j) ≤ 900100 →
    waybillref7_NodeSize.l0 k (v : Int) (j : Int) lf l = some ((v + rowsLen lf (l.drop j) : Nat) : Int) := by
  have hl := h.1
  intro d
  induction d with
  | zero =>
    intro j k v hd hj hk hv
    obtain ⟨k, rfl⟩ : ∃ k', k = k' + 1 := ⟨k - 1, by omega⟩
    rw [waybillref7_NodeSize.l0, if_neg (by omega), show l.drop j = [] from List.drop_eq_nil_of_le (by omega)]
    rfl
  | succ d ih =>
    intro j k v hd hj hk hv
    obtain ⟨k, rfl⟩ : ∃ k', k = k' + 1 := ⟨k - 1, by omega⟩
    have hjl : j < l.length := by omega
    rw [rowsLen_drop lf l j hjl] at hv ⊢
    have hr := rowLen_B lf (rd_B h j hjl)
    rw [waybillref7_NodeSize.l0, if_pos (by omega), if_pos (by omega), w_next j (by omega)]
    unfold rowLen at hv hr ⊢
    cases lf with
    | true =>
      rw [if_pos rfl] at hv hr ⊢
      rw [if_pos rfl, w_four v _ _ (by omega), ih (j + 1) k _ (by omega) (by omega) (by omega) (by omega), Nat.add_assoc]
    | false =>
      rw [if_neg (by decide)] at hv hr ⊢
      rw [if_neg (by decide), w_five v _ (by omega), ih (j + 1) k _ (by omega) (by omega) (by omega) (by omega), Nat.add_assoc]
theorem RSizeB_f (lf : Bool) (l : List S41) (h : RB l) (k : Nat) (hk : 500 ≤ k) : waybillref7_NodeSize.f k lf l = some ((3 + rowsLen lf l : Nat) : Int) := by
  have hb := drop_B lf h 0
  have hl := h.1
  have h := RSizeB_l0 lf l h l.length 0 k 3 (by omega) (by omega) (by omega) (by omega)
  rw [List.drop_zero] at h
  exact h
/-! ### which rows may be -/
def rowP (lf : Bool) (x : S41) : Prop := 1 ≤ x.f0.size ∧ x.f0.size ≤ 130 ∧ (lf = true → x.f1.size ≤ 20 ∧ x.f2 = 0) ∧ (lf = false → x.f1.size = 0 ∧ 2 ≤ x.f2 ∧ x.f2 ≤ 4294967295)
instance (lf : Bool) (x : S41) : Decidable (rowP lf x) := by unfold rowP; infer_instance
theorem goodU_f (k : Nat) (hk : 1 ≤ k) (lf : Bool) (l : List S41) (x : S41) : node_good.f k lf l x.f0 x.f1 x.f2 = some (decide (rowP lf x)) := by
  obtain ⟨k, rfl⟩ : ∃ j, k = j + 1 := ⟨k - 1, by omega⟩
  have z0 := size_zero x.f0
  have z1 := size_zero x.f1
  unfold node_good.f
  by_cases h0 : x.f0.toList = []
  · rw [if_pos h0, node_good.j0, if_pos rfl, decide_eq_false (fun h => by have := z0.1 h0; have := h.1; omega)]
  · have h1 : 1 ≤ x.f0.size := by
      by_cases e : x.f0.size = 0
      · exact absurd (z0.2 e) h0
      · omega
    rw [if_neg h0, node_good.j0]
    by_cases h2 : x.f0.size ≤ 130
    · rw [decide_eq_false (show ¬ (x.f0.size : Int) > 130 by omega), if_neg (by decide)]
      cases lf with
      | true =>
        rw [if_pos rfl]
        by_cases h3 : x.f1.size ≤ 20
        · rw [if_pos (by omega)]
          by_cases h4 : x.f2 = 0
          · rw [decide_eq_true (show rowP true x from ⟨h1, h2, fun _ => ⟨h3, h4⟩, fun h => Bool.noConfusion h⟩), h4]; rfl
          · rw [decide_eq_false (fun h : rowP true x => h4 (h.2.2.1 rfl).2), beq_eq_false_iff_ne.2 h4]
        · rw [if_neg (by omega), decide_eq_false (fun h : rowP true x => h3 (h.2.2.1 rfl).1)]
      | false =>
        rw [if_neg (by decide)]
        by_cases h3 : x.f1.size = 0
        · rw [if_pos (z1.2 h3)]
          by_cases h4 : 2 ≤ x.f2
          · rw [if_pos h4]
            by_cases h5 : x.f2 ≤ 4294967295
            · rw [decide_eq_true (show rowP false x from ⟨h1, h2, fun h => Bool.noConfusion h, fun _ => ⟨h3, h4, h5⟩⟩), decide_eq_true h5]
            · rw [decide_eq_false (fun h : rowP false x => h5 (h.2.2.2 rfl).2.2), decide_eq_false h5]
          · rw [if_neg (by omega), decide_eq_false (fun h : rowP false x => h4 (h.2.2.2 rfl).2.1)]
        · rw [if_neg (fun e => h3 (z1.1 e)), decide_eq_false (fun h : rowP false x => h3 (h.2.2.2 rfl).1)]
    · rw [decide_eq_true (show (x.f0.size : Int) > 130 by omega), if_pos rfl, decide_eq_false (fun h => h2 h.2.1)]
def ascAt (l : List S41) (j : Nat) : Bool := decide (j = 0) || Op.bytesLess (rd_T41 l ((j - 1 : Nat) : Int)).f0.toList (rd_T41 l (j : Int)).f0.toList
def okFrom (lf : Bool) (l : List S41) : Nat → Nat → Bool
  | 0, _ => true
  | d + 1, j => decide (rowP lf (rd_T41 l (j : Int))) && (ascAt l j && okFrom lf l d (j + 1))
def okEnd (lf : Bool) (l : List S41) : Bool := (lf || decide (0 < l.length)) && decide (3 + rowsLen lf l ≤ 512)
def okU (lf : Bool) (l : List S41) : Bool := okFrom lf l l.length 0 && okEnd lf l
theorem OkB_l0 (lf : Bool) (l : List S41) (h : RB l) : ∀ (d j k : Nat), l.length - j = d → j ≤ l.length → d + 600 < k →
    node_Ok.l0 k l (l.length : Int) (j : Int) lf l = some (okFrom lf l d j && okEnd lf l) := by
  have hl := h.1
  intro d
  induction d with
  | zero =>
    intro j k hd hj hk
    obtain ⟨k, rfl⟩ : ∃ k', k = k' + 1 := ⟨k - 1, by omega⟩
    have e : decide (((3 + rowsLen lf l : Nat) : Int) ≤ 512) = decide (3 + rowsLen lf l ≤ 512) := by
      by_cases q : 3 + rowsLen lf l ≤ 512
      · rw [decide_eq_true q, decide_eq_true (by omega)]
      · rw [decide_eq_false q, decide_eq_false (by omega)]
    rw [node_Ok.l0, if_neg (by omega), SizeB_f lf l h k (by omega), Option.bind_some, e, okFrom, Bool.true_and, okEnd]
    cases lf with
    | true => rw [if_pos rfl]; rfl
    | false =>
      rw [if_neg (by decide)]
      by_cases h : 0 < l.length
      · rw [if_pos (by omega), decide_eq_true h]; rfl
      · rw [if_neg (by omega), decide_eq_false h]; rfl
  | succ d ih =>
    intro j k hd hj hk
    obtain ⟨k, rfl⟩ : ∃ k', k = k' + 1 := ⟨k - 1, by omega⟩
    have hjl : j < l.length := by omega
    have step := ih (j + 1) k (by omega) (by omega) (by omega)
    rw [node_Ok.l0, if_pos (by omega), if_pos (by omega), if_pos (by omega), goodU_f k (by omega) lf l _, Option.bind_some, okFrom]
    by_cases hp : rowP lf (rd_T41 l (j : Int))
    · rw [decide_eq_true hp, if_pos rfl, w_next j (by omega), Bool.true_and]
      by_cases h0 : j = 0
      · rw [if_neg (by omega), step, show ascAt l j = true by unfold ascAt; rw [decide_eq_true h0]; rfl, Bool.true_and]
      · have ea : ascAt l j = Op.bytesLess (rd_T41 l ((j - 1 : Nat) : Int)).f0.toList (rd_T41 l (j : Int)).f0.toList := by unfold ascAt; rw [decide_eq_false h0]; rfl
        rw [if_pos (by omega), w_prev j (by omega) (by omega), if_pos (by omega), if_pos (by omega), ea]
        cases hb : Op.bytesLess (rd_T41 l ((j - 1 : Nat) : Int)).f0.toList (rd_T41 l (j : Int)).f0.toList with
        | true => rw [if_pos rfl, step, Bool.true_and]
        | false => rw [if_neg (by decide)]; rfl
    · rw [decide_eq_false hp, if_neg (by decide)]; rfl
theorem OkB_f (lf : Bool) (l : List S41) (h : RB l) (k : Nat) (hk : 1100 ≤ k) : node_Ok.f k lf l = some (okU lf l) := by
  have hl := h.1
  exact OkB_l0 lf l h l.length 0 k (by omega) (by omega) (by omega)
theorem ROk_j1 (k j : Nat) (b lf : Bool) (l : List S41) (x : S41) (h1 : 1 ≤ x.f0.size) (h2 : x.f0.size ≤ 130) :
    waybillref7_NodeOk.j1 (k + 1) (j : Int) b lf l x.f0 x.f1 x.f2 = if b = true then some false else if rowP lf x then waybillref7_NodeOk.l0 k (wrap64 ((j : Int) + 1)) lf l else some false := by
  have z1 := size_zero x.f1
  rw [waybillref7_NodeOk.j1]
  cases b with
  | true => rw [if_pos rfl, if_pos rfl]
  | false =>
    rw [if_neg (show ¬ (false = true) by decide), if_neg (show ¬ (false = true) by decide)]
    cases lf with
    | true =>
      rw [if_pos rfl]
      by_cases h3 : x.f1.size ≤ 20
      · rw [if_neg (by omega)]
        by_cases h4 : x.f2 = 0
        · rw [if_pos h4, if_pos (show rowP true x from ⟨h1, h2, fun _ => ⟨h3, h4⟩, fun h => Bool.noConfusion h⟩)]
        · rw [if_neg h4, if_neg (fun h : rowP true x => h4 (h.2.2.1 rfl).2)]
      · rw [if_pos (by omega), if_neg (fun h : rowP true x => h3 (h.2.2.1 rfl).1)]
    | false =>
      rw [if_neg (show ¬ (false = true) by decide)]
      by_cases h3 : x.f1.size = 0
      · rw [if_pos (z1.2 h3)]
        by_cases h4 : 2 ≤ x.f2
        · rw [if_neg (by omega)]
          by_cases h5 : x.f2 ≤ 4294967295
          · rw [if_neg (by omega), if_pos (show rowP false x from ⟨h1, h2, fun h => Bool.noConfusion h, fun _ => ⟨h3, h4, h5⟩⟩)]
          · rw [if_pos (by omega), if_neg (fun h : rowP false x => h5 (h.2.2.2 rfl).2.2)]
        · rw [if_pos (by omega), if_neg (fun h : rowP false x => h4 (h.2.2.2 rfl).2.1)]
      · rw [if_neg (fun e => h3 (z1.1 e)), if_neg (fun h : rowP false x => h3 (h.2.2.2 rfl).1)]
theorem ROkB_l0 (lf : Bool) (l : List S41) (h : RB l) : ∀ (d j k : Nat), l.length - j = d → j ≤ l.length → 2 * d + 600 < k →
    waybillref7_NodeOk.l0 k (j : Int) lf l = some (okFrom lf l d j && okEnd lf l) := by
  have hl := h.1
  intro d
  induction d with
  | zero =>
    intro j k hd hj hk
    obtain ⟨k, rfl⟩ : ∃ k', k = k' + 1 := ⟨k - 1, by omega⟩
    rw [waybillref7_NodeOk.l0, if_neg (by omega), RSizeB_f lf l h k (by omega), Option.bind_some, okFrom, Bool.true_and, okEnd]
    by_cases q : 3 + rowsLen lf l ≤ 512
    · rw [if_pos (by omega), decide_eq_true q, Bool.and_true]
      cases lf with
      | true => rw [if_pos rfl]; rfl
      | false =>
        rw [if_neg (by decide)]
        by_cases h : 0 < l.length
        · rw [decide_eq_true h, decide_eq_true (by omega)]; rfl
        · rw [decide_eq_false h, decide_eq_false (by omega)]; rfl
    · rw [if_neg (by omega), decide_eq_false q, Bool.and_false]
  | succ d ih =>
    intro j k hd hj hk
    obtain ⟨k, rfl⟩ : ∃ k', k = k' + 1 + 1 := ⟨k - 2, by omega⟩
    have hjl : j < l.length := by omega
    have step := ih (j + 1) k (by omega) (by omega) (by omega)
    rw [waybillref7_NodeOk.l0, if_pos (by omega), if_pos (by omega), okFrom]
    by_cases h1 : ((rd_T41 l (j : Int)).f0.size : Int) < 1
    · rw [if_pos h1, waybillref7_NodeOk.j1, if_pos rfl, decide_eq_false (fun h : rowP lf (rd_T41 l (j : Int)) => by have := h.1; omega)]; rfl
    rw [if_neg h1]
    by_cases h2 : ((rd_T41 l (j : Int)).f0.size : Int) > 130
    · rw [if_pos h2, waybillref7_NodeOk.j1, if_pos rfl, decide_eq_false (fun h : rowP lf (rd_T41 l (j : Int)) => by have := h.2.1; omega)]; rfl
    rw [if_neg h2]
    have fin : ∀ b : Bool, b = !(ascAt l j) → waybillref7_NodeOk.j1 (k + 1) (j : Int) b lf l (rd_T41 l (j : Int)).f0 (rd_T41 l (j : Int)).f1 (rd_T41 l (j : Int)).f2 = some (decide (rowP lf (rd_T41 l (j : Int))) && (ascAt l j && okFrom lf l d (j + 1)) && okEnd lf l) := by
      intro b hb
      rw [ROk_j1 k j b lf l _ (by omega) (by omega), w_next j (by omega), step]
      subst hb
      cases ha : ascAt l j with
      | false =>
        rw [if_pos (show (!false) = true from rfl), Bool.false_and, Bool.and_false, Bool.false_and]
      | true =>
        rw [if_neg (show ¬ ((!true) = true) by decide), Bool.true_and]
        by_cases hp : rowP lf (rd_T41 l (j : Int))
        · rw [if_pos hp, decide_eq_true hp, Bool.true_and]
        · rw [if_neg hp, decide_eq_false hp, Bool.false_and, Bool.false_and]
    by_cases h0 : j = 0
    · rw [if_neg (by omega)]
      exact fin false (by unfold ascAt; rw [decide_eq_true h0]; rfl)
    · rw [if_pos (by omega), w_prev j (by omega) (by omega), if_pos (by omega), if_pos (by omega)]
      exact fin _ (by unfold ascAt; rw [decide_eq_false h0, Bool.false_or])
theorem ROkB_f (lf : Bool) (l : List S41) (h : RB l) (k : Nat) (hk : 1500 ≤ k) : waybillref7_NodeOk.f k lf l = some (okU lf l) := by
  have hl := h.1
  exact ROkB_l0 lf l h l.length 0 k (by omega) (by omega) (by omega)
theorem okFrom_all (lf : Bool) (l : List S41) : ∀ (d j : Nat), okFrom lf l d j = true → ∀ i, j ≤ i → i < j + d → rowP lf (rd_T41 l (i : Int)) := by
  intro d
  induction d with
  | zero => intro j _ i h1 h2; omega
  | succ d ih =>
    intro j h i h1 h2
    rw [okFrom, Bool.and_eq_true, Bool.and_eq_true] at h
    by_cases e : i = j
    · rw [e]; exact of_decide_eq_true h.1
    · exact ih (j + 1) h.2.2 i (by omega) (by omega)
theorem okU_rows {lf : Bool} {l : List S41} (h : okU lf l = true) : ∀ x ∈ l, rowP lf x := by
  intro x hx
  obtain ⟨i, hi, e⟩ := List.getElem_of_mem hx
  unfold okU at h
  rw [Bool.and_eq_true] at h
  have := okFrom_all lf l l.length 0 h.1 i (by omega) (by omega)
  rw [rd_get l i hi, e] at this
  exact this
theorem okU_len {lf : Bool} {l : List S41} (h : okU lf l = true) : 3 + rowsLen lf l ≤ 512 := by
  unfold okU okEnd at h
  rw [Bool.and_eq_true, Bool.and_eq_true] at h
  exact of_decide_eq_true h.2.2
theorem sameB_l0 (lf : Bool) (l : List S41) (hl : l.length ≤ 400) : ∀ (d j k : Nat), l.length - j = d → j ≤ l.length → d < k → waybilllaw10_Same.l0 k (j : Int) lf l lf l = some true := by
  intro d
  induction d with
  | zero =>
    intro j k hd hj hk
    obtain ⟨k, rfl⟩ : ∃ k', k = k' + 1 := ⟨k - 1, by omega⟩
    rw [waybilllaw10_Same.l0, if_neg (by omega)]
  | succ d ih =>
    intro j k hd hj hk
    obtain ⟨k, rfl⟩ : ∃ k', k = k' + 1 := ⟨k - 1, by omega⟩
    rw [waybilllaw10_Same.l0, if_pos (by omega), if_pos (by omega), if_pos (by omega), if_neg (by simp), w_next j (by omega)]
    exact ih (j + 1) k (by omega) (by omega) (by omega)
theorem sameB_f (lf : Bool) (l : List S41) (hl : l.length ≤ 400) (k : Nat) (hk : 500 ≤ k) : waybilllaw10_Same.f k lf l lf l = some true := by
  obtain ⟨k, rfl⟩ : ∃ j, k = j + 1 := ⟨k - 1, by omega⟩
  unfold waybilllaw10_Same.f
  rw [if_neg (by simp), show ((l.length : Int) != (l.length : Int)) = false by simp, waybilllaw10_Same.j0, if_neg (by decide)]
  exact sameB_l0 lf l hl l.length 0 k (by omega) (by omega) (by omega)
end Go.Proofs.Ytfhaffpegncdiaa.Pure
/-
Octets that were written are read as they were: numbers and texts at the head of a row.
-/
namespace Go.Proofs.Ytfhaffpegncdiaa.Pure
open Go.RowKit Go.Proofs.Ytfhaffpegncdiaa.PN Go.Proofs.YtfhaffpegncdiaaW.PrintWords Go.Proofs.YtfhaffpegncdiaaW.PrintLast Go.Proofs.YtfhaffpegncdiaaW.PrintMore
set_option linter.unusedVariables false
set_option linter.unusedSimpArgs false
theorem bytesOf_len (s : ByteArray) : (bytesOf s).length = s.size := by unfold bytesOf; rw [List.length_map, Array.length_toList]; rfl
theorem Short_f (k : Nat) (l : List Int) (s : ByteArray) (hk : 9 ≤ k) (hl : l.length + 600 < 140737488355328) :
    octs_Short.f k l s = if s.size ≤ 255 then some (l ++ (be 1 (s.size : Int) ++ bytesOf s), true) else some (l, false) := by
  unfold octs_Short.f slices_Clone_byte_byte.f
  by_cases h : s.size ≤ 255
  · have h1 : wd 1 = 1 := by decide
    have h2 := be_len 1 (s.size : Int)
    rw [if_neg (by omega), if_pos h, u64_id _ (by omega) (by omega), Int_f k hk l 1 _ (by omega), h1]
    simp only [Option.bind_some]
    rw [if_pos (by simp [h2]; omega), List.append_assoc]
  · rw [if_pos (by omega), if_neg h, if_pos (by omega)]
    rfl
end Go.Proofs.Ytfhaffpegncdiaa.Pure
/-
A node's octets, and that they are read as they were told, whatever noughts stand behind.
-/
namespace Go.Proofs.Ytfhaffpegncdiaa.Pure
open Go.RowKit Go.Proofs.Ytfhaffpegncdiaa.PN Go.Proofs.YtfhaffpegncdiaaW.PrintWords Go.Proofs.YtfhaffpegncdiaaW.PrintLast Go.Proofs.YtfhaffpegncdiaaW.PrintMore
set_option linter.unusedVariables false
set_option linter.unusedSimpArgs false
def txO (s : ByteArray) : List Int := be 1 (s.size : Int) ++ bytesOf s
def rowOct (lf : Bool) (x : S41) : List Int := txO x.f0 ++ (if lf = true then txO x.f1 else be 4 x.f2)
def rowsOct (lf : Bool) : List S41 → List Int
  | [] => []
  | x :: l => rowOct lf x ++ rowsOct lf l
def nodeOct (lf : Bool) (l : List S41) : List Int := be 1 (if lf = true then 1 else 2) ++ (be 2 (l.length : Int) ++ rowsOct lf l)
theorem txO_len (s : ByteArray) : (txO s).length = 1 + s.size := by unfold txO; rw [List.length_append, be_len, bytesOf_len]
theorem txO_oct (s : ByteArray) : Oct (txO s) := oct_app (be_oct _ _) (oct_bytesOf _)
theorem rowOct_len (lf : Bool) (x : S41) : (rowOct lf x).length = rowLen lf x := by
  unfold rowOct rowLen
  rw [List.length_append, txO_len]
  cases lf with
  | true => rw [if_pos rfl, if_pos rfl, txO_len]; omega
  | false => rw [if_neg (by decide), if_neg (by decide), be_len]; omega
theorem rowOct_oct (lf : Bool) (x : S41) : Oct (rowOct lf x) := by
  unfold rowOct
  refine oct_app (txO_oct _) ?_
  split
  · exact txO_oct _
  · exact be_oct _ _
theorem rowsOct_len (lf : Bool) (l : List S41) : (rowsOct lf l).length = rowsLen lf l := by
  induction l with
  | nil => rfl
  | cons x l ih => rw [rowsOct, rowsLen, List.length_append, rowOct_len, ih]
theorem rowsOct_oct (lf : Bool) (l : List S41) : Oct (rowsOct lf l) := by
  induction l with
  | nil => exact oct_nil
  | cons x l ih => exact oct_app (rowOct_oct lf x) ih
theorem rowsOct_drop (lf : Bool) (l : List S41) (j : Nat) (h : j < l.length) : rowsOct lf (l.drop j) = rowOct lf (rd_T41 l (j : Int)) ++ rowsOct lf (l.drop (j + 1)) := by
  rw [rd_get l j h, List.drop_eq_getElem_cons h, rowsOct]
theorem nodeOct_len (lf : Bool) (l : List S41) : (nodeOct lf l).length = 3 + rowsLen lf l := by
  unfold nodeOct
  rw [List.length_append, List.length_append, be_len, be_len, rowsOct_len]; omega
theorem short_step (k : Nat) (hk : 9 ≤ k) (acc : List Int) (s : ByteArray) (hs : s.size ≤ 255) (ha : acc.length ≤ 100000) : octs_Short.f k acc s = some (acc ++ txO s, true) := by
  rw [Short_f k acc s hk (by omega), if_pos hs]
  rfl
end Go.Proofs.Ytfhaffpegncdiaa.Pure
/-
The document's own writing of a number.
-/
namespace Go.Proofs.Ytfhaffpegncdiaa.Pure
open Go.RowKit Go.Proofs.Ytfhaffpegncdiaa.PN Go.Proofs.YtfhaffpegncdiaaW.PrintWords Go.Proofs.YtfhaffpegncdiaaW.PrintLast Go.Proofs.YtfhaffpegncdiaaW.PrintMore
set_option linter.unusedVariables false
set_option linter.unusedSimpArgs false
theorem Put_l0 (v : Int) : ∀ (j : Nat) (K : Nat) (x : List Int), j ≤ 8 → j < K → x.length + j < 140737488355328 → waybillref1_Put.l0 K v x ((j : Int) - 1) = some (x ++ be j v) := by
  intro j
  induction j with
  | zero =>
    intro K x _ hK hx
    obtain ⟨K, rfl⟩ : ∃ m, K = m + 1 := ⟨K - 1, by omega⟩
    simp only [waybillref1_Put.l0]
    rw [if_neg (by omega)]
    simp [be]
  | succ j ih =>
    intro K x hj hK hx
    obtain ⟨K, rfl⟩ : ∃ m, K = m + 1 := ⟨K - 1, by omega⟩
    have e1 : (((j + 1 : Nat) : Int) - 1) = (j : Int) := by omega
    have e2 : IntKind.u64.wrap (wrap64 (8 * (j : Int))) = (j : Int) * 8 := by
      rw [w64_id _ (by omega) (by omega), u64_id _ (by omega) (by omega)]; omega
    have e3 : shr .u64 v ((j : Int) * 8) = v / 256 ^ j := by
      unfold shr
      have a1 : ((j : Int) * 8).toNat = 8 * j := by omega
      have a2 : min (8 * j) IntKind.u64.bits = 8 * j := Nat.min_eq_left (by simp only [IntKind.bits]; omega)
      rw [a1, a2, Int.pow_mul]
      rfl
    simp only [waybillref1_Put.l0]
    rw [e1, if_pos (by omega), e2, if_pos (by omega), if_pos (by omega), e3, w64_id _ (by omega) (by omega), ih K _ (by omega) (by omega) (by simp; omega)]
    simp [be]
theorem Put_f (k : Nat) (hk : 9 ≤ k) (l : List Int) (n : Nat) (v : Int) (hn : n ≤ 8) (hl : l.length + 8 < 140737488355328) : waybillref1_Put.f k l (n : Int) v = some (l ++ be n v) := by
  unfold waybillref1_Put.f
  rw [Option.bind_some, if_pos (by simp; omega), List.nil_append, w64_id _ (by omega) (by omega)]
  exact Put_l0 v n k l hn (by omega) (by omega)
end Go.Proofs.Ytfhaffpegncdiaa.Pure
/-
Any rows of a node: the program's octets and the document's are one.
-/
namespace Go.Proofs.Ytfhaffpegncdiaa.Pure
open Go.RowKit Go.Proofs.Ytfhaffpegncdiaa.PN Go.Proofs.YtfhaffpegncdiaaW.PrintWords Go.Proofs.YtfhaffpegncdiaaW.PrintLast Go.Proofs.YtfhaffpegncdiaaW.PrintMore
set_option linter.unusedVariables false
set_option linter.unusedSimpArgs false
theorem RShort_n (k : Nat) (hk : 12 ≤ k) (l : List Int) (s : ByteArray) (hs : s.size ≤ 255) (hl : l.length ≤ 100000) : waybillref1_Short.f k l s = some (l ++ txO s) := by
  unfold waybillref1_Short.f txO
  have h2 := be_len 1 (s.size : Int)
  rw [u64_id _ (by omega) (by omega), show (1 : Int) = ((1 : Nat) : Int) from rfl, Put_f k (by omega) l 1 _ (by omega) (by omega), Option.bind_some, if_pos (by rw [List.length_append, h2]; omega), List.append_assoc]
theorem appB_l0 (lf : Bool) (l : List S41) (h : RB l) (hg : ∀ x ∈ l, rowP lf x) : ∀ (d j k : Nat) (acc : List Int), l.length - j = d → j ≤ l.length → d + 20 < k → acc.length + rowsLen lf (l.drop j) ≤ 50000 →
    node_Append.l0 k acc l (l.length : Int) (j : Int) lf l = some (acc ++ rowsOct lf (l.drop j), true) := by
  have hl := h.1
  intro d
  induction d with
  | zero =>
    intro j k acc hd hj hk hv
    obtain ⟨k, rfl⟩ : ∃ k', k = k' + 1 := ⟨k - 1, by omega⟩
    rw [node_Append.l0, if_neg (by omega), show l.drop j = [] from List.drop_eq_nil_of_le (by omega), rowsOct, List.append_nil]
  | succ d ih =>
    intro j k acc hd hj hk hv
    obtain ⟨k, rfl⟩ : ∃ k', k = k' + 1 := ⟨k - 1, by omega⟩
    have hjl : j < l.length := by omega
    have hro := hg _ (rd_mem l j hjl)
    have hrl := rowOct_len lf (rd_T41 l (j : Int))
    rw [rowsLen_drop lf l j hjl] at hv
    rw [rowsOct_drop lf l j hjl]
    have step := ih (j + 1) k (acc ++ rowOct lf (rd_T41 l (j : Int))) (by omega) (by omega) (by omega) (by rw [List.length_append]; omega)
    obtain ⟨h0, h1, h2, h3⟩ := hro
    have t0 := txO_len (rd_T41 l (j : Int)).f0
    rw [node_Append.l0, if_pos (by omega), if_pos (by omega), if_pos (by omega), short_step k (by omega) acc _ (by omega) (by omega), Option.bind_some]
    dsimp only
    unfold rowOct at step ⊢
    cases lf with
    | true =>
      have h2 := (h2 rfl).1
      rw [if_pos rfl] at step ⊢
      rw [if_pos rfl, short_step k (by omega) _ _ (by omega) (by rw [List.length_append]; omega), Option.bind_some, w_next j (by omega), List.append_assoc, step]
      simp only [List.append_assoc]
    | false =>
      obtain ⟨_, h4, h5⟩ := h3 rfl
      have w4 : wd 4 = 4 := by decide
      rw [if_neg (by decide)] at step ⊢
      rw [if_neg (by decide), u64_id _ (by omega) (by omega), Int_f k (by omega) _ 4 _ (by rw [List.length_append]; omega), w4, Option.bind_some, w_next j (by omega), List.append_assoc, step]
      simp only [List.append_assoc]
theorem appB_f (lf : Bool) (l : List S41) (h : RB l) (k : Nat) (hk : 1200 ≤ k) : node_Append.f k lf l = some (if okU lf l = true then (nodeOct lf l, true) else ([], false)) := by
  have hl := h.1
  unfold node_Append.f
  rw [OkB_f lf l h k (by omega), Option.bind_some]
  by_cases hb : okU lf l = true
  · have hg := okU_rows hb
    have hn := okU_len hb
    obtain ⟨k, rfl⟩ : ∃ j, k = j + 1 := ⟨k - 1, by omega⟩
    rw [if_pos hb, if_pos hb]
    have w1 : wd 1 = 1 := by decide
    have w2 : wd 2 = 2 := by decide
    have fin : ∀ v : Int, node_Append.j0 (k + 1) v lf l = some (be 1 v ++ (be 2 (l.length : Int) ++ rowsOct lf l), true) := by
      intro v
      rw [node_Append.j0, Int_f k (by omega) [] 1 v (by simp), w1, Option.bind_some, List.nil_append, u64_id _ (by omega) (by omega), Int_f k (by omega) _ 2 _ (by rw [be_len]; omega), w2, Option.bind_some]
      have step := appB_l0 lf l h hg l.length 0 k (be 1 v ++ be 2 (l.length : Int)) (by omega) (by omega) (by omega) (by rw [List.length_append, be_len, be_len, List.drop_zero]; omega)
      rw [List.drop_zero, List.append_assoc] at step
      exact step
    unfold nodeOct
    cases lf with
    | true => rw [if_pos rfl, if_pos rfl]; exact fin 1
    | false => rw [if_neg (by decide), if_neg (by decide)]; exact fin 2
  · rw [if_neg hb, if_neg hb]
theorem RNode_l0 (lf : Bool) (l : List S41) (h : RB l) (hg : ∀ x ∈ l, rowP lf x) : ∀ (d j k : Nat) (acc : List Int), l.length - j = d → j ≤ l.length → d + 20 < k → acc.length + rowsLen lf (l.drop j) ≤ 50000 →
    waybillref7_Node.l0 k acc (j : Int) lf l = some (acc ++ rowsOct lf (l.drop j)) := by
  have hl := h.1
  intro d
  induction d with
  | zero =>
    intro j k acc hd hj hk hv
    obtain ⟨k, rfl⟩ : ∃ k', k = k' + 1 := ⟨k - 1, by omega⟩
    rw [waybillref7_Node.l0, if_neg (by omega), show l.drop j = [] from List.drop_eq_nil_of_le (by omega), rowsOct, List.append_nil]
  | succ d ih =>
    intro j k acc hd hj hk hv
    obtain ⟨k, rfl⟩ : ∃ k', k = k' + 1 := ⟨k - 1, by omega⟩
    have hjl : j < l.length := by omega
    have hro := hg _ (rd_mem l j hjl)
    have hrl := rowOct_len lf (rd_T41 l (j : Int))
    rw [rowsLen_drop lf l j hjl] at hv
    rw [rowsOct_drop lf l j hjl]
    have step := ih (j + 1) k (acc ++ rowOct lf (rd_T41 l (j : Int))) (by omega) (by omega) (by omega) (by rw [List.length_append]; omega)
    obtain ⟨h0, h1, h2, h3⟩ := hro
    have t0 := txO_len (rd_T41 l (j : Int)).f0
    rw [waybillref7_Node.l0, if_pos (by omega), if_pos (by omega), RShort_n k (by omega) acc _ (by omega) (by omega), Option.bind_some]
    unfold rowOct at step ⊢
    cases lf with
    | true =>
      have h2 := (h2 rfl).1
      rw [if_pos rfl] at step ⊢
      rw [if_pos rfl, RShort_n k (by omega) _ _ (by omega) (by rw [List.length_append]; omega), Option.bind_some, w_next j (by omega), List.append_assoc, step]
      simp only [List.append_assoc]
    | false =>
      obtain ⟨_, h4, h5⟩ := h3 rfl
      rw [if_neg (by decide)] at step ⊢
      rw [if_neg (by decide), u64_id _ (by omega) (by omega), show (4 : Int) = ((4 : Nat) : Int) from rfl, Put_f k (by omega) _ 4 _ (by omega) (by rw [List.length_append]; omega), Option.bind_some, w_next j (by omega), List.append_assoc, step]
      simp only [List.append_assoc]
theorem RNode_f (lf : Bool) (l : List S41) (h : RB l) (hb : okU lf l = true) (k : Nat) (hk : 1200 ≤ k) : waybillref7_Node.f k lf l = some (nodeOct lf l) := by
  have hl := h.1
  unfold waybillref7_Node.f
  have hg := okU_rows hb
  have hn := okU_len hb
  obtain ⟨k, rfl⟩ : ∃ j, k = j + 1 := ⟨k - 1, by omega⟩
  have fin : ∀ v : Int, waybillref7_Node.j0 (k + 1) v lf l = some (be 1 v ++ (be 2 (l.length : Int) ++ rowsOct lf l)) := by
    intro v
    rw [waybillref7_Node.j0, show (1 : Int) = ((1 : Nat) : Int) from rfl, Put_f k (by omega) [] 1 v (by omega) (by simp), Option.bind_some, List.nil_append, u64_id _ (by omega) (by omega), show (2 : Int) = ((2 : Nat) : Int) from rfl, Put_f k (by omega) _ 2 _ (by omega) (by rw [be_len]; omega), Option.bind_some]
    have step := RNode_l0 lf l h hg l.length 0 k (be 1 v ++ be 2 (l.length : Int)) (by omega) (by omega) (by omega) (by rw [List.length_append, be_len, be_len, List.drop_zero]; omega)
    rw [List.drop_zero, List.append_assoc] at step
    exact step
  unfold nodeOct
  cases lf with
  | true => rw [if_pos rfl, if_pos rfl]; exact fin 1
  | false => rw [if_neg (by decide), if_neg (by decide)]; exact fin 2
theorem nodeOct_oct (lf : Bool) (l : List S41) : Oct (nodeOct lf l) := oct_app (be_oct _ _) (oct_app (be_oct _ _) (rowsOct_oct lf l))
end Go.Proofs.Ytfhaffpegncdiaa.Pure
/-
The document's own reading of a number, from a place on.
-/
namespace Go.Proofs.Ytfhaffpegncdiaa.Pure
open Go.RowKit Go.Proofs.Ytfhaffpegncdiaa.PN Go.Proofs.YtfhaffpegncdiaaW.PrintWords Go.Proofs.YtfhaffpegncdiaaW.PrintLast Go.Proofs.YtfhaffpegncdiaaW.PrintMore
set_option linter.unusedVariables false
set_option linter.unusedSimpArgs false
theorem Num_l0 (l : List Int) (a n : Nat) (ho : Oct l) (hn : n ≤ 8) (ha : a + n ≤ l.length) (hl : l.length < 140737488355328) : ∀ (d i K : Nat) (v : Int), n - i = d → i ≤ n → d < K → 0 ≤ v → v < 256 ^ i →
    waybillref1_Num.l0 K l (a : Int) (n : Int) v (i : Int) = some (numA v ((l.drop (a + i)).take d), true) := by
  intro d
  induction d with
  | zero =>
    intro i K v hd hi hk h0 hv
    obtain ⟨K, rfl⟩ : ∃ j, K = j + 1 := ⟨K - 1, by omega⟩
    rw [waybillref1_Num.l0, if_neg (by omega)]
    simp [numA]
  | succ d ih =>
    intro i K v hd hi hk h0 hv
    obtain ⟨K, rfl⟩ : ∃ j, K = j + 1 := ⟨K - 1, by omega⟩
    have hp : (256 : Int) ^ (i + 1) ≤ 18446744073709551616 := p256_le (i + 1) (by omega)
    have hps : (256 : Int) ^ (i + 1) = 256 ^ i * 256 := Int.pow_succ _ _
    rw [waybillref1_Num.l0, if_pos (by omega), w64_id ((a : Int) + i) (by omega) (by omega), if_pos (by omega), if_pos (by omega)]
    rw [show (a : Int) + (i : Int) = ((a + i : Nat) : Int) by omega, rd_at]
    have hb := getD_oct ho (a + i)
    rw [or_byte v _ h0 (by omega) hb.1 hb.2, w64_id _ (by omega) (by omega), show (i : Int) + 1 = ((i + 1 : Nat) : Int) by omega]
    rw [ih (i + 1) K _ (by omega) (by omega) (by omega) (by omega) (by omega)]
    rw [drop_at l (a + i) (by omega), List.take_succ_cons, numA, show a + i + 1 = a + (i + 1) by omega]
theorem Num_f (k : Nat) (hk : 12 ≤ k) (l : List Int) (a n : Nat) (ho : Oct l) (hn : n ≤ 8) (hl : l.length < 140737488355328) (ha : a < 140737488355328) :
    waybillref1_Num.f k l (a : Int) (n : Int) = some (if a + n ≤ l.length then (num ((l.drop a).take n), true) else (0, false)) := by
  obtain ⟨k, rfl⟩ : ∃ j, k = j + 1 := ⟨k - 1, by omega⟩
  unfold waybillref1_Num.f
  rw [if_neg (by omega), w64_id _ (by omega) (by omega), waybillref1_Num.j0]
  by_cases h : a + n ≤ l.length
  · rw [if_pos h, decide_eq_false (by omega), if_neg (by simp)]
    have := Num_l0 l a n ho hn h hl n 0 k 0 (by omega) (by omega) (by omega) (by omega) (by simp)
    simpa [num] using this
  · rw [if_neg h, decide_eq_true (by omega), if_pos rfl]
end Go.Proofs.Ytfhaffpegncdiaa.Pure
/-
The document's own reading of a text behind its length, from a place on; rests.
-/
namespace Go.Proofs.Ytfhaffpegncdiaa.Pure
open Go.RowKit Go.Proofs.Ytfhaffpegncdiaa.PN Go.Proofs.YtfhaffpegncdiaaW.PrintWords Go.Proofs.YtfhaffpegncdiaaW.PrintLast Go.Proofs.YtfhaffpegncdiaaW.PrintMore
set_option linter.unusedVariables false
set_option linter.unusedSimpArgs false
/-- What a text's octets are, and where what follows begins. -/
def rtxt (l : List Int) (a n : Nat) : List Int × Int × Bool := match txt (l.drop a) n with
  | none => ([], 0, false)
  | some (x, r) => (x, (a : Int) + n + x.length, true)
theorem txt_some {l : List Int} {n : Nat} {x r : List Int} (h : txt l n = some (x, r)) : n + x.length ≤ l.length ∧ x = (l.drop n).take x.length ∧ r = l.drop (n + x.length) := by
  unfold txt at h
  by_cases h1 : l.length < n
  · rw [if_pos h1] at h; cases h
  rw [if_neg h1] at h
  by_cases h2 : (l.length : Int) - n < num (l.take n)
  · rw [if_pos h2] at h; cases h
  rw [if_neg h2] at h
  simp only [Option.some.injEq, Prod.mk.injEq] at h
  obtain ⟨rfl, rfl⟩ := h
  have hl : ((l.drop n).take (num (l.take n)).toNat).length = (num (l.take n)).toNat := by rw [List.length_take, List.length_drop]; omega
  rw [hl]
  exact ⟨by omega, rfl, by rw [List.drop_drop]⟩
theorem rtxt_no {l : List Int} {a n : Nat} (h : txt (l.drop a) n = none) : rtxt l a n = ([], 0, false) := by unfold rtxt; rw [h]
theorem rtxt_yes {l : List Int} {a n : Nat} {x r : List Int} (h : txt (l.drop a) n = some (x, r)) : rtxt l a n = (x, (a : Int) + n + x.length, true) := by unfold rtxt; rw [h]
theorem txt_none1 {l : List Int} {n : Nat} (h : l.length < n) : txt l n = none := by unfold txt; rw [if_pos h]
theorem txt_none2 {l : List Int} {n : Nat} (h : ¬ l.length < n) (h2 : (l.length : Int) - n < num (l.take n)) : txt l n = none := by unfold txt; rw [if_neg h, if_pos h2]
theorem txt_yes {l : List Int} {n : Nat} (h : ¬ l.length < n) (h2 : ¬ (l.length : Int) - n < num (l.take n)) : txt l n = some ((l.drop n).take (num (l.take n)).toNat, (l.drop n).drop (num (l.take n)).toNat) := by unfold txt; rw [if_neg h, if_neg h2]
theorem w_left (a n l : Int) (h0 : 0 ≤ a) (h1 : 0 ≤ n) (h2 : a + n ≤ l) (h3 : l < 100000000) : IntKind.u64.wrap (wrap64 (wrap64 (l - a) - n)) = l - a - n := by
  rw [w64_id (l - a) (by omega) (by omega), w64_id (l - a - n) (by omega) (by omega), u64_id _ (by omega) (by omega)]
theorem w_sum (a n : Int) (h0 : 0 ≤ a) (h1 : 0 ≤ n) (h2 : a + n < 100000000) : wrap64 (a + n) = a + n := w64_id _ (by omega) (by omega)
theorem w_one (a : Int) (h0 : 0 ≤ a) (h2 : a < 100000000) : wrap64 a = a := w64_id _ (by omega) (by omega)
theorem cut_text (l : List Int) (a n X : Nat) : (l.take ((a : Int) + n + X).toNat).drop ((a : Int) + n).toNat = ((l.drop a).drop n).take (X : Int).toNat := by
  rw [show ((a : Int) + n + X).toNat = a + n + X by omega, show ((a : Int) + n).toNat = a + n by omega, List.drop_take, List.drop_drop, show a + n + X - (a + n) = (X : Int).toNat by omega]
theorem Text_f (k : Nat) (hk : 12 ≤ k) (l : List Int) (a n : Nat) (ho : Oct l) (hn : n ≤ 8) (hl : l.length < 100000000) (ha : a ≤ l.length) :
    waybillref1_Text.f k l (a : Int) (n : Int) = some (rtxt l a n) := by
  unfold waybillref1_Text.f
  rw [Num_f k hk l a n ho hn (by omega) (by omega), Option.bind_some]
  have hdl : (l.drop a).length = l.length - a := List.length_drop
  by_cases h : a + n ≤ l.length
  · have hlt : ((l.drop a).take n).length = n := by rw [List.length_take]; omega
    have hb := (num_bound _ (oct_take (oct_drop ho a) n)).1
    have hn1 : ¬ (l.drop a).length < n := by omega
    have hsub : ((l.drop a).length : Int) - n = (l.length : Int) - a - n := by omega
    have e1 := w_left (a : Int) n l.length (by omega) (by omega) (by omega) (by omega)
    have e2 := w_sum (a : Int) n (by omega) (by omega) (by omega)
    by_cases h2 : num ((l.drop a).take n) > (l.length : Int) - a - n
    · rw [rtxt_no (txt_none2 hn1 (by rw [hsub]; exact h2)), if_pos h]
      simp only [if_true]
      rw [e1, e2, if_pos h2]
    · have hy := txt_yes hn1 (by rw [hsub]; exact h2)
      obtain ⟨X, hX⟩ : ∃ X, num ((l.drop a).take n) = X := ⟨_, rfl⟩
      rw [hX] at hb hy h2
      clear e1 e2 hsub
      obtain ⟨x, rfl⟩ : ∃ x : Nat, X = x := ⟨X.toNat, by omega⟩
      have q1 : (0 : Int) ≤ (a : Int) + n := by omega
      have q2 : (a : Int) + n ≤ (a : Int) + n + x := by omega
      have q3 : (a : Int) + n + x ≤ (l.length : Int) := by omega
      have e7 : (((l.drop a).drop n).take (x : Int).toNat).length = x := by rw [List.length_take, List.length_drop]; omega
      have z0 : (0 : Int) ≤ (a : Int) := by omega
      have z1 : (0 : Int) ≤ (n : Int) := by omega
      have z2 : (0 : Int) ≤ (x : Int) := by omega
      have z3 : (a : Int) + n ≤ (l.length : Int) := by omega
      have z4 : (l.length : Int) < 100000000 := by omega
      have z5 : (a : Int) + n < 100000000 := by omega
      have z6 : (x : Int) < 100000000 := by omega
      have z7 : (a : Int) + n + x < 100000000 := by omega
      have e1 := w_left (a : Int) n l.length z0 z1 z3 z4
      have e2 := w_sum (a : Int) n z0 z1 z5
      have e4 := w_one (x : Int) z2 z6
      have e5 := w_sum ((a : Int) + n) x q1 z2 z7
      rw [rtxt_yes hy, if_pos h]
      simp only [if_true]
      rw [e1, e2, hX, if_neg h2, if_pos q1, e4, e5, if_pos q2, if_pos q3, cut_text, e7]
  · rw [if_neg h, rtxt_no (txt_none1 (by omega))]
    rfl
theorem In_Rest (l : List Int) (hl : l.length < 140737488355328) : octs_In_Rest.f l false = some (l, [], false) := by
  unfold octs_In_Rest.f
  rw [u64_id _ (by omega) (by omega), take_f l _ (by omega) hl, if_neg (by omega), Option.bind_some]
  simp
theorem In_Rest_bad (l : List Int) : octs_In_Rest.f l true = some ([], [], true) := by
  unfold octs_In_Rest.f
  rw [take_bad]
  rfl
end Go.Proofs.Ytfhaffpegncdiaa.Pure
/-
Any octets: the node that the program reads and the node that the document reads are one, or there is none for both.
-/
namespace Go.Proofs.Ytfhaffpegncdiaa.Pure
open Go.RowKit Go.Proofs.Ytfhaffpegncdiaa.PN Go.Proofs.YtfhaffpegncdiaaW.PrintWords Go.Proofs.YtfhaffpegncdiaaW.PrintLast Go.Proofs.YtfhaffpegncdiaaW.PrintMore
set_option linter.unusedVariables false
set_option linter.unusedSimpArgs false
theorem str_size (l : List Int) : (strOfNums l).size = l.length := by
  show (strOfNums l).data.size = _
  rw [← Array.length_toList, strOfNums_data, List.length_map]
def rowU (lf : Bool) (l : List Int) : Option (S41 × List Int) :=
  match txt l 1 with
  | none => none
  | some (a, r) =>
    if lf = true then
      (match txt r 1 with
      | none => none
      | some (b, r2) => some (⟨strOfNums a, strOfNums b, 0⟩, r2))
    else if r.length < 4 then none else some (⟨strOfNums a, ⟨#[]⟩, num (r.take 4)⟩, r.drop 4)
def rowsU (lf : Bool) : Nat → List Int → List S41 → Option (List S41 × List Int)
  | 0, l, acc => some (acc, l)
  | n + 1, l, acc => match rowU lf l with
    | none => none
    | some (x, r) => rowsU lf n r (acc ++ [x])
def endU (lf : Bool) (rows : List S41) (rest : List Int) : Bool × List S41 × Bool := if (rest.all (fun x => x == 0) && okU lf rows) = true then (lf, rows, true) else (false, [], false)
def resU (c lf : Bool) : Option (List S41 × List Int) → Bool × List S41 × Bool
  | none => (false, [], false)
  | some (rows, rest) => if c = true then endU lf rows rest else (false, [], false)
theorem rowU_no1 {lf : Bool} {l : List Int} (h : txt l 1 = none) : rowU lf l = none := by unfold rowU; rw [h]
theorem rowU_leaf {l a r : List Int} (h : txt l 1 = some (a, r)) : rowU true l = (match txt r 1 with
      | none => none
      | some (b, r2) => some (⟨strOfNums a, strOfNums b, 0⟩, r2)) := by unfold rowU; rw [h]; rfl
theorem rowU_inner {l a r : List Int} (h : txt l 1 = some (a, r)) : rowU false l = if r.length < 4 then none else some (⟨strOfNums a, ⟨#[]⟩, num (r.take 4)⟩, r.drop 4) := by unfold rowU; rw [h]; rfl
theorem rowsU_no {lf : Bool} {l : List Int} (n : Nat) (acc : List S41) (h : rowU lf l = none) : rowsU lf (n + 1) l acc = none := by rw [rowsU, h]
theorem rowsU_yes {lf : Bool} {l r : List Int} {x : S41} (n : Nat) (acc : List S41) (h : rowU lf l = some (x, r)) : rowsU lf (n + 1) l acc = rowsU lf n r (acc ++ [x]) := by rw [rowsU, h]
/-- Rows so far, and what is left to be read. -/
def Acc (acc : List S41) (n : Nat) : Prop := 2 * acc.length + n ≤ 720 ∧ ∀ x ∈ acc, x.f0.size ≤ 1000 ∧ x.f1.size ≤ 1000
theorem Acc.rb {acc : List S41} {n : Nat} (h : Acc acc n) : RB acc := ⟨by have := h.1; omega, h.2⟩
theorem Acc.add {acc : List S41} {n m : Nat} (h : Acc acc n) (hm : m + 2 ≤ n) {x : S41} (hx : x.f0.size ≤ 1000 ∧ x.f1.size ≤ 1000) : Acc (acc ++ [x]) m := by
  refine ⟨by have := h.1; rw [List.length_append, List.length_singleton]; omega, ?_⟩
  intro y hy
  rcases List.mem_append.1 hy with h1 | h1
  · exact h.2 y h1
  · rw [List.mem_singleton] at h1; rw [h1]; exact hx
/-! ### the program -/
theorem zB_l1 (lf : Bool) (rows : List S41) (h : RB rows) (rest : List Int) (hr : rest.length ≤ 1000) : ∀ (d i k : Nat) (x9 : Bool), rest.length - i = d → i ≤ rest.length → d + 1200 < k →
    node_Parse.l1 k x9 rest (rest.length : Int) (i : Int) lf rows = some (if (x9 && ((rest.drop i).all (fun x => x == 0) && okU lf rows)) = true then (lf, rows, true) else (false, [], false)) := by
  intro d
  induction d with
  | zero =>
    intro i k x9 hd hi hk
    obtain ⟨k, rfl⟩ : ∃ k', k = k' + 1 := ⟨k - 1, by omega⟩
    rw [node_Parse.l1, if_neg (by omega), show rest.drop i = [] from List.drop_eq_nil_of_le (by omega), List.all_nil, Bool.true_and]
    cases x9 with
    | true =>
      rw [if_pos rfl, OkB_f lf rows h k (by omega), Option.bind_some, Bool.true_and]
      split <;> rfl
    | false => rw [if_neg (by decide), Bool.false_and, if_neg (by decide)]
  | succ d ih =>
    intro i k x9 hd hi hk
    obtain ⟨k, rfl⟩ : ∃ k', k = k' + 1 := ⟨k - 1, by omega⟩
    have hil : i < rest.length := by omega
    rw [node_Parse.l1, if_pos (by omega), if_pos (by omega), if_pos (by omega), w_next i (by omega), drop_at rest i hil, List.all_cons, rd_at]
    cases x9 with
    | true => rw [if_pos rfl, ih (i + 1) k _ (by omega) (by omega) (by omega), Bool.true_and, Bool.and_assoc]
    | false => rw [if_neg (by decide), ih (i + 1) k _ (by omega) (by omega) (by omega), Bool.false_and, Bool.false_and]
theorem j2B (lf : Bool) (rows : List S41) (h : RB rows) (rest : List Int) (hr : rest.length ≤ 1000) (x9 : Bool) (k : Nat) (hk : 2300 < k) :
    node_Parse.j2 k x9 rest false lf rows = some (if (x9 && (rest.all (fun x => x == 0) && okU lf rows)) = true then (lf, rows, true) else (false, [], false)) := by
  obtain ⟨k, rfl⟩ : ∃ k', k = k' + 1 := ⟨k - 1, by omega⟩
  rw [node_Parse.j2, In_Rest _ (by omega), Option.bind_some]
  have := zB_l1 lf rows h rest hr rest.length 0 k x9 (by omega) (by omega) (by omega)
  rw [List.drop_zero] at this
  exact this
theorem ok_t (l : List Int) : octs_In_Ok.f l true = some (false, l, true) := rfl
theorem ok_f (l : List Int) : octs_In_Ok.f l false = some (true, l, false) := rfl
theorem PB_j1bad (c many : Int) (l : List Int) (lf : Bool) (acc : List S41) (k : Nat) (hk : 3 ≤ k) : node_Parse.j1 k c many false l true lf acc = some (false, [], false) := by
  obtain ⟨k, rfl⟩ : ∃ k', k = k' + 1 + 1 + 1 := ⟨k - 3, by omega⟩
  rw [node_Parse.j1, if_neg (by decide), ok_t, Option.bind_some, if_neg (show ¬ (false = true) by decide), node_Parse.j2, In_Rest_bad, Option.bind_some, node_Parse.l1, if_neg (by simp), if_neg (by decide)]
theorem PB_bad (c many : Int) (l : List Int) (lf : Bool) (acc : List S41) (k : Nat) (hk : 4 ≤ k) : node_Parse.l0 k c many l true lf acc = some (false, [], false) := by
  obtain ⟨k, rfl⟩ : ∃ k', k = k' + 1 := ⟨k - 1, by omega⟩
  rw [node_Parse.l0]
  by_cases h : many > 0
  · rw [if_pos h, ok_t, Option.bind_some]
    exact PB_j1bad c many l lf acc k (by omega)
  · rw [if_neg h]
    exact PB_j1bad c many l lf acc k (by omega)
theorem u64_prev (n : Nat) (h : n < 1000000) : IntKind.u64.wrap (((n + 1 : Nat) : Int) - 1) = (n : Int) := by
  rw [show ((n + 1 : Nat) : Int) - 1 = (n : Int) by omega]
  exact u64_id _ (by omega) (by omega)
theorem num4 (l : List Int) (ho : Oct l) : wrap64 (num (l.take 4)) = num (l.take 4) := by
  have h := num_bound _ (oct_take ho 4)
  have h2 : (256 : Int) ^ (l.take 4).length ≤ 256 ^ 4 := by
    have : ∀ m : Fin 5, (256 : Int) ^ m.val ≤ 256 ^ 4 := by decide
    exact this ⟨(l.take 4).length, by rw [List.length_take]; omega⟩
  have h3 : (256 : Int) ^ 4 = 4294967296 := by decide
  rw [h3] at h2
  exact w64_id _ (by omega) (by omega)
theorem PB_l0 (c : Int) (lf : Bool) : ∀ (n k : Nat) (l : List Int) (acc : List S41), Oct l → Acc acc l.length → 2 * n + 3000 < k → n < 100000 →
    node_Parse.l0 k c (n : Int) l false lf acc = some (resU (c == 1 || c == 2) lf (rowsU lf n l acc)) := by
  intro n
  induction n with
  | zero =>
    intro k l acc ho ha hk hn
    obtain ⟨k, rfl⟩ : ∃ k', k = k' + 1 + 1 := ⟨k - 2, by omega⟩
    have hl := ha.1
    rw [node_Parse.l0, if_neg (by omega), node_Parse.j1, if_neg (by decide), ok_f, Option.bind_some, if_pos rfl, rowsU, resU]
    dsimp only
    unfold endU
    by_cases h1 : c = 1
    · rw [if_pos h1, j2B lf acc ha.rb l (by omega) true k (by omega), Bool.true_and, h1, if_pos (show ((1 : Int) == 1 || (1 : Int) == 2) = true by decide)]
    · rw [if_neg h1, j2B lf acc ha.rb l (by omega) _ k (by omega)]
      by_cases h2 : c = 2
      · rw [h2, if_pos (show ((2 : Int) == 1 || (2 : Int) == 2) = true by decide), show ((2 : Int) == 2) = true by decide, Bool.true_and]
      · rw [beq_eq_false_iff_ne.2 h1, beq_eq_false_iff_ne.2 h2, Bool.false_and, Bool.false_or, if_neg (by decide), if_neg (by decide)]
  | succ n ih =>
    intro k l acc ho ha hk hn
    obtain ⟨k, rfl⟩ : ∃ k', k = k' + 1 + 1 := ⟨k - 2, by omega⟩
    have hl := ha.1
    rw [node_Parse.l0, if_pos (by omega), ok_f, Option.bind_some]
    dsimp only
    rw [node_Parse.j1, if_pos rfl, In_Short k l (by omega) ho (by omega), Option.bind_some, u64_prev n (by omega)]
    cases h1 : txt l 1 with
    | none =>
      rw [rowsU_no n acc (rowU_no1 h1), resU]
      show (if lf = true then ((octs_In_Short.f k [] true).bind fun bt190 => (if acc.length < 3518437208883 then (node_Parse.l0 k c (n : Int) bt190.2.1 bt190.2.2 lf (acc ++ [(⟨strOfNums [], bt190.1, 0⟩ : S41)])) else (none))) else ((octs_In_Int.f k [] true 4).bind fun bt196 => (if acc.length < 3518437208883 then (node_Parse.l0 k c (n : Int) bt196.2.1 bt196.2.2 lf (acc ++ [(⟨strOfNums [], (⟨#[]⟩ : ByteArray), wrap64 (bt196.1)⟩ : S41)])) else (none)))) = _
      cases lf with
      | true =>
        rw [if_pos rfl, In_Short_bad, Option.bind_some, if_pos (by omega)]
        exact PB_bad _ _ _ _ _ _ (by omega)
      | false =>
        rw [if_neg (show ¬ (false = true) by decide), In_Int_bad k [] 4 (by omega), Option.bind_some, if_pos (by omega)]
        exact PB_bad _ _ _ _ _ _ (by omega)
    | some p =>
      obtain ⟨a, r⟩ := p
      obtain ⟨t1, t2, t3⟩ := txt_some h1
      have hor : Oct r := by rw [t3]; exact oct_drop ho _
      have hrl : r.length = l.length - (1 + a.length) := by rw [t3, List.length_drop]
      show (if lf = true then ((octs_In_Short.f k r false).bind fun bt190 => (if acc.length < 3518437208883 then (node_Parse.l0 k c (n : Int) bt190.2.1 bt190.2.2 lf (acc ++ [(⟨strOfNums a, bt190.1, 0⟩ : S41)])) else (none))) else ((octs_In_Int.f k r false 4).bind fun bt196 => (if acc.length < 3518437208883 then (node_Parse.l0 k c (n : Int) bt196.2.1 bt196.2.2 lf (acc ++ [(⟨strOfNums a, (⟨#[]⟩ : ByteArray), wrap64 (bt196.1)⟩ : S41)])) else (none)))) = _
      cases lf with
      | true =>
        rw [if_pos rfl, In_Short k r (by omega) hor (by omega), Option.bind_some, if_pos (by omega)]
        have hru := rowU_leaf h1
        cases h2 : txt r 1 with
        | none =>
          rw [h2] at hru
          rw [rowsU_no n acc hru, resU]
          exact PB_bad _ _ _ _ _ _ (by omega)
        | some q =>
          obtain ⟨b, r2⟩ := q
          rw [h2] at hru
          obtain ⟨s1, s2, s3⟩ := txt_some h2
          have hr2l : r2.length = r.length - (1 + b.length) := by rw [s3, List.length_drop]
          rw [rowsU_yes n acc hru]
          exact ih k r2 _ (by rw [s3]; exact oct_drop hor _) (ha.add (by omega) ⟨by show (strOfNums a).size ≤ 1000; rw [str_size]; omega, by show (strOfNums b).size ≤ 1000; rw [str_size]; omega⟩) (by omega) (by omega)
      | false =>
        have w4 : wd 4 = 4 := by decide
        have hru := rowU_inner h1
        rw [if_neg (show ¬ (false = true) by decide), In_Int k r 4 (by omega) hor (by omega), w4]
        by_cases h2 : r.length < 4
        · rw [if_pos h2] at hru
          rw [if_pos h2, Option.bind_some, if_pos (by omega), rowsU_no n acc hru, resU]
          exact PB_bad _ _ _ _ _ _ (by omega)
        · rw [if_neg h2] at hru
          rw [if_neg h2, Option.bind_some, if_pos (by omega), rowsU_yes n acc hru]
          dsimp only
          rw [num4 r hor]
          exact ih k _ _ (oct_drop hor _) (ha.add (by rw [List.length_drop]; omega) ⟨by show (strOfNums a).size ≤ 1000; rw [str_size]; omega, by show 0 ≤ 1000; omega⟩) (by omega) (by omega)
def parseU (l : List Int) : Bool × List S41 × Bool := if l.length < 3 then (false, [], false) else resU (num (l.take 1) == 1 || num (l.take 1) == 2) (num (l.take 1) == 1) (rowsU (num (l.take 1) == 1) (num ((l.drop 1).take 2)).toNat (l.drop 3) [])
theorem num_pow (l : List Int) (ho : Oct l) (n : Nat) (hn : n ≤ 8) : 0 ≤ num (l.take n) ∧ num (l.take n) < 256 ^ n := by
  have h := num_bound _ (oct_take ho n)
  have h2 : (256 : Int) ^ (l.take n).length ≤ 256 ^ n := by
    have : ∀ a b : Fin 9, a.val ≤ b.val → (256 : Int) ^ a.val ≤ 256 ^ b.val := by decide
    have h3 : (l.take n).length ≤ n := by rw [List.length_take]; omega
    exact this ⟨(l.take n).length, by omega⟩ ⟨n, by omega⟩ h3
  exact ⟨h.1, by omega⟩
theorem acc0 (n : Nat) (h : n ≤ 720) : Acc [] n := ⟨by rw [List.length_nil]; omega, fun x hx => by simp at hx⟩
theorem PB_f (l : List Int) (ho : Oct l) (hl : l.length ≤ 720) (k : Nat) (hk : 200000 ≤ k) : node_Parse.f k l = some (parseU l) := by
  have w1 : wd 1 = 1 := by decide
  have w2 : wd 2 = 2 := by decide
  unfold node_Parse.f octs_From.f parseU
  rw [Option.bind_some]
  dsimp only
  rw [In_Int k l 1 (by omega) ho (by omega), w1]
  by_cases h1 : l.length < 1
  · rw [if_pos h1, if_pos (by omega), Option.bind_some]
    dsimp only
    rw [In_Int_bad k [] 2 (by omega), Option.bind_some]
    exact PB_bad _ _ _ _ _ _ (by omega)
  · rw [if_neg h1, Option.bind_some]
    dsimp only
    rw [In_Int k (l.drop 1) 2 (by omega) (oct_drop ho 1) (by rw [List.length_drop]; omega), w2, List.length_drop]
    by_cases h2 : l.length < 3
    · rw [if_pos h2, if_pos (by omega), Option.bind_some]
      exact PB_bad _ _ _ _ _ _ (by omega)
    · rw [if_neg h2, if_neg (by omega), Option.bind_some]
      dsimp only
      have hb := num_pow (l.drop 1) (oct_drop ho 1) 2 (by omega)
      rw [show (256 : Int) ^ 2 = 65536 by decide] at hb
      rw [List.drop_drop]
      generalize num ((l.drop 1).take 2) = m at *
      generalize num (l.take 1) = c at *
      have e : m = ((m.toNat : Nat) : Int) := by omega
      rw [e, Int.toNat_natCast]
      exact PB_l0 c _ m.toNat k (l.drop 3) [] (oct_drop ho 3) (acc0 _ (by rw [List.length_drop]; omega)) (by omega) (by omega)
/-! ### the document -/
theorem zR_l1 (lf : Bool) (rows : List S41) (h : RB rows) (l : List Int) (hr : l.length ≤ 1000) : ∀ (d i k : Nat), l.length - i = d → i ≤ l.length → d + 1600 < k →
    waybillref7_NodeOf.l1 k l (i : Int) lf rows = some (endU lf rows (l.drop i)) := by
  intro d
  induction d with
  | zero =>
    intro i k hd hi hk
    obtain ⟨k, rfl⟩ : ∃ k', k = k' + 1 := ⟨k - 1, by omega⟩
    rw [waybillref7_NodeOf.l1, if_neg (by omega), show l.drop i = [] from List.drop_eq_nil_of_le (by omega), ROkB_f lf rows h k (by omega), Option.bind_some]
    unfold endU
    rw [List.all_nil, Bool.true_and]
    split <;> rfl
  | succ d ih =>
    intro i k hd hi hk
    obtain ⟨k, rfl⟩ : ∃ k', k = k' + 1 := ⟨k - 1, by omega⟩
    have hil : i < l.length := by omega
    rw [waybillref7_NodeOf.l1, if_pos (by omega), if_pos (by omega), w_next i (by omega), ih (i + 1) k (by omega) (by omega) (by omega), rd_at, drop_at l i hil]
    unfold endU
    rw [List.all_cons]
    by_cases e : l.getD i 0 = 0
    · rw [if_pos e, beq_iff_eq.2 e, Bool.true_and]
    · rw [if_neg e, beq_eq_false_iff_ne.2 e, Bool.false_and, Bool.false_and, if_neg (by decide)]
theorem u64_next (n : Nat) (h : n < 1000000) : IntKind.u64.wrap ((n : Int) + 1) = ((n + 1 : Nat) : Int) := by
  rw [show (n : Int) + 1 = ((n + 1 : Nat) : Int) by omega]
  exact u64_id _ (by omega) (by omega)
theorem RB_l0 (lf : Bool) (l : List Int) (ho : Oct l) (hl : l.length ≤ 720) (m : Nat) (hm : m < 100000) : ∀ (n k i a : Nat) (acc : List S41), m - i = n → i ≤ m → a ≤ l.length → Acc acc (l.length - a) → n + 4000 < k →
    waybillref7_NodeOf.l0 k l (m : Int) (a : Int) (i : Int) lf acc = some (resU true lf (rowsU lf n (l.drop a) acc)) := by
  intro n
  induction n with
  | zero =>
    intro k i a acc hd hi hal ha hk
    obtain ⟨k, rfl⟩ : ∃ k', k = k' + 1 := ⟨k - 1, by omega⟩
    rw [waybillref7_NodeOf.l0, if_neg (by omega), zR_l1 lf acc ha.rb l (by omega) (l.length - a) a k rfl hal (by omega), rowsU, resU, if_pos rfl]
  | succ n ih =>
    intro k i a acc hd hi hal ha hk
    obtain ⟨k, rfl⟩ : ∃ k', k = k' + 1 := ⟨k - 1, by omega⟩
    have hacc := ha.1
    have hT := Text_f k (by omega) l a 1 ho (by omega) (by omega) hal
    rw [show ((1 : Nat) : Int) = 1 from rfl] at hT
    rw [waybillref7_NodeOf.l0, if_pos (by omega), hT, Option.bind_some, u64_next i (by omega)]
    cases h1 : txt (l.drop a) 1 with
    | none =>
      rw [rtxt_no h1, rowsU_no n acc (rowU_no1 h1), resU]
      dsimp only
      rw [if_neg (by decide)]
    | some p =>
      obtain ⟨x, r⟩ := p
      obtain ⟨t1, t2, t3⟩ := txt_some h1
      rw [List.length_drop] at t1
      rw [List.drop_drop] at t3
      have ha1 : a + (1 + x.length) ≤ l.length := by omega
      have e1 : (a : Int) + ((1 : Nat) : Int) + (x.length : Int) = ((a + (1 + x.length) : Nat) : Int) := by omega
      rw [rtxt_yes h1, e1]
      dsimp only
      rw [if_pos rfl]
      have hxs : (strOfNums x).size ≤ 1000 := by rw [str_size]; omega
      generalize a + (1 + x.length) = a1 at *
      cases lf with
      | true =>
        have hT1 := Text_f k (by omega) l a1 1 ho (by omega) (by omega) ha1
        rw [show ((1 : Nat) : Int) = 1 from rfl] at hT1
        have hru := rowU_leaf h1
        rw [if_pos rfl, hT1, Option.bind_some]
        rw [t3] at hru
        cases h2 : txt (l.drop a1) 1 with
        | none =>
          rw [h2] at hru
          rw [rtxt_no h2, rowsU_no n acc hru, resU]
          dsimp only
          rw [if_neg (by decide)]
        | some q =>
          obtain ⟨y, r2⟩ := q
          rw [h2] at hru
          obtain ⟨s1, s2, s3⟩ := txt_some h2
          rw [List.length_drop] at s1
          rw [List.drop_drop] at s3
          have ha2 : a1 + (1 + y.length) ≤ l.length := by omega
          have e2 : (a1 : Int) + ((1 : Nat) : Int) + (y.length : Int) = ((a1 + (1 + y.length) : Nat) : Int) := by omega
          have hys : (strOfNums y).size ≤ 1000 := by rw [str_size]; omega
          rw [rtxt_yes h2, e2]
          dsimp only
          rw [if_pos rfl, if_pos (by omega), rowsU_yes n acc hru, s3]
          exact ih k (i + 1) _ _ (by omega) (by omega) ha2 (ha.add (by omega) ⟨hxs, hys⟩) (by omega)
      | false =>
        have hru := rowU_inner h1
        have hN := Num_f k (by omega) l a1 4 ho (by omega) (by omega) (by omega)
        rw [show ((4 : Nat) : Int) = 4 from rfl] at hN
        have hrl : r.length = l.length - a1 := by rw [t3, List.length_drop]
        rw [if_neg (show ¬ (false = true) by decide), hN, Option.bind_some]
        by_cases h2 : r.length < 4
        · rw [if_pos h2] at hru
          rw [if_neg (show ¬ a1 + 4 ≤ l.length by omega), rowsU_no n acc hru, resU]
          dsimp only
          rw [if_neg (by decide)]
        · rw [if_neg h2, t3, List.drop_drop] at hru
          rw [if_pos (show a1 + 4 ≤ l.length by omega)]
          dsimp only
          rw [if_pos rfl, if_pos (by omega), rowsU_yes n acc hru, num4 (l.drop a1) (oct_drop ho _), w_sum (a1 : Int) 4 (by omega) (by omega) (by omega), show (a1 : Int) + 4 = ((a1 + 4 : Nat) : Int) by omega]
          exact ih k (i + 1) _ _ (by omega) (by omega) (by omega) (ha.add (by omega) ⟨hxs, by show 0 ≤ 1000; omega⟩) (by omega)
theorem RB_f (l : List Int) (ho : Oct l) (hl : l.length ≤ 720) (k : Nat) (hk : 200000 ≤ k) : waybillref7_NodeOf.f k l = some (parseU l) := by
  obtain ⟨k, rfl⟩ : ∃ k', k = k' + 1 := ⟨k - 1, by omega⟩
  unfold waybillref7_NodeOf.f parseU
  have h0 := Num_f (k + 1) (by omega) l 0 1 ho (by omega) (by omega) (by omega)
  have h1 := Num_f (k + 1) (by omega) l 1 2 ho (by omega) (by omega) (by omega)
  rw [show ((0 : Nat) : Int) = 0 from rfl, show ((1 : Nat) : Int) = 1 from rfl] at h0
  rw [show ((2 : Nat) : Int) = 2 from rfl, show ((1 : Nat) : Int) = 1 from rfl] at h1
  rw [h0, Option.bind_some, h1, Option.bind_some]
  by_cases h2 : l.length < 3
  · rw [if_neg (show ¬ 1 + 2 ≤ l.length by omega), if_pos h2]
    dsimp only
    rw [if_neg (by decide), waybillref7_NodeOf.j0, if_pos rfl]
  · rw [if_pos (show 0 + 1 ≤ l.length by omega), if_pos (show 1 + 2 ≤ l.length by omega), if_neg h2]
    dsimp only
    rw [if_pos rfl, List.drop_zero]
    have hb := num_pow (l.drop 1) (oct_drop ho 1) 2 (by omega)
    rw [show (256 : Int) ^ 2 = 65536 by decide] at hb
    have hc := num_pow l ho 1 (by omega)
    generalize num ((l.drop 1).take 2) = m at *
    generalize num (l.take 1) = c at *
    have e : m = ((m.toNat : Nat) : Int) := by omega
    have fin : (c == 1 || c == 2) = true → waybillref7_NodeOf.j0 (k + 1) l c m false = some (resU (c == 1 || c == 2) (c == 1) (rowsU (c == 1) m.toNat (l.drop 3) [])) := by
      intro hcc
      have := RB_l0 (c == 1) l ho hl m.toNat (by omega) m.toNat k 0 3 [] (by omega) (by omega) (by omega) (acc0 _ (by omega)) (by omega)
      rw [← e] at this
      rw [waybillref7_NodeOf.j0, if_neg (by decide), hcc]
      exact this
    by_cases h3 : c < 1
    · rw [if_pos h3, waybillref7_NodeOf.j0, if_pos rfl, beq_eq_false_iff_ne.2 (show c ≠ 1 by omega), beq_eq_false_iff_ne.2 (show c ≠ 2 by omega)]
      generalize rowsU false m.toNat (l.drop 3) [] = o
      cases o with
      | none => rfl
      | some q => rfl
    · rw [if_neg h3]
      by_cases h4 : c > 2
      · rw [decide_eq_true h4, waybillref7_NodeOf.j0, if_pos rfl, beq_eq_false_iff_ne.2 (show c ≠ 1 by omega), beq_eq_false_iff_ne.2 (show c ≠ 2 by omega)]
        generalize rowsU false m.toNat (l.drop 3) [] = o
        cases o with
        | none => rfl
        | some q => rfl
      · rw [decide_eq_false h4]
        refine fin ?_
        by_cases h5 : c = 1
        · rw [h5]; decide
        · rw [show c = 2 by omega]; decide
theorem resU_len (c lf : Bool) (n : Nat) : ∀ (l : List Int) (acc : List S41), Acc acc l.length → (resU c lf (rowsU lf n l acc)).2.1.length ≤ 400 := by
  have hend : ∀ (rows : List S41) (rest : List Int), rows.length ≤ 400 → (resU c lf (some (rows, rest))).2.1.length ≤ 400 := by
    intro rows rest h
    show (if c = true then endU lf rows rest else (false, [], false)).2.1.length ≤ 400
    unfold endU
    by_cases h1 : c = true
    · rw [if_pos h1]
      by_cases h2 : (rest.all (fun x => x == 0) && okU lf rows) = true
      · rw [if_pos h2]; exact h
      · rw [if_neg h2]; simp
    · rw [if_neg h1]; simp
  induction n with
  | zero =>
    intro l acc ha
    rw [rowsU]
    exact hend _ _ ha.rb.1
  | succ n ih =>
    intro l acc ha
    have hl := ha.1
    cases h : rowU lf l with
    | none => rw [rowsU_no n acc h]; simp [resU]
    | some p =>
      obtain ⟨x, r⟩ := p
      rw [rowsU_yes n acc h]
      cases h1 : txt l 1 with
      | none => rw [rowU_no1 h1] at h; cases h
      | some q =>
        obtain ⟨a, r1⟩ := q
        obtain ⟨t1, t2, t3⟩ := txt_some h1
        have hrl : r1.length = l.length - (1 + a.length) := by rw [t3, List.length_drop]
        have has : (strOfNums a).size ≤ 1000 := by rw [str_size]; omega
        cases lf with
        | true =>
          rw [rowU_leaf h1] at h
          cases h2 : txt r1 1 with
          | none => rw [h2] at h; cases h
          | some q2 =>
            obtain ⟨b, r2⟩ := q2
            obtain ⟨s1, s2, s3⟩ := txt_some h2
            have hr2l : r2.length = r1.length - (1 + b.length) := by rw [s3, List.length_drop]
            have hbs : (strOfNums b).size ≤ 1000 := by rw [str_size]; omega
            rw [h2] at h
            simp only [Option.some.injEq, Prod.mk.injEq] at h
            obtain ⟨rfl, rfl⟩ := h
            exact ih _ _ (ha.add (by omega) ⟨has, hbs⟩)
        | false =>
          rw [rowU_inner h1] at h
          by_cases h2 : r1.length < 4
          · rw [if_pos h2] at h; cases h
          · rw [if_neg h2] at h
            simp only [Option.some.injEq, Prod.mk.injEq] at h
            obtain ⟨rfl, rfl⟩ := h
            exact ih _ _ (ha.add (by rw [List.length_drop]; omega) ⟨has, by show 0 ≤ 1000; omega⟩)
theorem parseU_len (l : List Int) (hl : l.length ≤ 720) : (parseU l).2.1.length ≤ 400 := by
  unfold parseU
  split
  · simp
  · exact resU_len _ _ _ _ _ (acc0 _ (by rw [List.length_drop]; omega))
end Go.Proofs.Ytfhaffpegncdiaa.Pure
/-
The self-test of the statements of layer 10 answers true, with 30 rounds or more.
-/
namespace Go.Proofs.Ytfhaffpegncdiaa.Pure
open Go.RowKit Go.Proofs.Ytfhaffpegncdiaa.PN Go.Proofs.YtfhaffpegncdiaaW.PrintWords Go.Proofs.YtfhaffpegncdiaaW.PrintLast Go.Proofs.YtfhaffpegncdiaaW.PrintMore
set_option linter.unusedVariables false
set_option linter.unusedSimpArgs false
theorem awake10_ok (k : Nat) (hk : 30 ≤ k) : waybilllaw10_awake.f k = some true :=
  at_rounds (g := fun k => waybilllaw10_awake.f k) (fun k => waybilllaw10_awake.mono k) hk (by decide +kernel)
end Go.Proofs.Ytfhaffpegncdiaa.Pure
