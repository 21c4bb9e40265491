/-
The plain laws that the statement rests on, behind each other.
-/
import Derived.Test.YtpjkaodbcclecaaPKx2
import Derived.Test.YtpjkaodbcclecaaPKx6
import Derived.Laws.BitsLemmas
import Derived.IntWalk
import Derived.Lib.Bytes
import Derived.Test.YtpjkaodbcclecaaPKx3
import Derived.Test.YtpjkaodbcclecaaPKx4
import Derived.Test.YtpjkaodbcclecaaPKx5
import Derived.Test.YtpjkaodbcclecaaPKx13
import Derived.Test.YtpjkaodbcclecaaPKx11
import Derived.Test.YtpjkaodbcclecaaPKx7
import Derived.Test.YtpjkaodbcclecaaPKx8
import Derived.Test.YtpjkaodbcclecaaPKx9
import Derived.Test.YtpjkaodbcclecaaPKx10
import Derived.Test.YtpjkaodbcclecaaPKx12
import Derived.Test.YtpjkaodbcclecaaPKx14
import Derived.Test.YtpjkaodbcclecaaPKx15
import Derived.Test.YtpjkaodbcclecaaPKx16
/-
What the printed functions of the package octs come to, in plain Lean: numbers as octets and back, texts behind their lengths.
Conditions: the bounds on lengths and numbers that each lemma names.
-/
namespace Go.Proofs.Ytpjkaodbcclecaa.Pure
open Go.RowKit Go.Proofs.Ytpjkaodbcclecaa.PK Go.Proofs.YtpjkaodbcclecaaW.PrintWords Go.Proofs.YtpjkaodbcclecaaW.PrintLast Go.Proofs.YtpjkaodbcclecaaW.PrintMore
set_option linter.unusedVariables false
set_option linter.unusedSimpArgs false

/-- All of them are octets. -/
def Oct (l : List Int) : Prop := ∀ x ∈ l, 0 ≤ x ∧ x < 256
/-- A number's n lowest octets, the highest first. -/
def be : Nat → Int → List Int
  | 0, _ => []
  | n + 1, v => v / 256 ^ n % 256 :: be n v
def numA : Int → List Int → Int
  | a, [] => a
  | a, c :: l => numA (a * 256 + c) l
def num (l : List Int) : Int := numA 0 l
def wd (n : Int) : Nat := (mn (mx n 1) 8).toNat

theorem wd_ge (n : Int) : 1 ≤ wd n := by unfold wd mn mx; (repeat' split) <;> omega
theorem wd_le (n : Int) : wd n ≤ 8 := by unfold wd mn mx; (repeat' split) <;> omega
theorem wd_cast (n : Int) : mn (mx n 1) 8 = (wd n : Int) := by unfold wd mn mx; (repeat' split) <;> omega
theorem be_len (n : Nat) (v : Int) : (be n v).length = n := by
  induction n with
  | zero => rfl
  | succ n ih => simp [be, ih]
theorem be_oct (n : Nat) (v : Int) : Oct (be n v) := by
  induction n with
  | zero => intro x hx; simp [be] at hx
  | succ n ih =>
    intro x hx
    simp only [be, List.mem_cons] at hx
    rcases hx with rfl | hx
    · omega
    · exact ih x hx
theorem oct_nil : Oct [] := fun x hx => by simp at hx
theorem oct_app {a b : List Int} (ha : Oct a) (hb : Oct b) : Oct (a ++ b) := fun x hx => (List.mem_append.1 hx).elim (ha x) (hb x)
theorem oct_take {a : List Int} (ha : Oct a) (n : Nat) : Oct (a.take n) := fun x hx => ha x (List.mem_of_mem_take hx)
theorem oct_drop {a : List Int} (ha : Oct a) (n : Nat) : Oct (a.drop n) := fun x hx => ha x (List.mem_of_mem_drop hx)
theorem oct_cons {x : Int} {a : List Int} (h : Oct (x :: a)) : (0 ≤ x ∧ x < 256) ∧ Oct a := ⟨h x (by simp), fun y hy => h y (by simp [hy])⟩
theorem oct_bytesOf (s : ByteArray) : Oct (bytesOf s) := by
  intro x hx
  simp only [bytesOf, List.mem_map] at hx
  obtain ⟨b, _, rfl⟩ := hx
  have := b.toNat_lt
  omega
theorem oct_wf {l : List Int} (h : ∀ x ∈ l, (Lit.int .u8 x).wf = true) : Oct l := by
  intro x hx
  have := h x hx
  simp [Lit.wf, IntKind.min, IntKind.max, IntKind.signed, IntKind.bits] at this
  omega

theorem u64_id (n : Int) (h0 : 0 ≤ n) (h1 : n < 18446744073709551616) : IntKind.u64.wrap n = n := IntWalk.u64_in n ⟨h0, by omega⟩
theorem w64_id (n : Int) (h0 : -9223372036854775808 ≤ n) (h1 : n < 9223372036854775808) : wrap64 n = n := by unfold wrap64; omega
theorem u64_wraps (n : Int) (h0 : 0 ≤ n) (h1 : n < 2 ^ 64) : IntKind.u64.wrap n = n := u64_id n h0 (by omega)

/-- The loop of octs.Int. -/
theorem Int_l0 (v : Int) : ∀ (j : Nat) (K : Nat) (x : List Int), j ≤ 8 → j < K → x.length + j < 140737488355328 → octs_Int.l0 K x v ((j : Int) - 1) = some (x ++ be j v) := by
  intro j
  induction j with
  | zero =>
    intro K x _ hK hx
    obtain ⟨K, rfl⟩ : ∃ m, K = m + 1 := ⟨K - 1, by omega⟩
    simp only [octs_Int.l0]
    rw [if_neg (by omega)]
    simp [be]
  | succ j ih =>
    intro K x hj hK hx
    obtain ⟨K, rfl⟩ : ∃ m, K = m + 1 := ⟨K - 1, by omega⟩
    have e1 : (((j + 1 : Nat) : Int) - 1) = (j : Int) := by omega
    have e2 : IntKind.u64.wrap (wrap64 ((j : Int) * 8)) = (j : Int) * 8 := by
      rw [w64_id _ (by omega) (by omega), u64_id _ (by omega) (by omega)]
    have e3 : shr .u64 v ((j : Int) * 8) = v / 256 ^ j := by
      unfold shr
      have a1 : ((j : Int) * 8).toNat = 8 * j := by omega
      have a2 : min (8 * j) IntKind.u64.bits = 8 * j := Nat.min_eq_left (by simp only [IntKind.bits]; omega)
      rw [a1, a2, Int.pow_mul]
      rfl
    simp only [octs_Int.l0]
    rw [e1, if_pos (by omega), e2, if_pos (by omega), if_pos (by omega), e3, w64_id _ (by omega) (by omega), ih K _ (by omega) (by omega) (by simp; omega)]
    simp [be]
theorem Int_f (k : Nat) (hk : 9 ≤ k) (l : List Int) (n v : Int) (hl : l.length + 8 < 140737488355328) : octs_Int.f k l n v = some (l ++ be (wd n) v) := by
  unfold octs_Int.f slices_Clone_byte_byte.f octs_width.f
  have h8 := wd_le n
  have h1 := wd_ge n
  rw [if_pos (by omega)]
  simp only [Option.bind_some]
  rw [wd_cast, w64_id _ (by omega) (by omega)]
  exact Int_l0 v (wd n) k l h8 (by omega) (by omega)

theorem p256_le (n : Nat) (h : n ≤ 8) : (256 : Int) ^ n ≤ 18446744073709551616 := by
  have : ∀ m : Fin 9, (256 : Int) ^ m.val ≤ 18446744073709551616 := by decide
  exact this ⟨n, by omega⟩
theorem or_byte (a c : Int) (ha : 0 ≤ a) (ha2 : a * 256 < 18446744073709551616) (hc : 0 ≤ c) (hc2 : c < 256) : Go.bits .or .u64 (IntKind.u64.wrap (a * 256)) (IntKind.u64.wrap c) = a * 256 + c := by
  rw [u64_id _ (by omega) ha2, u64_id _ hc (by omega)]
  exact bits_join .u64 64 (by decide) u64_wraps 8 (a * 256) c (by omega) (by omega) (by omega) hc (by omega) (by omega)
theorem rd_at (l : List Int) (i : Nat) : rd l (i : Int) = l.getD i 0 := by simp [rd]
theorem drop_at (l : List Int) (i : Nat) (h : i < l.length) : l.drop i = l.getD i 0 :: l.drop (i + 1) := by
  rw [List.drop_eq_getElem_cons h, List.getD_eq_getElem?_getD, List.getElem?_eq_getElem h]; rfl
theorem getD_oct {l : List Int} (ho : Oct l) (i : Nat) : 0 ≤ l.getD i 0 ∧ l.getD i 0 < 256 := by
  rw [List.getD_eq_getElem?_getD]
  by_cases h : i < l.length
  · rw [List.getElem?_eq_getElem h]; exact ho _ (List.getElem_mem h)
  · rw [List.getElem?_eq_none (by omega)]; simp
/-- The loop of octs.number. -/
theorem number_l0 (l : List Int) (ho : Oct l) (hl : l.length ≤ 8) : ∀ (d i K : Nat) (a : Int), l.length - i = d → i ≤ l.length → d < K → 0 ≤ a → a < 256 ^ i → octs_number.l0 K a l (l.length : Int) (i : Int) = some (numA a (l.drop i)) := by
  intro d
  induction d with
  | zero =>
    intro i K a hd hi hK h0 h1
    obtain ⟨K, rfl⟩ : ∃ m, K = m + 1 := ⟨K - 1, by omega⟩
    simp only [octs_number.l0]
    rw [if_neg (by omega), List.drop_of_length_le (by omega)]
    rfl
  | succ d ih =>
    intro i K a hd hi hK h0 h1
    obtain ⟨K, rfl⟩ : ∃ m, K = m + 1 := ⟨K - 1, by omega⟩
    have hp : (256 : Int) ^ (i + 1) = 256 ^ i * 256 := Int.pow_succ ..
    have hq := p256_le (i + 1) (by omega)
    have hb := getD_oct ho i
    have ha : a * 256 < 18446744073709551616 := by omega
    simp only [octs_number.l0]
    rw [if_pos (by omega), if_pos (by omega), if_pos (by omega), rd_at, or_byte a _ h0 ha hb.1 hb.2, w64_id _ (by omega) (by omega)]
    have e : ((i : Int) + 1) = ((i + 1 : Nat) : Int) := by omega
    rw [e, ih (i + 1) K _ (by omega) (by omega) (by omega) (by omega) (by omega), drop_at l i (by omega)]
    rfl
theorem number_f (k : Nat) (l : List Int) (ho : Oct l) (hl : l.length ≤ 8) (hk : l.length < k) : octs_number.f k l = some (num l) := by
  unfold octs_number.f
  exact number_l0 l ho hl l.length 0 k 0 (by omega) (by omega) hk (by omega) (by decide)

theorem emod_step (v p : Int) (hp : 0 < p) : v % (p * 256) = v % p + p * (v / p % 256) := by
  have h1 := Int.mul_ediv_add_emod v p
  have h2 := Int.mul_ediv_add_emod (v / p) 256
  have h3 : v / (p * 256) = v / p / 256 := (Int.ediv_ediv_of_nonneg (by omega)).symm
  have h4 := Int.mul_ediv_add_emod v (p * 256)
  rw [h3] at h4
  grind
theorem p256_pos (n : Nat) : (0 : Int) < 256 ^ n := Int.pow_pos (by omega)
theorem numA_be (n : Nat) (a v : Int) : numA a (be n v) = a * 256 ^ n + v % 256 ^ n := by
  induction n generalizing a with
  | zero => simp [be, numA, Int.emod_one]
  | succ n ih =>
    simp only [be, numA, ih]
    have h : v % (256 ^ n * 256) = v % 256 ^ n + 256 ^ n * (v / 256 ^ n % 256) := emod_step v _ (p256_pos n)
    rw [Int.pow_succ, h]
    have := Int.mul_comm (256 ^ n) (v / 256 ^ n % 256)
    have := Int.mul_assoc a (256 : Int) (256 ^ n)
    have := Int.mul_comm (256 : Int) (256 ^ n)
    grind
theorem num_be (n : Nat) (v : Int) : num (be n v) = v % 256 ^ n := by
  unfold num; rw [numA_be]; omega
theorem numA_bound (l : List Int) (ho : Oct l) : ∀ (a : Int), 0 ≤ a → 0 ≤ numA a l ∧ numA a l < (a + 1) * 256 ^ l.length := by
  induction l with
  | nil => intro a ha; simp [numA]; omega
  | cons c l ih =>
    intro a ha
    have hc := oct_cons ho
    have := ih hc.2 (a * 256 + c) (by omega)
    refine ⟨this.1, ?_⟩
    have h2 : (a * 256 + c + 1) * 256 ^ l.length ≤ ((a + 1) * 256) * 256 ^ l.length := Int.mul_le_mul_of_nonneg_right (by omega) (Int.le_of_lt (Int.pow_pos (by omega)))
    have h3 : (a + 1) * 256 ^ (c :: l).length = ((a + 1) * 256) * 256 ^ l.length := by
      simp only [List.length_cons, Int.pow_succ]
      grind
    rw [h3]
    exact Int.lt_of_lt_of_le this.2 h2
theorem num_bound (l : List Int) (ho : Oct l) : 0 ≤ num l ∧ num l < 256 ^ l.length := by
  have := numA_bound l ho 0 (by omega)
  simpa [num] using this

/-! ### the reader -/
theorem take_f (l : List Int) (n : Int) (h0 : 0 ≤ n) (hl : l.length < 140737488355328) : octs_In_take.f l false n = if (l.length : Int) < n then some ([], [], true) else some (l.take n.toNat, l.drop n.toNat, false) := by
  unfold octs_In_take.f
  rw [if_neg (by simp), if_pos h0, if_pos hl]
theorem take_bad (l : List Int) (n : Int) : octs_In_take.f l true n = some ([], [], true) := by unfold octs_In_take.f; rw [if_pos rfl]
/-- A number of n octets. -/
theorem In_Int (k : Nat) (l : List Int) (n : Int) (hk : 9 ≤ k) (ho : Oct l) (hl : l.length < 140737488355328) :
    octs_In_Int.f k l false n = if l.length < wd n then some (0, [], true) else some (num (l.take (wd n)), l.drop (wd n), false) := by
  have h8 := wd_le n
  have h1 := wd_ge n
  unfold octs_In_Int.f octs_width.f
  simp only [Option.bind_some]
  rw [wd_cast, u64_id _ (by omega) (by omega), take_f l _ (by omega) hl]
  by_cases h : l.length < wd n
  · rw [if_pos h, if_pos (by omega)]
    simp only [Option.bind_some]
    rw [number_f k [] oct_nil (by simp) (by simp; omega)]
    rfl
  · rw [if_neg h, if_neg (by omega)]
    simp only [Option.bind_some, Int.toNat_natCast]
    rw [number_f k _ (oct_take ho _) (by simp; omega) (by simp; omega)]
    rfl
theorem In_Int_bad (k : Nat) (l : List Int) (n : Int) (hk : 1 ≤ k) : octs_In_Int.f k l true n = some (0, [], true) := by
  unfold octs_In_Int.f octs_width.f
  simp only [Option.bind_some]
  rw [take_bad]
  simp only [Option.bind_some]
  rw [number_f k [] oct_nil (by simp) (by simp; omega)]
  rfl
/-- A text behind its length of n octets (n: 1 or 4). -/
def txt (l : List Int) (n : Nat) : Option (List Int × List Int) :=
  if l.length < n then none else if (l.length : Int) - n < num (l.take n) then none else some ((l.drop n).take (num (l.take n)).toNat, (l.drop n).drop (num (l.take n)).toNat)
def told (o : Option (List Int × List Int)) : List Int × List Int × Bool := match o with
  | none => ([], [], true)
  | some (a, b) => (a, b, false)
theorem meas_f (k : Nat) (l : List Int) (n : Nat) (hn : n ≤ 8) (hk : 9 ≤ k) (ho : Oct l) (hl : l.length < 140737488355328) :
    octs_In_measured.f k l false (n : Int) = some (told (txt l n)) := by
  unfold octs_In_measured.f txt
  rw [if_neg (by simp)]
  by_cases h : l.length < n
  · rw [if_pos (by omega), if_pos h, u64_id _ (by omega) (by omega), take_f l _ (by omega) hl, if_pos (by omega)]
    rfl
  · rw [if_neg (by omega), if_neg h, if_pos (by omega), Int.toNat_natCast, number_f k _ (oct_take ho _) (by simp; omega) (by simp; omega)]
    simp only [Option.bind_some]
    have hb := num_bound _ (oct_take ho n)
    by_cases h2 : (l.length : Int) - n < num (l.take n)
    · rw [if_pos h2, if_pos h2]; rfl
    · rw [if_neg h2, if_neg h2, take_f _ _ hb.1 (by simp; omega), if_neg (by simp; omega)]
      rfl
theorem meas_bad (k : Nat) (l : List Int) (n : Int) : octs_In_measured.f k l true n = some ([], [], true) := by
  unfold octs_In_measured.f; rw [if_pos rfl, take_bad]
theorem In_Short (k : Nat) (l : List Int) (hk : 9 ≤ k) (ho : Oct l) (hl : l.length < 140737488355328) :
    octs_In_Short.f k l false = some (strOfNums (told (txt l 1)).1, (told (txt l 1)).2) := by
  unfold octs_In_Short.f
  rw [show (1 : Int) = ((1 : Nat) : Int) from rfl, meas_f k l 1 (by omega) hk ho hl]
  rfl
theorem In_Short_bad (k : Nat) (l : List Int) : octs_In_Short.f k l true = some (strOfNums [], [], true) := by
  unfold octs_In_Short.f; rw [meas_bad]; rfl

theorem u8_toNat (c : Int) (h : 0 ≤ c ∧ c < 256) : (UInt8.ofNat c.toNat).toNat = c.toNat := by
  simp only [UInt8.toNat_ofNat']; omega
theorem numA_split (l : List Int) : ∀ a, numA a l = a * 256 ^ l.length + num l := by
  induction l with
  | nil => intro a; simp [numA, num]
  | cons c l ih =>
    intro a
    have h1 := ih (a * 256 + c)
    have h2 := ih (0 * 256 + c)
    simp only [num, numA, List.length_cons, Int.pow_succ] at *
    grind
theorem num_cons (c : Int) (l : List Int) : num (c :: l) = c * 256 ^ l.length + num l := by
  show numA (0 * 256 + c) l = _
  rw [numA_split]; simp
theorem bytesOf_len (s : ByteArray) : (bytesOf s).length = s.size := by unfold bytesOf; rw [List.length_map, Array.length_toList]; rfl
theorem str_bytesOf (s : ByteArray) : strOfNums (bytesOf s) = s := by
  have h : (strOfNums (bytesOf s)).data.toList = s.data.toList := by
    rw [strOfNums_data]
    unfold bytesOf
    rw [List.map_map]
    have : ((fun n : Int => UInt8.ofNat n.toNat) ∘ fun b : UInt8 => (b.toNat : Int)) = id := by
      funext b
      simp
    rw [this, List.map_id]
  cases s with
  | mk d => 
    have h2 : (strOfNums (bytesOf ⟨d⟩)).data = d := Array.toList_inj.1 h
    generalize strOfNums (bytesOf ⟨d⟩) = u at *
    cases u
    simp only at h2
    rw [h2]
theorem txt_be (n m : Nat) (a rest : List Int) (ha : a.length = m) (hm : (m : Int) < 256 ^ n) : txt (be n m ++ (a ++ rest)) n = some (a, rest) := by
  have hl := be_len n (m : Int)
  have ht : (be n (m : Int) ++ (a ++ rest)).take n = be n m := List.take_left' hl
  have hd : (be n (m : Int) ++ (a ++ rest)).drop n = a ++ rest := List.drop_left' hl
  have hn : num (be n (m : Int)) = m := by rw [num_be, Int.emod_eq_of_lt (by omega) hm]
  unfold txt
  rw [ht, hd, hn, if_neg (by simp [hl]), if_neg (by simp [hl]; omega), Int.toNat_natCast, List.take_left' ha, List.drop_left' ha]
theorem read_be (k n : Nat) (w : Int) (hw : wd w = n) (v : Int) (rest : List Int) (hk : 9 ≤ k) (ho : Oct rest) (hl : rest.length + 8 < 140737488355328) :
    octs_In_Int.f k (be n v ++ rest) false w = some (v % 256 ^ n, rest, false) := by
  have h8 := wd_le w
  have hb := be_len n v
  rw [In_Int k _ w hk (oct_app (be_oct n v) ho) (by simp [hb]; omega), hw, if_neg (by simp [hb]), List.take_left' hb, List.drop_left' hb, num_be]
theorem read_short (k : Nat) (s : ByteArray) (rest : List Int) (hs : s.size ≤ 255) (hk : 9 ≤ k) (ho : Oct rest) (hl : rest.length + 300 < 140737488355328) :
    octs_In_Short.f k (be 1 (s.size : Int) ++ (bytesOf s ++ rest)) false = some (s, rest, false) := by
  have h1 := be_len 1 (s.size : Int)
  have h2 := bytesOf_len s
  rw [In_Short k _ hk (oct_app (be_oct _ _) (oct_app (oct_bytesOf s) ho)) (by simp [h1, h2]; omega), txt_be 1 s.size _ _ h2 (by omega)]
  show some (strOfNums (bytesOf s), rest, false) = _
  rw [str_bytesOf]
theorem Short_f (k : Nat) (l : List Int) (s : ByteArray) (hk : 9 ≤ k) (hl : l.length + 600 < 140737488355328) :
    octs_Short.f k l s = if s.size ≤ 255 then some (l ++ (be 1 (s.size : Int) ++ bytesOf s), true) else some (l, false) := by
  unfold octs_Short.f slices_Clone_byte_byte.f
  by_cases h : s.size ≤ 255
  · have h1 : wd 1 = 1 := by decide
    have h2 := be_len 1 (s.size : Int)
    rw [if_neg (by omega), if_pos h, u64_id _ (by omega) (by omega), Int_f k hk l 1 _ (by omega), h1]
    simp only [Option.bind_some]
    rw [if_pos (by simp [h2]; omega), List.append_assoc]
  · rw [if_pos (by omega), if_neg h, if_pos (by omega)]
    rfl
theorem size_zero (s : ByteArray) : s.toList = [] ↔ s.size = 0 := by
  rw [← List.length_eq_zero_iff, ByteArray.toList_eq, Array.length_toList]
  rfl
def hasK (a : Int) : Int := if a = 1 ∨ a = 2 then 1 else if a = 3 then 7 else if a = 4 then 8 else if a = 5 then 9 else 0
theorem has_f (k : Nat) (hk : 1 ≤ k) (a : Int) : keys_has.f k a = some (hasK a) := by
  obtain ⟨k, rfl⟩ : ∃ j, k = j + 1 := ⟨k - 1, by omega⟩
  unfold keys_has.f hasK
  by_cases h1 : a = 1
  · subst h1; rfl
  · rw [if_neg h1, keys_has.j0]
    by_cases h2 : a = 2
    · subst h2; rfl
    · have h3 : (a == 2) = false := by simpa using h2
      rw [h3, if_neg (by simp), if_neg (show ¬ (a = 1 ∨ a = 2) by omega)]
      by_cases h4 : a = 3
      · rw [if_pos h4, if_pos h4]
      · rw [if_neg h4, if_neg h4]
        by_cases h5 : a = 4
        · rw [if_pos h5, if_pos h5]
        · rw [if_neg h5, if_neg h5]
          by_cases h6 : a = 5
          · rw [if_pos h6, if_pos h6]
          · rw [if_neg h6, if_neg h6]
def nameOk (s : ByteArray) (is : Bool) : Bool := if is = true then decide (s.size ≠ 0 ∧ s.size ≤ 30) else decide (s.size = 0)
theorem name_f (s : ByteArray) (is : Bool) : keys_name.f s is = some (nameOk s is) := by
  unfold keys_name.f nameOk
  cases is with
  | true =>
    rw [if_pos rfl, if_pos rfl]
    by_cases h : s.toList = []
    · have := (size_zero s).1 h
      rw [if_pos h, decide_eq_false (by omega)]
    · have : s.size ≠ 0 := fun hh => h ((size_zero s).2 hh)
      rw [if_neg h]
      congr 1
      by_cases h2 : s.size ≤ 30
      · rw [decide_eq_true (by omega), decide_eq_true ⟨this, h2⟩]
      · rw [decide_eq_false (by omega), decide_eq_false (fun hh => h2 hh.2)]
  | false =>
    rw [if_neg (by simp), if_neg (by simp)]
    congr 1
    by_cases h : s.size = 0
    · rw [decide_eq_true h, (size_zero s).2 h]; rfl
    · have h2 : s.toList ≠ [] := fun hh => h ((size_zero s).1 hh)
      rw [decide_eq_false h]
      cases hs : s.toList with
      | nil => exact absurd hs h2
      | cons c l => rfl
def wA (kd : Int) : Bool := decide (kd = 1 ∨ kd = 2 ∨ kd = 3 ∨ kd = 5)
def wB (kd : Int) : Bool := decide (kd = 3)
def wI (kd : Int) : Bool := decide (kd = 4 ∨ kd = 5)
def kindOk (kd : Int) : Bool := decide (1 ≤ kd ∧ kd ≤ 5)
def restOk (wa wb wi : Bool) (a b c : ByteArray) (id : Int) : Bool := nameOk a wa && (nameOk b wb && ((decide (c.size = 0) || wb) && (decide (c.size ≤ 60) && (decide (id > 0) == wi))))
def goodK (kd : Int) (a b c : ByteArray) (id : Int) : Bool := kindOk kd && restOk (wA kd) (wB kd) (wI kd) a b c id
theorem good_j (k : Nat) (n kd : Int) (a b c : ByteArray) (id : Int) (wb wi : Bool) (hc : Go.bits .and .i64 n 4 = 0 ↔ wb = false) (hi : (Go.bits .and .i64 n 8 != 0) = wi) :
    keys_good.j0 (k + 1) n false kd a b c id = some ((decide (c.size = 0) || wb) && (decide (c.size ≤ 60) && (decide (id > 0) == wi))) := by
  rw [keys_good.j0, if_neg (by simp), hi]
  by_cases h : c.size = 0
  · have h2 := (size_zero c).2 h
    rw [if_pos h2, if_neg (by omega), decide_eq_true h, decide_eq_true (show c.size ≤ 60 by omega)]
    rfl
  · have h2 : ¬ c.toList = [] := fun hh => h ((size_zero c).1 hh)
    rw [if_neg h2, decide_eq_false h]
    cases wb with
    | false => rw [if_pos (hc.2 rfl)]; rfl
    | true =>
      rw [if_neg (fun hh => by have := hc.1 hh; cases this)]
      by_cases h3 : c.size ≤ 60
      · rw [if_neg (by omega), decide_eq_true h3]; rfl
      · rw [if_pos (by omega), decide_eq_false h3]; rfl
theorem good_n (k : Nat) (n kd : Int) (a b c : ByteArray) (id : Int) (wa wb wi : Bool) (h0 : n ≠ 0) (ha : (Go.bits .and .i64 n 1 != 0) = wa) (hb : (Go.bits .and .i64 n 2 != 0) = wb) (hc : Go.bits .and .i64 n 4 = 0 ↔ wb = false) (hi : (Go.bits .and .i64 n 8 != 0) = wi) :
    (if n = 0 then (keys_good.j0 (k + 1) n true kd a b c id) else ((keys_name.f a ((Go.bits .and .i64 n 1) != 0)).bind fun t869 => (if t869 = true then ((keys_name.f b ((Go.bits .and .i64 n 2) != 0)).bind fun t870 => (keys_good.j0 (k + 1) n (!t870) kd a b c id)) else (keys_good.j0 (k + 1) n true kd a b c id)))) = some (restOk wa wb wi a b c id) := by
  have hbad : keys_good.j0 (k + 1) n true kd a b c id = some false := by rw [keys_good.j0, if_pos rfl]
  unfold restOk
  rw [if_neg h0, ha, name_f, Option.bind_some]
  cases nameOk a wa with
  | false => rw [if_neg (by simp), hbad]; rfl
  | true =>
    rw [if_pos rfl, hb, name_f, Option.bind_some]
    cases nameOk b wb with
    | false => exact hbad
    | true => exact good_j k n kd a b c id wb wi hc hi
theorem good_f (k : Nat) (hk : 2 ≤ k) (kd : Int) (a b c : ByteArray) (id : Int) : keys_good.f k kd a b c id = some (goodK kd a b c id) := by
  obtain ⟨k, rfl⟩ : ∃ j, k = j + 1 := ⟨k - 1, by omega⟩
  unfold keys_good.f goodK
  rw [has_f (k + 1) (by omega), Option.bind_some]
  by_cases h : 1 ≤ kd ∧ kd ≤ 5
  · have hk : kindOk kd = true := decide_eq_true h
    rw [hk, Bool.true_and]
    have h5 : kd = 1 ∨ kd = 2 ∨ kd = 3 ∨ kd = 4 ∨ kd = 5 := by omega
    rcases h5 with rfl | rfl | rfl | rfl | rfl
    · exact good_n k 1 1 a b c id true false false (by decide) (by decide) (by decide) (by decide) (by decide)
    · exact good_n k 1 2 a b c id true false false (by decide) (by decide) (by decide) (by decide) (by decide)
    · exact good_n k 7 3 a b c id true true false (by decide) (by decide) (by decide) (by decide) (by decide)
    · exact good_n k 8 4 a b c id false false true (by decide) (by decide) (by decide) (by decide) (by decide)
    · exact good_n k 9 5 a b c id true false true (by decide) (by decide) (by decide) (by decide) (by decide)
  · have hk : kindOk kd = false := decide_eq_false h
    have h0 : hasK kd = 0 := by
      unfold hasK
      rw [if_neg (by omega), if_neg (by omega), if_neg (by omega), if_neg (by omega)]
    rw [hk, h0, if_pos rfl, keys_good.j0, if_pos rfl]
    rfl
def part (w : Bool) (s : ByteArray) : List Int := if w = true then be 1 (s.size : Int) ++ bytesOf s else []
def idO (w : Bool) (id : Int) : List Int := if w = true then be 8 id else []
def keyOct (kd : Int) (a b c : ByteArray) (id : Int) : List Int := [kd % 256] ++ (part (wA kd) a ++ (part (wB kd) b ++ (part (wB kd) c ++ idO (wI kd) id)))
theorem part_len (w : Bool) (s : ByteArray) : (part w s).length = if w = true then 1 + s.size else 0 := by
  unfold part
  have := bytesOf_len s
  split
  · rw [List.length_append, be_len, this]
  · rfl
theorem part_oct (w : Bool) (s : ByteArray) : Oct (part w s) := by
  unfold part
  split
  · exact oct_app (be_oct _ _) (oct_bytesOf _)
  · exact oct_nil
theorem idO_len (w : Bool) (id : Int) : (idO w id).length = if w = true then 8 else 0 := by unfold idO; split; exact be_len _ _; rfl
theorem idO_oct (w : Bool) (id : Int) : Oct (idO w id) := by unfold idO; split; exact be_oct _ _; exact oct_nil
theorem key_oct (kd : Int) (a b c : ByteArray) (id : Int) : Oct (keyOct kd a b c id) := by
  unfold keyOct
  refine oct_app (fun x hx => ?_) (oct_app (part_oct _ _) (oct_app (part_oct _ _) (oct_app (part_oct _ _) (idO_oct _ _))))
  rw [List.mem_singleton] at hx
  omega
theorem text_step (k : Nat) (hk : 9 ≤ k) (n : Int) (acc : List Int) (l : List ByteArray) (hl : l.length = 3) (i : Nat) (hi : i < 3) (w : Bool) (hw : (Go.bits .and .i64 (shr .i64 n (i : Int)) 1 = 1) ↔ w = true) (s : ByteArray) (hs : l.getD i ByteArray.empty = s) (hz : w = true → s.size ≤ 255) (hacc : acc.length ≤ 1000) (kd : Int) (a b c : ByteArray) (id : Int) :
    keys_Text.l0 (k + 1) n acc l 3 (i : Int) kd a b c id = keys_Text.l0 k n (acc ++ part w s) l 3 ((i + 1 : Nat) : Int) kd a b c id := by
  have e1 : IntKind.u64.wrap (i : Int) = (i : Int) := u64_id _ (by omega) (by omega)
  have e2 : wrap64 ((i : Int) + 1) = ((i + 1 : Nat) : Int) := by rw [w64_id _ (by omega) (by omega)]; omega
  have e3 : rdOf ByteArray.empty l (i : Int) = s := by unfold rdOf; rw [Int.toNat_natCast]; exact hs
  rw [keys_Text.l0, if_pos (by omega), if_pos (by omega), if_pos (by omega), e1, if_pos (by omega), e2, e3]
  unfold part
  cases w with
  | true => rw [if_pos (hw.2 rfl), Short_f k acc s hk (by omega), if_pos (hz rfl), Option.bind_some, if_pos rfl]
  | false =>
    rw [if_neg (fun hh => by have := hw.1 hh; cases this), if_neg (by simp), List.append_nil]
theorem text_n (k : Nat) (hk : 12 ≤ k) (n kd : Int) (a b c : ByteArray) (id : Int) (wa wb wi : Bool) (h0 : (Go.bits .and .i64 (shr .i64 n 0) 1 = 1) ↔ wa = true) (h1 : (Go.bits .and .i64 (shr .i64 n 1) 1 = 1) ↔ wb = true) (h2 : (Go.bits .and .i64 (shr .i64 n 2) 1 = 1) ↔ wb = true)
    (hi : Go.bits .and .i64 n 8 = 0 ↔ wi = false) (ha : wa = true → a.size ≤ 255) (hb : wb = true → b.size ≤ 255) (hc : wb = true → c.size ≤ 255) :
    keys_Text.l0 (k + 4) n [kd % 256] [a, b, c] 3 0 kd a b c id = some (strOfNums ([kd % 256] ++ (part wa a ++ (part wb b ++ (part wb c ++ idO wi id)))), true) := by
  have pa := part_len wa a
  have pb := part_len wb b
  have pc := part_len wb c
  have pa2 : (part wa a).length ≤ 256 := by
    rw [pa]
    split
    · next h => have h := ha h; omega
    · omega
  have pb2 : (part wb b).length ≤ 256 := by
    rw [pb]
    split
    · next h => have h := hb h; omega
    · omega
  have pc2 : (part wb c).length ≤ 256 := by
    rw [pc]
    split
    · next h => have h := hc h; omega
    · omega
  clear pa pb pc
  have s0 := text_step (k + 3) (by omega) n [kd % 256] [a, b, c] rfl 0 (by omega) wa h0 a rfl ha (by simp) kd a b c id
  have s1 := text_step (k + 2) (by omega) n ([kd % 256] ++ part wa a) [a, b, c] rfl 1 (by omega) wb h1 b rfl hb (by rw [List.length_append]; simp; omega) kd a b c id
  have s2 := text_step (k + 1) (by omega) n (([kd % 256] ++ part wa a) ++ part wb b) [a, b, c] rfl 2 (by omega) wb h2 c rfl hc (by rw [List.length_append, List.length_append]; simp; omega) kd a b c id
  have s3 := s0.trans (s1.trans s2)
  rw [show ((0 : Nat) : Int) = 0 from rfl] at s3
  rw [s3, keys_Text.l0, if_neg (by omega)]
  unfold idO
  cases wi with
  | false => rw [if_pos (hi.2 rfl), if_neg (by simp), List.append_nil]; simp only [List.append_assoc]
  | true =>
    have h8 : wd 8 = 8 := by decide
    rw [if_neg (fun hh => by have := hi.1 hh; cases this), if_pos rfl, Int_f k (by omega) _ 8 id (by rw [List.length_append, List.length_append, List.length_append]; simp; omega), h8, Option.bind_some]
    simp only [List.append_assoc]
theorem good_sizes {kd : Int} {a b c : ByteArray} {id : Int} (h : goodK kd a b c id = true) : (1 ≤ kd ∧ kd ≤ 5) ∧ a.size ≤ 30 ∧ b.size ≤ 30 ∧ c.size ≤ 60 ∧ (wA kd = true → a.size ≠ 0) ∧ (wA kd = false → a.size = 0) ∧ (wB kd = true → b.size ≠ 0) ∧ (wB kd = false → b.size = 0 ∧ c.size = 0) ∧ (id > 0 ↔ wI kd = true) := by
  unfold goodK restOk at h
  rw [Bool.and_eq_true, Bool.and_eq_true, Bool.and_eq_true, Bool.and_eq_true, Bool.and_eq_true, Bool.or_eq_true, decide_eq_true_eq, decide_eq_true_eq, beq_iff_eq] at h
  obtain ⟨h1, h2, h3, h4, h5, h6⟩ := h
  have hk : 1 ≤ kd ∧ kd ≤ 5 := of_decide_eq_true h1
  have hn : ∀ (s : ByteArray) (w : Bool), nameOk s w = true → s.size ≤ 30 ∧ (w = true → s.size ≠ 0) ∧ (w = false → s.size = 0) := by
    intro s w hh
    cases w with
    | true => have hh := of_decide_eq_true hh; exact ⟨hh.2, fun _ => hh.1, fun e => Bool.noConfusion e⟩
    | false => have hh := of_decide_eq_true hh; exact ⟨by omega, fun e => Bool.noConfusion e, fun _ => hh⟩
  have n2 := hn a _ h2
  have n3 := hn b _ h3
  refine ⟨hk, n2.1, n3.1, h5, n2.2.1, n2.2.2, n3.2.1, fun hw => ⟨n3.2.2 hw, ?_⟩, ?_⟩
  · rcases h4 with h4 | h4
    · exact h4
    · rw [hw] at h4; cases h4
  · rw [← h6, decide_eq_true_eq]
theorem Text_f (k : Nat) (hk : 20 ≤ k) (kd : Int) (a b c : ByteArray) (id : Int) : keys_Text.f k kd a b c id = some (if goodK kd a b c id = true then (strOfNums (keyOct kd a b c id), true) else ((⟨#[]⟩ : ByteArray), false)) := by
  obtain ⟨k, rfl⟩ : ∃ j, k = j + 4 := ⟨k - 4, by omega⟩
  unfold keys_Text.f
  rw [good_f (k + 4) (by omega), Option.bind_some]
  by_cases hg : goodK kd a b c id = true
  · rw [if_pos hg, if_pos hg, has_f (k + 4) (by omega), Option.bind_some, Option.bind_some]
    obtain ⟨hkd, ha, hb, hc, _⟩ := good_sizes hg
    unfold keyOct
    have h5 : kd = 1 ∨ kd = 2 ∨ kd = 3 ∨ kd = 4 ∨ kd = 5 := by omega
    show keys_Text.l0 (k + 4) (hasK kd) [kd % 256] [a, b, c] 3 0 kd a b c id = _
    clear hg
    rcases h5 with rfl | rfl | rfl | rfl | rfl
    · exact text_n k (by omega) 1 1 a b c id true false false (by decide) (by decide) (by decide) (by decide) (fun _ => by omega) (fun _ => by omega) (fun _ => by omega)
    · exact text_n k (by omega) 1 2 a b c id true false false (by decide) (by decide) (by decide) (by decide) (fun _ => by omega) (fun _ => by omega) (fun _ => by omega)
    · exact text_n k (by omega) 7 3 a b c id true true false (by decide) (by decide) (by decide) (by decide) (fun _ => by omega) (fun _ => by omega) (fun _ => by omega)
    · exact text_n k (by omega) 8 4 a b c id false false true (by decide) (by decide) (by decide) (by decide) (fun _ => by omega) (fun _ => by omega) (fun _ => by omega)
    · exact text_n k (by omega) 9 5 a b c id true false true (by decide) (by decide) (by decide) (by decide) (fun _ => by omega) (fun _ => by omega) (fun _ => by omega)
  · rw [if_neg hg, if_neg hg]
/-! ### messages -/
def goodM (a b c : ByteArray) (m : Int) (l : List Int) : Bool := decide (a.size ≤ 30 ∧ b.size ≤ 60 ∧ c.size ≤ 60 ∧ 0 ≤ m ∧ m ≤ 2 ∧ l.length ≤ 10000)
theorem goodMsg_f (a b c : ByteArray) (m : Int) (l : List Int) : keys_goodMsg.f a b c m l = some (goodM a b c m l) := by
  unfold keys_goodMsg.f goodM
  by_cases h1 : (a.size : Int) ≤ 30
  case neg => rw [if_neg h1, decide_eq_false (by omega)]
  rw [if_pos h1]
  by_cases h2 : (b.size : Int) ≤ 60
  case neg => rw [if_neg h2, decide_eq_false (by omega)]
  rw [if_pos h2]
  by_cases h3 : (c.size : Int) ≤ 60
  case neg => rw [if_neg h3, decide_eq_false (by omega)]
  rw [if_pos h3]
  by_cases h4 : m ≥ 0
  case neg => rw [if_neg h4, decide_eq_false (by omega)]
  rw [if_pos h4]
  by_cases h5 : m ≤ 2
  case neg => rw [if_neg h5, decide_eq_false (by omega)]
  rw [if_pos h5]
  congr 1
  by_cases h6 : l.length ≤ 10000
  · rw [decide_eq_true (by omega), decide_eq_true (by omega)]
  · rw [decide_eq_false (by omega), decide_eq_false (by omega)]
def msgOct (a b c : ByteArray) (m : Int) (l : List Int) : List Int := part true a ++ (part true b ++ (part true c ++ (be 1 m ++ l)))
theorem msg_step (k : Nat) (hk : 9 ≤ k) (acc : List Int) (t : List ByteArray) (hl : t.length = 3) (i : Nat) (hi : i < 3) (s : ByteArray) (hs : t.getD i ByteArray.empty = s) (hz : s.size ≤ 255) (hacc : acc.length ≤ 1000) (a b c : ByteArray) (m : Int) (l : List Int) :
    keys_Msg.l0 (k + 1) acc t 3 (i : Int) a b c m l = keys_Msg.l0 k (acc ++ part true s) t 3 ((i + 1 : Nat) : Int) a b c m l := by
  have e2 : wrap64 ((i : Int) + 1) = ((i + 1 : Nat) : Int) := by rw [w64_id _ (by omega) (by omega)]; omega
  have e3 : rdOf ByteArray.empty t (i : Int) = s := by unfold rdOf; rw [Int.toNat_natCast]; exact hs
  rw [keys_Msg.l0, if_pos (by omega), if_pos (by omega), if_pos (by omega), e2, e3, Short_f k acc s hk (by omega), if_pos hz, Option.bind_some]
  unfold part
  rw [if_pos rfl]
theorem Msg_f (k : Nat) (hk : 20 ≤ k) (a b c : ByteArray) (m : Int) (l : List Int) : keys_Msg.f k a b c m l = some (if goodM a b c m l = true then (msgOct a b c m l, true) else ([], false)) := by
  obtain ⟨k, rfl⟩ : ∃ j, k = j + 4 := ⟨k - 4, by omega⟩
  unfold keys_Msg.f
  rw [goodMsg_f, Option.bind_some]
  by_cases hg : goodM a b c m l = true
  · rw [if_pos hg, if_pos hg, Option.bind_some]
    obtain ⟨h1, h2, h3, h4, h5, h6⟩ := of_decide_eq_true hg
    have pa : (part true a).length = 1 + a.size := by rw [part_len, if_pos rfl]
    have pb : (part true b).length = 1 + b.size := by rw [part_len, if_pos rfl]
    have pc : (part true c).length = 1 + c.size := by rw [part_len, if_pos rfl]
    have s0 := msg_step (k + 3) (by omega) [] [a, b, c] rfl 0 (by omega) a rfl (by omega) (by simp) a b c m l
    have s1 := msg_step (k + 2) (by omega) ([] ++ part true a) [a, b, c] rfl 1 (by omega) b rfl (by omega) (by rw [List.length_append, pa]; simp; omega) a b c m l
    have s2 := msg_step (k + 1) (by omega) (([] ++ part true a) ++ part true b) [a, b, c] rfl 2 (by omega) c rfl (by omega) (by rw [List.length_append, List.length_append, pa, pb]; simp; omega) a b c m l
    have s3 := s0.trans (s1.trans s2)
    rw [show ((0 : Nat) : Int) = 0 from rfl] at s3
    have hu : IntKind.u64.wrap m = m := u64_id m h4 (by omega)
    have h8 : wd 1 = 1 := by decide
    show keys_Msg.l0 (k + 4) [] [a, b, c] 3 0 a b c m l = _
    rw [s3, keys_Msg.l0, if_neg (by omega), hu, Int_f k (by omega) _ 1 m (by rw [List.length_append, List.length_append, List.length_append, pa, pb, pc]; simp; omega), h8, Option.bind_some, if_pos (by rw [List.length_append, List.length_append, List.length_append, List.length_append, pa, pb, pc, be_len]; simp; omega)]
    unfold msgOct
    simp only [List.append_assoc, List.nil_append]
  · rw [if_neg hg, if_neg hg]
/-! ### octets of a text -/
theorem bytesOf_str {l : List Int} (ho : Oct l) : bytesOf (strOfNums l) = l := by
  unfold bytesOf
  rw [strOfNums_data, List.map_map]
  have h : l.map ((fun b : UInt8 => (b.toNat : Int)) ∘ fun n : Int => UInt8.ofNat n.toNat) = l.map id := by
    refine List.map_congr_left (fun c hc => ?_)
    have hc := ho c hc
    show (((UInt8.ofNat c.toNat).toNat : Nat) : Int) = c
    rw [u8_toNat c hc]
    omega
  rw [h, List.map_id]
theorem size_str (l : List Int) : (strOfNums l).size = l.length := by
  rw [← bytesOf_len]
  unfold bytesOf
  rw [strOfNums_data, List.length_map, List.length_map]
theorem u64_wf {a : Int} (h : (Lit.int .u64 a).wf = true) : 0 ≤ a ∧ a < 18446744073709551616 := by
  simp [Lit.wf, IntKind.min, IntKind.max, IntKind.signed, IntKind.bits] at h
  omega
theorem goodK_of {kd : Int} {a b c : ByteArray} {id : Int} (hk : 1 ≤ kd ∧ kd ≤ 5) (ha : nameOk a (wA kd) = true) (hb : nameOk b (wB kd) = true) (hc : c.size = 0 ∨ wB kd = true) (hc2 : c.size ≤ 60) (hi : decide (id > 0) = wI kd) : goodK kd a b c id = true := by
  unfold goodK restOk
  rw [ha, hb, hi, show kindOk kd = true from decide_eq_true hk, decide_eq_true hc2]
  have h4 : (decide (c.size = 0) || wB kd) = true := by
    rcases hc with h | h
    · rw [decide_eq_true h]; rfl
    · rw [h, Bool.or_true]
  rw [h4]
  simp
theorem cut_ok (s : ByteArray) (n : Int) (hn : 0 ≤ n) : 0 ≤ mn (s.size : Int) n ∧ mn (s.size : Int) n ≤ (s.size : Int) ∧ ((s.extract 0 (mn (s.size : Int) n).toNat).size : Int) ≤ n := by
  have h : (s.extract 0 (mn (s.size : Int) n).toNat).size = min (mn (s.size : Int) n).toNat s.size := by rw [ByteArray.size_extract]; omega
  rw [h]
  unfold mn
  split <;> omega
theorem kind_bound (a : Int) : 1 ≤ wrap64 ((Int.tmod (wrap64 ((Int.tmod a 5) + 5)) 5) + 1) ∧ wrap64 ((Int.tmod (wrap64 ((Int.tmod a 5) + 5)) 5) + 1) ≤ 5 := by
  have h1 : -5 < Int.tmod a 5 ∧ Int.tmod a 5 < 5 := by
    constructor
    · exact Int.lt_tmod_of_pos a (by decide)
    · exact Int.tmod_lt_of_pos a (by decide)
  generalize Int.tmod a 5 = x at *
  rw [w64_id (x + 5) (by omega) (by omega)]
  have h2 := Int.tmod_lt_of_pos (x + 5) (show (0 : Int) < 5 by decide)
  have h3 : 0 ≤ Int.tmod (x + 5) 5 := Int.tmod_nonneg 5 (by omega)
  generalize Int.tmod (x + 5) 5 = y at *
  rw [w64_id (y + 1) (by omega) (by omega)]
  omega
theorem cut_name (h : ByteArray) (hh : h.size = 1) (s : ByteArray) (hs : (s.size : Int) ≤ 29) : nameOk (h ++ s) true = true := by
  refine decide_eq_true ?_
  rw [ByteArray.size_append]
  omega
theorem mx_pos (x : Int) : mx x 1 > 0 := by unfold mx; split <;> omega
theorem mx_lt (x : Int) (h : x < 18446744073709551616) : mx x 1 < 18446744073709551616 := by unfold mx; split <;> omega
theorem tame_f (k : Nat) (hk : 1 ≤ k) (a0 : Int) (a b c : ByteArray) (id : Int) (hi : id < 18446744073709551616) :
    ∃ kd a' b' c' id', waybilllaw12_Tame.f k a0 a b c id = some (kd, a', b', c', id') ∧ goodK kd a' b' c' id' = true ∧ 0 ≤ id' ∧ id' < 18446744073709551616 := by
  obtain ⟨k, rfl⟩ : ∃ j, k = j + 1 := ⟨k - 1, by omega⟩
  unfold waybilllaw12_Tame.f
  have hKb := kind_bound a0
  generalize wrap64 ((Int.tmod (wrap64 ((Int.tmod a0 5) + 5)) 5) + 1) = K at *
  have m1 := mx_pos id
  have m2 := mx_lt id hi
  have ca := cut_ok a 29 (by omega)
  have cb := cut_ok b 29 (by omega)
  have cc := cut_ok c 60 (by omega)
  have na := cut_name ⟨#[97]⟩ rfl _ ca.2.2
  have nb := cut_name ⟨#[98]⟩ rfl _ cb.2.2
  have e0 : nameOk (⟨#[]⟩ : ByteArray) false = true := by decide
  have z0 : (⟨#[]⟩ : ByteArray).size = 0 := rfl
  have h5 : K = 1 ∨ K = 2 ∨ K = 3 ∨ K = 4 ∨ K = 5 := by omega
  rcases h5 with rfl | rfl | rfl | rfl | rfl
  · rw [if_neg (by decide), if_pos ca.1, if_pos ca.2.1, if_pos (by omega), waybilllaw12_Tame.j0, if_neg (by decide), if_neg (by decide)]
    exact ⟨_, _, _, _, _, rfl, goodK_of (by decide) na e0 (Or.inl z0) (by rw [z0]; omega) (by decide), by decide, by decide⟩
  · rw [if_neg (by decide), if_pos ca.1, if_pos ca.2.1, if_pos (by omega), waybilllaw12_Tame.j0, if_neg (by decide), if_neg (by decide)]
    exact ⟨_, _, _, _, _, rfl, goodK_of (by decide) na e0 (Or.inl z0) (by rw [z0]; omega) (by decide), by decide, by decide⟩
  · rw [if_neg (by decide), if_pos ca.1, if_pos ca.2.1, if_pos (by omega), waybilllaw12_Tame.j0, if_pos (by decide), if_pos cb.1, if_pos cb.2.1, if_pos (by omega), if_pos cc.1, if_pos cc.2.1, if_neg (by decide)]
    exact ⟨_, _, _, _, _, rfl, goodK_of (by decide) na nb (Or.inr (by decide)) (by omega) (by decide), by decide, by decide⟩
  · rw [if_pos rfl, waybilllaw12_Tame.j0, if_neg (by decide), if_pos (by decide)]
    exact ⟨_, _, _, _, _, rfl, goodK_of (by decide) e0 e0 (Or.inl z0) (by rw [z0]; omega) (by rw [decide_eq_true m1]; decide), by omega, m2⟩
  · rw [if_neg (by decide), if_pos ca.1, if_pos ca.2.1, if_pos (by omega), waybilllaw12_Tame.j0, if_neg (by decide), if_pos (by decide)]
    exact ⟨_, _, _, _, _, rfl, goodK_of (by decide) na e0 (Or.inl z0) (by rw [z0]; omega) (by rw [decide_eq_true m1]; decide), by omega, m2⟩
theorem Num_l0 (l : List Int) (a n : Nat) (ho : Oct l) (hn : n ≤ 8) (ha : a + n ≤ l.length) (hl : l.length < 140737488355328) : ∀ (d i K : Nat) (v : Int), n - i = d → i ≤ n → d < K → 0 ≤ v → v < 256 ^ i →
    waybillref1_Num.l0 K l (a : Int) (n : Int) v (i : Int) = some (numA v ((l.drop (a + i)).take d), true) := by
  intro d
  induction d with
  | zero =>
    intro i K v hd hi hk h0 hv
    obtain ⟨K, rfl⟩ : ∃ j, K = j + 1 := ⟨K - 1, by omega⟩
    rw [waybillref1_Num.l0, if_neg (by omega)]
    simp [numA]
  | succ d ih =>
    intro i K v hd hi hk h0 hv
    obtain ⟨K, rfl⟩ : ∃ j, K = j + 1 := ⟨K - 1, by omega⟩
    have hp : (256 : Int) ^ (i + 1) ≤ 18446744073709551616 := p256_le (i + 1) (by omega)
    have hps : (256 : Int) ^ (i + 1) = 256 ^ i * 256 := Int.pow_succ _ _
    rw [waybillref1_Num.l0, if_pos (by omega), w64_id ((a : Int) + i) (by omega) (by omega), if_pos (by omega), if_pos (by omega)]
    rw [show (a : Int) + (i : Int) = ((a + i : Nat) : Int) by omega, rd_at]
    have hb := getD_oct ho (a + i)
    rw [or_byte v _ h0 (by omega) hb.1 hb.2, w64_id _ (by omega) (by omega), show (i : Int) + 1 = ((i + 1 : Nat) : Int) by omega]
    rw [ih (i + 1) K _ (by omega) (by omega) (by omega) (by omega) (by omega)]
    rw [drop_at l (a + i) (by omega), List.take_succ_cons, numA, show a + i + 1 = a + (i + 1) by omega]
theorem Num_f (k : Nat) (hk : 12 ≤ k) (l : List Int) (a n : Nat) (ho : Oct l) (hn : n ≤ 8) (hl : l.length < 140737488355328) (ha : a < 140737488355328) :
    waybillref1_Num.f k l (a : Int) (n : Int) = some (if a + n ≤ l.length then (num ((l.drop a).take n), true) else (0, false)) := by
  obtain ⟨k, rfl⟩ : ∃ j, k = j + 1 := ⟨k - 1, by omega⟩
  unfold waybillref1_Num.f
  rw [if_neg (by omega), w64_id _ (by omega) (by omega), waybillref1_Num.j0]
  by_cases h : a + n ≤ l.length
  · rw [if_pos h, decide_eq_false (by omega), if_neg (by simp)]
    have := Num_l0 l a n ho hn h hl n 0 k 0 (by omega) (by omega) (by omega) (by omega) (by simp)
    simpa [num] using this
  · rw [if_neg h, decide_eq_true (by omega), if_pos rfl]
/-- What a text's octets are, and where what follows begins. -/
def rtxt (l : List Int) (a n : Nat) : List Int × Int × Bool := match txt (l.drop a) n with
  | none => ([], 0, false)
  | some (x, r) => (x, (a : Int) + n + x.length, true)
theorem txt_some {l : List Int} {n : Nat} {x r : List Int} (h : txt l n = some (x, r)) : n + x.length ≤ l.length ∧ x = (l.drop n).take x.length ∧ r = l.drop (n + x.length) := by
  unfold txt at h
  by_cases h1 : l.length < n
  · rw [if_pos h1] at h; cases h
  rw [if_neg h1] at h
  by_cases h2 : (l.length : Int) - n < num (l.take n)
  · rw [if_pos h2] at h; cases h
  rw [if_neg h2] at h
  simp only [Option.some.injEq, Prod.mk.injEq] at h
  obtain ⟨rfl, rfl⟩ := h
  have hl : ((l.drop n).take (num (l.take n)).toNat).length = (num (l.take n)).toNat := by rw [List.length_take, List.length_drop]; omega
  rw [hl]
  exact ⟨by omega, rfl, by rw [List.drop_drop]⟩
theorem rtxt_no {l : List Int} {a n : Nat} (h : txt (l.drop a) n = none) : rtxt l a n = ([], 0, false) := by unfold rtxt; rw [h]
theorem rtxt_yes {l : List Int} {a n : Nat} {x r : List Int} (h : txt (l.drop a) n = some (x, r)) : rtxt l a n = (x, (a : Int) + n + x.length, true) := by unfold rtxt; rw [h]
theorem txt_none1 {l : List Int} {n : Nat} (h : l.length < n) : txt l n = none := by unfold txt; rw [if_pos h]
theorem txt_none2 {l : List Int} {n : Nat} (h : ¬ l.length < n) (h2 : (l.length : Int) - n < num (l.take n)) : txt l n = none := by unfold txt; rw [if_neg h, if_pos h2]
theorem txt_yes {l : List Int} {n : Nat} (h : ¬ l.length < n) (h2 : ¬ (l.length : Int) - n < num (l.take n)) : txt l n = some ((l.drop n).take (num (l.take n)).toNat, (l.drop n).drop (num (l.take n)).toNat) := by unfold txt; rw [if_neg h, if_neg h2]
theorem w_left (a n l : Int) (h0 : 0 ≤ a) (h1 : 0 ≤ n) (h2 : a + n ≤ l) (h3 : l < 100000000) : IntKind.u64.wrap (wrap64 (wrap64 (l - a) - n)) = l - a - n := by
  rw [w64_id (l - a) (by omega) (by omega), w64_id (l - a - n) (by omega) (by omega), u64_id _ (by omega) (by omega)]
theorem w_sum (a n : Int) (h0 : 0 ≤ a) (h1 : 0 ≤ n) (h2 : a + n < 100000000) : wrap64 (a + n) = a + n := w64_id _ (by omega) (by omega)
theorem w_one (a : Int) (h0 : 0 ≤ a) (h2 : a < 100000000) : wrap64 a = a := w64_id _ (by omega) (by omega)
theorem cut_text (l : List Int) (a n X : Nat) : (l.take ((a : Int) + n + X).toNat).drop ((a : Int) + n).toNat = ((l.drop a).drop n).take (X : Int).toNat := by
  rw [show ((a : Int) + n + X).toNat = a + n + X by omega, show ((a : Int) + n).toNat = a + n by omega, List.drop_take, List.drop_drop, show a + n + X - (a + n) = (X : Int).toNat by omega]
theorem RText_f (k : Nat) (hk : 12 ≤ k) (l : List Int) (a n : Nat) (ho : Oct l) (hn : n ≤ 8) (hl : l.length < 100000000) (ha : a ≤ l.length) :
    waybillref1_Text.f k l (a : Int) (n : Int) = some (rtxt l a n) := by
  unfold waybillref1_Text.f
  rw [Num_f k hk l a n ho hn (by omega) (by omega), Option.bind_some]
  have hdl : (l.drop a).length = l.length - a := List.length_drop
  by_cases h : a + n ≤ l.length
  · have hlt : ((l.drop a).take n).length = n := by rw [List.length_take]; omega
    have hb := (num_bound _ (oct_take (oct_drop ho a) n)).1
    have hn1 : ¬ (l.drop a).length < n := by omega
    have hsub : ((l.drop a).length : Int) - n = (l.length : Int) - a - n := by omega
    have e1 := w_left (a : Int) n l.length (by omega) (by omega) (by omega) (by omega)
    have e2 := w_sum (a : Int) n (by omega) (by omega) (by omega)
    by_cases h2 : num ((l.drop a).take n) > (l.length : Int) - a - n
    · rw [rtxt_no (txt_none2 hn1 (by rw [hsub]; exact h2)), if_pos h]
      simp only [if_true]
      rw [e1, e2, if_pos h2]
    · have hy := txt_yes hn1 (by rw [hsub]; exact h2)
      obtain ⟨X, hX⟩ : ∃ X, num ((l.drop a).take n) = X := ⟨_, rfl⟩
      rw [hX] at hb hy h2
      clear e1 e2 hsub
      obtain ⟨x, rfl⟩ : ∃ x : Nat, X = x := ⟨X.toNat, by omega⟩
      have q1 : (0 : Int) ≤ (a : Int) + n := by omega
      have q2 : (a : Int) + n ≤ (a : Int) + n + x := by omega
      have q3 : (a : Int) + n + x ≤ (l.length : Int) := by omega
      have e7 : (((l.drop a).drop n).take (x : Int).toNat).length = x := by rw [List.length_take, List.length_drop]; omega
      have z0 : (0 : Int) ≤ (a : Int) := by omega
      have z1 : (0 : Int) ≤ (n : Int) := by omega
      have z2 : (0 : Int) ≤ (x : Int) := by omega
      have z3 : (a : Int) + n ≤ (l.length : Int) := by omega
      have z4 : (l.length : Int) < 100000000 := by omega
      have z5 : (a : Int) + n < 100000000 := by omega
      have z6 : (x : Int) < 100000000 := by omega
      have z7 : (a : Int) + n + x < 100000000 := by omega
      have e1 := w_left (a : Int) n l.length z0 z1 z3 z4
      have e2 := w_sum (a : Int) n z0 z1 z5
      have e4 := w_one (x : Int) z2 z6
      have e5 := w_sum ((a : Int) + n) x q1 z2 z7
      rw [rtxt_yes hy, if_pos h]
      simp only [if_true]
      rw [e1, e2, hX, if_neg h2, if_pos q1, e4, e5, if_pos q2, if_pos q3, cut_text, e7]
  · rw [if_neg h, rtxt_no (txt_none1 (by omega))]
    rfl
theorem In_Rest (l : List Int) (hl : l.length < 140737488355328) : octs_In_Rest.f l false = some (l, [], false) := by
  unfold octs_In_Rest.f
  rw [u64_id _ (by omega) (by omega), take_f l _ (by omega) hl, if_neg (by omega), Option.bind_some]
  simp
theorem In_Rest_bad (l : List Int) : octs_In_Rest.f l true = some ([], [], true) := by
  unfold octs_In_Rest.f
  rw [take_bad]
  rfl
theorem ba_inj {s t : ByteArray} (h : s.toList = t.toList) : s = t := by
  rw [ByteArray.toList_eq, ByteArray.toList_eq] at h
  cases s
  cases t
  have h2 := Array.toList_inj.1 h
  exact congrArg ByteArray.mk h2
theorem ba_nil {s : ByteArray} (h : s.size = 0) : s = ⟨#[]⟩ := ba_inj (((size_zero s).2 h).trans ((size_zero ⟨#[]⟩).2 rfl).symm)
theorem be1 (v : Int) : be 1 v = [v % 256] := by
  show [(v / 256 ^ 0) % 256] = _
  rw [Int.pow_zero, Int.ediv_one]
theorem part_true (s : ByteArray) (rest : List Int) : part true s ++ rest = be 1 (s.size : Int) ++ (bytesOf s ++ rest) := by
  unfold part
  rw [if_pos rfl, List.append_assoc]
theorem part_false (s : ByteArray) (rest : List Int) : part false s ++ rest = rest := rfl
theorem step0 (k q : Nat) (hk : 9 ≤ k) (n : Int) (w : Bool) (ht : keys_Parse.tst n 0 = w) (s : ByteArray) (hs : s.size ≤ 255) (hz : w = false → s.size = 0) (rest : List Int) (ho : Oct rest) (hl : rest.length ≤ 1000) (x y : ByteArray) :
    keys_Parse.l0 k (q + 1) n 0 (part w s ++ rest) false ⟨#[]⟩ x y = keys_Parse.l0 k q n 1 rest false s x y := by
  rw [keys_Parse.l0, if_pos (by decide), ht]
  cases w with
  | true => rw [if_pos rfl, part_true, read_short k s rest hs hk ho (by omega), Option.bind_some]; rfl
  | false => rw [if_neg (by decide), ba_nil (hz rfl), part_false]; rfl
theorem step1 (k q : Nat) (hk : 9 ≤ k) (n : Int) (w : Bool) (ht : keys_Parse.tst n 1 = w) (s : ByteArray) (hs : s.size ≤ 255) (hz : w = false → s.size = 0) (rest : List Int) (ho : Oct rest) (hl : rest.length ≤ 1000) (x y : ByteArray) :
    keys_Parse.l0 k (q + 1) n 1 (part w s ++ rest) false x ⟨#[]⟩ y = keys_Parse.l0 k q n 2 rest false x s y := by
  rw [keys_Parse.l0, if_pos (by decide), ht]
  cases w with
  | true => rw [if_pos rfl, part_true, read_short k s rest hs hk ho (by omega), Option.bind_some]; rfl
  | false => rw [if_neg (by decide), ba_nil (hz rfl), part_false]; rfl
theorem step2 (k q : Nat) (hk : 9 ≤ k) (n : Int) (w : Bool) (ht : keys_Parse.tst n 2 = w) (s : ByteArray) (hs : s.size ≤ 255) (hz : w = false → s.size = 0) (rest : List Int) (ho : Oct rest) (hl : rest.length ≤ 1000) (x y : ByteArray) :
    keys_Parse.l0 k (q + 1) n 2 (part w s ++ rest) false x y ⟨#[]⟩ = keys_Parse.l0 k q n 3 rest false x y s := by
  rw [keys_Parse.l0, if_pos (by decide), ht]
  cases w with
  | true => rw [if_pos rfl, part_true, read_short k s rest hs hk ho (by omega), Option.bind_some]; rfl
  | false => rw [if_neg (by decide), ba_nil (hz rfl), part_false]; rfl
theorem end_f (k : Nat) (hk : 2 ≤ k) (kd : Int) (a b c : ByteArray) (id : Int) (hg : goodK kd a b c id = true) : keys_Parse.end_ k kd a b c id [] false = some (kd, a, b, c, id, true) := by
  unfold keys_Parse.end_ octs_In_Ok.f octs_In_Left.f
  rw [Option.bind_some, if_pos (by decide), Option.bind_some, if_neg (by decide), good_f k hk, hg, Option.bind_some, if_pos rfl]
theorem parse_n (k : Nat) (hk : 20 ≤ k) (n kd : Int) (wa wb wi : Bool) (hn : hasK kd = n) (t0 : keys_Parse.tst n 0 = wa) (t1 : keys_Parse.tst n 1 = wb) (t2 : keys_Parse.tst n 2 = wb) (hi : Go.bits .and .i64 n 8 = 0 ↔ wi = false) (hkd : 1 ≤ kd ∧ kd ≤ 5)
    (a b c : ByteArray) (id : Int) (ha : a.size ≤ 255) (hb : b.size ≤ 255) (hc : c.size ≤ 255) (za : wa = false → a.size = 0) (zb : wb = false → b.size = 0) (zc : wb = false → c.size = 0) (zi : wi = false → id = 0) (hid : 0 ≤ id ∧ id < 18446744073709551616) (hg : goodK kd a b c id = true) :
    keys_Parse.f k (strOfNums ([kd % 256] ++ (part wa a ++ (part wb b ++ (part wb c ++ idO wi id))))) = some (kd, a, b, c, id, true) := by
  have oi := idO_oct wi id
  have oc := oct_app (part_oct wb c) oi
  have ob := oct_app (part_oct wb b) oc
  have oa := oct_app (part_oct wa a) ob
  have o1 : Oct [kd % 256] := by intro x hx; rw [List.mem_singleton] at hx; omega
  have li : (idO wi id).length ≤ 8 := by rw [idO_len]; split <;> omega
  have lc : (part wb c).length ≤ 256 := by rw [part_len]; split <;> omega
  have lb : (part wb b).length ≤ 256 := by rw [part_len]; split <;> omega
  have la : (part wa a).length ≤ 256 := by rw [part_len]; split <;> omega
  have mc : (part wb c ++ idO wi id).length ≤ 264 := by rw [List.length_append]; omega
  have mb : (part wb b ++ (part wb c ++ idO wi id)).length ≤ 520 := by rw [List.length_append]; omega
  have ma : (part wa a ++ (part wb b ++ (part wb c ++ idO wi id))).length ≤ 776 := by rw [List.length_append]; omega
  have hsz : (strOfNums ([kd % 256] ++ (part wa a ++ (part wb b ++ (part wb c ++ idO wi id))))).size ≤ 9223372036854775807 := by rw [size_str, List.length_append]; simp only [List.length_singleton]; omega
  unfold keys_Parse.f octs_From.f
  rw [if_pos hsz, Option.bind_some, bytesOf_str (oct_app o1 oa), ← be1]
  dsimp only
  rw [read_be k 1 1 (by decide) kd _ (by omega) oa (by omega), Option.bind_some]
  have e1 : kd % 256 ^ 1 = kd := by rw [Int.pow_one]; omega
  dsimp only
  rw [e1, w64_id kd (by omega) (by omega), has_f k (by omega), hn, Option.bind_some]
  have s0 := step0 k 3 (by omega) n wa t0 a ha za _ ob (by omega) ⟨#[]⟩ ⟨#[]⟩
  have s1 := step1 k 2 (by omega) n wb t1 b hb zb _ oc (by omega) a ⟨#[]⟩
  have s2 := step2 k 1 (by omega) n wb t2 c hc zc _ oi (by omega) a b
  have s3 : keys_Parse.l0 k 4 n 0 (part wa a ++ (part wb b ++ (part wb c ++ idO wi id))) false ⟨#[]⟩ ⟨#[]⟩ ⟨#[]⟩ = some (idO wi id, false, a, b, c) := (s0.trans (s1.trans s2)).trans rfl
  rw [s3, Option.bind_some]
  cases wi with
  | false =>
    rw [if_pos (hi.2 rfl)]
    have hz := zi rfl
    subst hz
    exact end_f k (by omega) kd a b c 0 hg
  | true =>
    rw [if_neg (fun hh => by have := hi.1 hh; cases this)]
    have e8 : id % 256 ^ 8 = id := by rw [show (256 : Int) ^ 8 = 18446744073709551616 by decide]; exact Int.emod_eq_of_lt hid.1 hid.2
    have r8 := read_be k 8 8 (by decide) id [] (by omega) oct_nil (by simp)
    rw [List.append_nil, e8] at r8
    show ((octs_In_Int.f k (be 8 id) false 8).bind _) = _
    rw [r8, Option.bind_some]
    exact end_f k (by omega) kd a b c id hg
theorem parse_f (k : Nat) (hk : 20 ≤ k) (kd : Int) (a b c : ByteArray) (id : Int) (hg : goodK kd a b c id = true) (hid : 0 ≤ id ∧ id < 18446744073709551616) : keys_Parse.f k (strOfNums (keyOct kd a b c id)) = some (kd, a, b, c, id, true) := by
  obtain ⟨hkd, ha, hb, hc, _, za, _, zb, zi⟩ := good_sizes hg
  have zi2 : wI kd = false → id = 0 := by
    intro h
    have : ¬ id > 0 := fun hh => by have := zi.1 hh; rw [h] at this; cases this
    omega
  have h5 : kd = 1 ∨ kd = 2 ∨ kd = 3 ∨ kd = 4 ∨ kd = 5 := by omega
  unfold keyOct
  rcases h5 with rfl | rfl | rfl | rfl | rfl
  · exact parse_n k hk 1 1 true false false rfl (by decide) (by decide) (by decide) (by decide) hkd a b c id (by omega) (by omega) (by omega) za (fun h => (zb h).1) (fun h => (zb h).2) zi2 hid hg
  · exact parse_n k hk 1 2 true false false rfl (by decide) (by decide) (by decide) (by decide) hkd a b c id (by omega) (by omega) (by omega) za (fun h => (zb h).1) (fun h => (zb h).2) zi2 hid hg
  · exact parse_n k hk 7 3 true true false rfl (by decide) (by decide) (by decide) (by decide) hkd a b c id (by omega) (by omega) (by omega) za (fun h => (zb h).1) (fun h => (zb h).2) zi2 hid hg
  · exact parse_n k hk 8 4 false false true rfl (by decide) (by decide) (by decide) (by decide) hkd a b c id (by omega) (by omega) (by omega) za (fun h => (zb h).1) (fun h => (zb h).2) zi2 hid hg
  · exact parse_n k hk 9 5 true false true rfl (by decide) (by decide) (by decide) (by decide) hkd a b c id (by omega) (by omega) (by omega) za (fun h => (zb h).1) (fun h => (zb h).2) zi2 hid hg
theorem same_self (a b c : ByteArray) (m : Int) (l : List Int) : waybillref7_SameMsg.f a b c m l a b c m l = some true := by
  unfold waybillref7_SameMsg.f
  rw [if_pos rfl, if_pos rfl, if_pos rfl, if_pos rfl]
  congr 1
  exact beq_self_eq_true _
theorem be_shift : ∀ (n : Nat) (c v : Int), be n (c * 256 ^ n + v) = be n v
  | 0, _, _ => rfl
  | n + 1, c, v => by
    have hp := p256_pos n
    have h1 : c * 256 ^ (n + 1) + v = (c * 256) * 256 ^ n + v := by rw [Int.pow_succ]; grind
    have h2 : ((c * 256) * 256 ^ n + v) / 256 ^ n % 256 = v / 256 ^ n % 256 := by
      rw [Int.add_comm, Int.add_mul_ediv_right _ _ (by omega)]
      omega
    rw [h1, be, be, h2, be_shift n (c * 256) v]
theorem be_num : ∀ (l : List Int), Oct l → be l.length (num l) = l
  | [], _ => rfl
  | c :: l, ho => by
    obtain ⟨hc, hl⟩ := oct_cons ho
    have hb := num_bound l hl
    have hp := p256_pos l.length
    have h2 : (c * 256 ^ l.length + num l) / 256 ^ l.length = c := by
      rw [Int.add_comm, Int.add_mul_ediv_right _ _ (by omega), Int.ediv_eq_zero_of_lt hb.1 hb.2, Int.zero_add]
    rw [num_cons, List.length_cons, be, h2, be_shift, be_num l hl, Int.emod_eq_of_lt hc.1 hc.2]
theorem txt_inv {l x r : List Int} (ho : Oct l) (h : txt l 1 = some (x, r)) : l = part true (strOfNums x) ++ r ∧ x.length ≤ 255 ∧ Oct x ∧ Oct r ∧ r.length < l.length := by
  obtain ⟨h1, h2, h3⟩ := txt_some h
  have ox : Oct x := by rw [h2]; exact oct_take (oct_drop ho 1) _
  have or_ : Oct r := by rw [h3]; exact oct_drop ho _
  have hn : num (l.take 1) = (x.length : Int) := by
    unfold txt at h
    rw [if_neg (by omega)] at h
    by_cases q : (l.length : Int) - (1 : Nat) < num (l.take 1)
    · rw [if_pos q] at h; cases h
    · rw [if_neg q] at h
      simp only [Option.some.injEq, Prod.mk.injEq] at h
      have hb := (num_bound _ (oct_take ho 1)).1
      have hl := congrArg List.length h.1
      rw [List.length_take, List.length_drop] at hl
      omega
  have hb := num_bound _ (oct_take ho 1)
  have ht : (l.take 1).length = 1 := by rw [List.length_take]; omega
  rw [ht, Int.pow_one] at hb
  have hbe := be_num (l.take 1) (oct_take ho 1)
  rw [ht, hn] at hbe
  refine ⟨?_, by omega, ox, or_, by rw [h3, List.length_drop]; omega⟩
  rw [part_true, size_str, bytesOf_str ox, hbe]
  have e1 : (l.drop 1).take x.length ++ (l.drop 1).drop x.length = l.drop 1 := List.take_append_drop _ _
  rw [List.drop_drop] at e1
  rw [← h2, ← h3] at e1
  rw [e1, List.take_append_drop]
def failK : Int × ByteArray × ByteArray × ByteArray × Int × Bool := (0, ⟨#[]⟩, ⟨#[]⟩, ⟨#[]⟩, 0, false)
/-- What a reader of keys may answer to a text. -/
def Ans (y : ByteArray) (r : Int × ByteArray × ByteArray × ByteArray × Int × Bool) : Prop :=
  r = failK ∨ ∃ kd a b c id, r = (kd, a, b, c, id, true) ∧ goodK kd a b c id = true ∧ (0 ≤ id ∧ id < 18446744073709551616) ∧ y = strOfNums (keyOct kd a b c id)
theorem bad_l0 (k : Nat) (n : Int) : ∀ (q : Nat) (i : Int) (l : List Int) (a0 a1 a2 : ByteArray), (q = 0 → False) → 3 - i < (q : Int) → ∃ l' b0 b1 b2, keys_Parse.l0 k q n i l true a0 a1 a2 = some (l', true, b0, b1, b2) := by
  intro q
  induction q with
  | zero =>
    intro i l a0 a1 a2 h0 h
    exact absurd rfl h0
  | succ q ih =>
    intro i l a0 a1 a2 _ h
    rw [keys_Parse.l0]
    by_cases hi : i < 3
    · rw [if_pos hi]
      by_cases ht : keys_Parse.tst n i = true
      · rw [if_pos ht, In_Short_bad, Option.bind_some]
        exact ih (i + 1) _ _ _ _ (by omega) (by omega)
      · rw [if_neg ht]
        exact ih (i + 1) _ _ _ _ (by omega) (by omega)
    · rw [if_neg hi]; exact ⟨_, _, _, _, rfl⟩
theorem end_bad (k : Nat) (kd : Int) (a b c : ByteArray) (id : Int) (l : List Int) : keys_Parse.end_ k kd a b c id l true = some failK := by
  unfold keys_Parse.end_ octs_In_Ok.f
  rw [Option.bind_some, if_neg (show ¬ ((!true) = true) by decide)]
  rfl
theorem step_w (k q : Nat) (hk : 9 ≤ k) (n i : Int) (hi : i < 3) (w : Bool) (ht : keys_Parse.tst n i = w) (l : List Int) (ho : Oct l) (hl : l.length ≤ 1000) (a0 a1 a2 : ByteArray) (hq : 2 - i < (q : Int)) :
    (∃ l' b0 b1 b2, keys_Parse.l0 k (q + 1) n i l false a0 a1 a2 = some (l', true, b0, b1, b2)) ∨
    ∃ (s : ByteArray) (r : List Int), l = part w s ++ r ∧ (w = false → s = ⟨#[]⟩) ∧ Oct r ∧ r.length ≤ 1000 ∧ keys_Parse.l0 k (q + 1) n i l false a0 a1 a2 = keys_Parse.l0 k q n (i + 1) r false (if w = true ∧ i = 0 then s else a0) (if w = true ∧ i = 1 then s else a1) (if w = true ∧ i = 2 then s else a2) := by
  rw [keys_Parse.l0, if_pos hi, ht]
  cases w with
  | false =>
    refine Or.inr ⟨⟨#[]⟩, l, rfl, fun _ => rfl, ho, hl, ?_⟩
    rw [if_neg (by decide), if_neg (by simp), if_neg (by simp), if_neg (by simp)]
  | true =>
    rw [if_pos rfl, In_Short k l hk ho (by omega), Option.bind_some]
    cases h : txt l 1 with
    | none => exact Or.inl (bad_l0 k n q (i + 1) _ _ _ _ (by omega) (by omega))
    | some p =>
      obtain ⟨x, r⟩ := p
      obtain ⟨h1, h2, h3, h4, h5⟩ := txt_inv ho h
      refine Or.inr ⟨strOfNums x, r, h1, fun e => Bool.noConfusion e, h4, by omega, ?_⟩
      by_cases e0 : i = 0
      · subst e0; rfl
      · by_cases e1 : i = 1
        · subst e1; rfl
        · have e2 : i = 2 ∨ i ≠ 2 := by omega
          rcases e2 with e2 | e2
          · subst e2; rfl
          · show keys_Parse.l0 k q n (i + 1) r false (if i = 0 then strOfNums x else a0) (if i = 1 then strOfNums x else a1) (if i = 2 then strOfNums x else a2) = _
            rw [if_neg e0, if_neg e1, if_neg e2, if_neg (fun h => e0 h.2), if_neg (fun h => e1 h.2), if_neg (fun h => e2 h.2)]
theorem sound_n (k : Nat) (hk : 20 ≤ k) (n kd : Int) (wa wb wi : Bool) (t0 : keys_Parse.tst n 0 = wa) (t1 : keys_Parse.tst n 1 = wb) (t2 : keys_Parse.tst n 2 = wb) (hi : Go.bits .and .i64 n 8 = 0 ↔ wi = false) (l : List Int) (ho : Oct l) (hl : l.length ≤ 1000)
    (y : ByteArray) (hy : ∀ A B C id, l = part wa A ++ (part wb B ++ (part wb C ++ idO wi id)) → goodK kd A B C id = true → y = strOfNums (keyOct kd A B C id)) :
    ∃ r, ((keys_Parse.l0 k 4 n 0 l false (⟨#[]⟩ : ByteArray) (⟨#[]⟩ : ByteArray) (⟨#[]⟩ : ByteArray)).bind fun t =>
    if Go.bits .and .i64 n 8 = 0 then keys_Parse.end_ k kd t.2.2.1 t.2.2.2.1 t.2.2.2.2 0 t.1 t.2.1
    else ((octs_In_Int.f k t.1 t.2.1 8).bind fun d => keys_Parse.end_ k kd t.2.2.1 t.2.2.2.1 t.2.2.2.2 d.1 d.2.1 d.2.2)) = some r ∧ Ans y r := by
  have hbad : ∀ (l' : List Int) (b0 b1 b2 : ByteArray), ((some (l', true, b0, b1, b2) : Option (List Int × Bool × ByteArray × ByteArray × ByteArray)).bind fun t =>
    if Go.bits .and .i64 n 8 = 0 then keys_Parse.end_ k kd t.2.2.1 t.2.2.2.1 t.2.2.2.2 0 t.1 t.2.1
    else ((octs_In_Int.f k t.1 t.2.1 8).bind fun d => keys_Parse.end_ k kd t.2.2.1 t.2.2.2.1 t.2.2.2.2 d.1 d.2.1 d.2.2)) = some failK := by
    intro l' b0 b1 b2
    rw [Option.bind_some]
    dsimp only
    rw [end_bad, In_Int_bad k l' 8 (by omega), Option.bind_some, end_bad]
    split <;> rfl
  have fail : ∃ r, (some failK : Option (Int × ByteArray × ByteArray × ByteArray × Int × Bool)) = some r ∧ Ans y r := ⟨_, rfl, Or.inl rfl⟩
  rcases step_w k 3 (by omega) n 0 (by omega) wa t0 l ho hl ⟨#[]⟩ ⟨#[]⟩ ⟨#[]⟩ (by omega) with ⟨l', b0, b1, b2, e⟩ | ⟨A, r1, p1, z1, o1, n1, e⟩
  · rw [e, hbad]; exact fail
  rw [e]
  rcases step_w k 2 (by omega) n 1 (by omega) wb t1 r1 o1 n1 (if wa = true ∧ (0 : Int) = 0 then A else ⟨#[]⟩) (if wa = true ∧ (0 : Int) = 1 then A else ⟨#[]⟩) (if wa = true ∧ (0 : Int) = 2 then A else ⟨#[]⟩) (by omega) with ⟨l', b0, b1, b2, e2⟩ | ⟨B, r2, p2, z2, o2, n2, e2⟩
  · rw [show (0 : Int) + 1 = 1 from rfl, e2, hbad]; exact fail
  rw [show (0 : Int) + 1 = 1 from rfl, e2]
  rcases step_w k 1 (by omega) n 2 (by omega) wb t2 r2 o2 n2 (if wb = true ∧ (1 : Int) = 0 then B else (if wa = true ∧ (0 : Int) = 0 then A else ⟨#[]⟩)) (if wb = true ∧ (1 : Int) = 1 then B else (if wa = true ∧ (0 : Int) = 1 then A else ⟨#[]⟩)) (if wb = true ∧ (1 : Int) = 2 then B else (if wa = true ∧ (0 : Int) = 2 then A else ⟨#[]⟩)) (by omega) with ⟨l', b0, b1, b2, e3⟩ | ⟨C, r3, p3, z3, o3, n3, e3⟩
  · rw [show (1 : Int) + 1 = 2 from rfl, e3, hbad]; exact fail
  rw [show (1 : Int) + 1 = 2 from rfl, e3, show (2 : Int) + 1 = 3 from rfl]
  clear e e2 e3
  have eA : (if wb = true ∧ (2 : Int) = 0 then C else (if wb = true ∧ (1 : Int) = 0 then B else (if wa = true ∧ (0 : Int) = 0 then A else ⟨#[]⟩))) = A := by
    rw [if_neg (by omega), if_neg (by omega)]
    cases wa with
    | true => rfl
    | false => rw [z1 rfl]; rfl
  have eB : (if wb = true ∧ (2 : Int) = 1 then C else (if wb = true ∧ (1 : Int) = 1 then B else (if wa = true ∧ (0 : Int) = 1 then A else ⟨#[]⟩))) = B := by
    rw [if_neg (by omega), if_neg (show ¬ (wa = true ∧ (0 : Int) = 1) by omega)]
    cases wb with
    | true => rfl
    | false => rw [z2 rfl]; rfl
  have eC : (if wb = true ∧ (2 : Int) = 2 then C else (if wb = true ∧ (1 : Int) = 2 then B else (if wa = true ∧ (0 : Int) = 2 then A else ⟨#[]⟩))) = C := by
    rw [if_neg (show ¬ (wb = true ∧ (1 : Int) = 2) by omega), if_neg (show ¬ (wa = true ∧ (0 : Int) = 2) by omega)]
    cases wb with
    | true => rfl
    | false => rw [z3 rfl]; rfl
  rw [eA, eB, eC, keys_Parse.l0, if_neg (by decide), Option.bind_some]
  dsimp only
  have hend : ∀ (id : Int) (r : List Int), (0 ≤ id ∧ id < 18446744073709551616) → (r = [] → r3 = idO wi id) → ∃ q, keys_Parse.end_ k kd A B C id r false = some q ∧ Ans y q := by
    intro id r hid hr
    unfold keys_Parse.end_ octs_In_Ok.f octs_In_Left.f
    rw [Option.bind_some]
    dsimp only
    rw [if_pos (by decide), Option.bind_some]
    dsimp only
    by_cases h : (r.length : Int) > 0
    · rw [if_pos h]; exact fail
    · have hr0 : r = [] := List.length_eq_zero_iff.1 (by omega)
      have hr := hr hr0
      rw [if_neg h, good_f k (by omega), Option.bind_some]
      by_cases hg : goodK kd A B C id = true
      · rw [if_pos hg]
        exact ⟨_, rfl, Or.inr ⟨kd, A, B, C, id, rfl, hg, hid, hy A B C id (by rw [← hr, ← p3, ← p2, ← p1]) hg⟩⟩
      · rw [if_neg hg]; exact fail
  cases wi with
  | false =>
    rw [if_pos (hi.2 rfl)]
    exact hend 0 r3 (by omega) (fun h => h)
  | true =>
    rw [if_neg (fun hh => by have := hi.1 hh; cases this)]
    have w8 : wd 8 = 8 := by decide
    rw [In_Int k r3 8 (by omega) o3 (by omega), w8]
    by_cases h : r3.length < 8
    · rw [if_pos h, Option.bind_some, end_bad]; exact fail
    · rw [if_neg h, Option.bind_some]
      dsimp only
      have hb := num_bound _ (oct_take o3 8)
      have ht : (r3.take 8).length = 8 := by rw [List.length_take]; omega
      rw [ht, show (256 : Int) ^ 8 = 18446744073709551616 by decide] at hb
      refine hend _ _ hb (fun hd => ?_)
      have hbe := be_num _ (oct_take o3 8)
      rw [ht] at hbe
      have : r3.take 8 ++ r3.drop 8 = r3 := List.take_append_drop 8 r3
      rw [hd, List.append_nil] at this
      unfold idO
      rw [if_pos rfl, hbe, this]
theorem Parse_sound (k : Nat) (hk : 20 ≤ k) (y : ByteArray) (hy : y.size ≤ 1000) : ∃ r, keys_Parse.f k y = some r ∧ Ans y r := by
  have hlen := bytesOf_len y
  have hyl : y = strOfNums (bytesOf y) := (str_bytesOf y).symm
  have ho := oct_bytesOf y
  unfold keys_Parse.f octs_From.f
  rw [if_pos (by omega), Option.bind_some]
  dsimp only
  generalize bytesOf y = l at *
  have w1 : wd 1 = 1 := by decide
  rw [In_Int k l 1 (by omega) ho (by omega), w1]
  by_cases h : l.length < 1
  · rw [if_pos h, Option.bind_some]
    dsimp only
    rw [w64_id 0 (by omega) (by omega), has_f k (by omega), Option.bind_some]
    obtain ⟨l', b0, b1, b2, e⟩ := bad_l0 k (hasK 0) 4 0 [] ⟨#[]⟩ ⟨#[]⟩ ⟨#[]⟩ (by omega) (by omega)
    rw [e, Option.bind_some, if_pos (by decide), end_bad]
    exact ⟨_, rfl, Or.inl rfl⟩
  · rw [if_neg h, Option.bind_some]
    dsimp only
    have ht : (l.take 1).length = 1 := by rw [List.length_take]; omega
    have hb := num_bound _ (oct_take ho 1)
    rw [ht, Int.pow_one] at hb
    have hbe := be_num _ (oct_take ho 1)
    rw [ht] at hbe
    have hl1 : l = be 1 (num (l.take 1)) ++ l.drop 1 := by rw [hbe, List.take_append_drop]
    have od := oct_drop ho 1
    have nd : (l.drop 1).length ≤ 1000 := by rw [List.length_drop]; omega
    generalize num (l.take 1) = c at *
    generalize l.drop 1 = m at *
    rw [be1] at hl1
    rw [w64_id c (by omega) (by omega), has_f k (by omega), Option.bind_some]
    have key : ∀ A B C id, l = [c % 256] ++ (part (wA c) A ++ (part (wB c) B ++ (part (wB c) C ++ idO (wI c) id))) → y = strOfNums (keyOct c A B C id) := by
      intro A B C id e
      rw [hyl, e]; rfl
    by_cases h5 : 1 ≤ c ∧ c ≤ 5
    · have h5 : c = 1 ∨ c = 2 ∨ c = 3 ∨ c = 4 ∨ c = 5 := by omega
      rcases h5 with rfl | rfl | rfl | rfl | rfl
      · exact sound_n k hk 1 1 true false false (by decide) (by decide) (by decide) (by decide) m od nd y (fun A B C id e _ => key A B C id (by rw [hl1, e]; rfl))
      · exact sound_n k hk 1 2 true false false (by decide) (by decide) (by decide) (by decide) m od nd y (fun A B C id e _ => key A B C id (by rw [hl1, e]; rfl))
      · exact sound_n k hk 7 3 true true false (by decide) (by decide) (by decide) (by decide) m od nd y (fun A B C id e _ => key A B C id (by rw [hl1, e]; rfl))
      · exact sound_n k hk 8 4 false false true (by decide) (by decide) (by decide) (by decide) m od nd y (fun A B C id e _ => key A B C id (by rw [hl1, e]; rfl))
      · exact sound_n k hk 9 5 true false true (by decide) (by decide) (by decide) (by decide) m od nd y (fun A B C id e _ => key A B C id (by rw [hl1, e]; rfl))
    · have h0 : hasK c = 0 := by
        unfold hasK
        rw [if_neg (by omega), if_neg (by omega), if_neg (by omega), if_neg (by omega)]
      rw [h0]
      refine sound_n k hk 0 c false false false (by decide) (by decide) (by decide) (by decide) m od nd y (fun A B C id e hg => ?_)
      exact absurd (good_sizes hg).1 h5
theorem Put_l0 (v : Int) : ∀ (j : Nat) (K : Nat) (x : List Int), j ≤ 8 → j < K → x.length + j < 140737488355328 → waybillref1_Put.l0 K v x ((j : Int) - 1) = some (x ++ be j v) := by
  intro j
  induction j with
  | zero =>
    intro K x _ hK hx
    obtain ⟨K, rfl⟩ : ∃ m, K = m + 1 := ⟨K - 1, by omega⟩
    simp only [waybillref1_Put.l0]
    rw [if_neg (by omega)]
    simp [be]
  | succ j ih =>
    intro K x hj hK hx
    obtain ⟨K, rfl⟩ : ∃ m, K = m + 1 := ⟨K - 1, by omega⟩
    have e1 : (((j + 1 : Nat) : Int) - 1) = (j : Int) := by omega
    have e2 : IntKind.u64.wrap (wrap64 (8 * (j : Int))) = (j : Int) * 8 := by
      rw [w64_id _ (by omega) (by omega), u64_id _ (by omega) (by omega)]; omega
    have e3 : shr .u64 v ((j : Int) * 8) = v / 256 ^ j := by
      unfold shr
      have a1 : ((j : Int) * 8).toNat = 8 * j := by omega
      have a2 : min (8 * j) IntKind.u64.bits = 8 * j := Nat.min_eq_left (by simp only [IntKind.bits]; omega)
      rw [a1, a2, Int.pow_mul]
      rfl
    simp only [waybillref1_Put.l0]
    rw [e1, if_pos (by omega), e2, if_pos (by omega), if_pos (by omega), e3, w64_id _ (by omega) (by omega), ih K _ (by omega) (by omega) (by simp; omega)]
    simp [be]
theorem Put_f (k : Nat) (hk : 9 ≤ k) (l : List Int) (n : Nat) (v : Int) (hn : n ≤ 8) (hl : l.length + 8 < 140737488355328) : waybillref1_Put.f k l (n : Int) v = some (l ++ be n v) := by
  unfold waybillref1_Put.f
  rw [Option.bind_some, if_pos (by simp; omega), List.nil_append, w64_id _ (by omega) (by omega)]
  exact Put_l0 v n k l hn (by omega) (by omega)
theorem nil_if {α : Type} (s : ByteArray) (x y : α) : (if s.toList = ([] : List UInt8) then x else y) = if s.size = 0 then x else y := by
  by_cases h : s.size = 0
  · rw [if_pos h, if_pos ((size_zero s).2 h)]
  · rw [if_neg h, if_neg (fun e => h ((size_zero s).1 e))]
theorem rOk_j1 (k : Nat) (kd : Int) (a b c : ByteArray) (id : Int) (hid : 0 ≤ id) : waybillref7_keyOk.j1 (k + 1) (nameOk a true) (nameOk b true) kd (kd == 1 || kd == 2) kd a b c id = some (goodK kd a b c id) := by
  have ez : (id == 0) = (decide (id > 0) == false) := by
    by_cases h : id = 0
    · rw [h]; rfl
    · rw [beq_eq_false_iff_ne.2 h, decide_eq_true (show id > 0 by omega)]; rfl
  have et : decide (id > 0) = (decide (id > 0) == true) := by cases decide (id > 0) <;> rfl
  have nf : ∀ s : ByteArray, nameOk s false = decide (s.size = 0) := fun s => rfl
  have c6 : c.size = 0 → decide (c.size ≤ 60) = true := fun h => decide_eq_true (by omega)
  rw [waybillref7_keyOk.j1]
  simp only [nil_if]
  unfold goodK restOk
  by_cases h1 : kd = 1
  · subst h1
    rw [if_pos (by decide), show kindOk 1 = true by decide, show wA 1 = true by decide, show wB 1 = false by decide, show wI 1 = false by decide, nf, ez]
    cases nameOk a true with
    | false => rw [if_neg (by decide)]; rfl
    | true =>
      rw [if_pos rfl]
      by_cases hb : b.size = 0
      · rw [if_pos hb, decide_eq_true hb]
        by_cases hc : c.size = 0
        · rw [if_pos hc, decide_eq_true hc, c6 hc]; rfl
        · rw [if_neg hc, decide_eq_false hc]; rfl
      · rw [if_neg hb, decide_eq_false hb]; rfl
  by_cases h2 : kd = 2
  · subst h2
    rw [if_pos (by decide), show kindOk 2 = true by decide, show wA 2 = true by decide, show wB 2 = false by decide, show wI 2 = false by decide, nf, ez]
    cases nameOk a true with
    | false => rw [if_neg (by decide)]; rfl
    | true =>
      rw [if_pos rfl]
      by_cases hb : b.size = 0
      · rw [if_pos hb, decide_eq_true hb]
        by_cases hc : c.size = 0
        · rw [if_pos hc, decide_eq_true hc, c6 hc]; rfl
        · rw [if_neg hc, decide_eq_false hc]; rfl
      · rw [if_neg hb, decide_eq_false hb]; rfl
  rw [beq_eq_false_iff_ne.2 h1, beq_eq_false_iff_ne.2 h2, if_neg (by decide)]
  by_cases h3 : kd = 3
  · subst h3
    rw [if_pos rfl, show kindOk 3 = true by decide, show wA 3 = true by decide, show wB 3 = true by decide, show wI 3 = false by decide, ez]
    cases nameOk a true with
    | false => rw [if_neg (by decide)]; rfl
    | true =>
      rw [if_pos rfl]
      cases nameOk b true with
      | false => rw [if_neg (by decide)]; rfl
      | true =>
        rw [if_pos rfl, Bool.or_true]
        by_cases hc : c.size ≤ 60
        · rw [if_pos (by omega), decide_eq_true hc]; rfl
        · rw [if_neg (by omega), decide_eq_false hc]; rfl
  rw [if_neg h3]
  by_cases h4 : kd = 4
  · subst h4
    rw [if_pos rfl, show kindOk 4 = true by decide, show wA 4 = false by decide, show wB 4 = false by decide, show wI 4 = true by decide, nf, nf]
    by_cases ha : a.size = 0
    · rw [if_pos ha, decide_eq_true ha]
      by_cases hb : b.size = 0
      · rw [if_pos hb, decide_eq_true hb]
        by_cases hc : c.size = 0
        · rw [if_pos hc, decide_eq_true hc, c6 hc, ← et]; rfl
        · rw [if_neg hc, decide_eq_false hc]; rfl
      · rw [if_neg hb, decide_eq_false hb]; rfl
    · rw [if_neg ha, decide_eq_false ha]; rfl
  rw [if_neg h4]
  by_cases h5 : kd = 5
  · subst h5
    rw [if_pos rfl, show kindOk 5 = true by decide, show wA 5 = true by decide, show wB 5 = false by decide, show wI 5 = true by decide, nf]
    cases nameOk a true with
    | false => rw [if_neg (by decide)]; rfl
    | true =>
      rw [if_pos rfl]
      by_cases hb : b.size = 0
      · rw [if_pos hb, decide_eq_true hb]
        by_cases hc : c.size = 0
        · rw [if_pos hc, decide_eq_true hc, c6 hc, ← et]; rfl
        · rw [if_neg hc, decide_eq_false hc]; rfl
      · rw [if_neg hb, decide_eq_false hb]; rfl
  rw [if_neg h5, show kindOk kd = false from decide_eq_false (by omega)]
  rfl
theorem rName (s : ByteArray) (h : (s.size : Int) ≥ 1) : decide ((s.size : Int) ≤ 30) = nameOk s true := by
  unfold nameOk
  rw [if_pos rfl]
  by_cases h2 : s.size ≤ 30
  · rw [decide_eq_true (by omega), decide_eq_true ⟨by omega, h2⟩]
  · rw [decide_eq_false (by omega), decide_eq_false (fun e => h2 e.2)]
theorem rName0 (s : ByteArray) (h : ¬ (s.size : Int) ≥ 1) : false = nameOk s true := by
  unfold nameOk
  rw [if_pos rfl, decide_eq_false (fun e => by have := e.1; omega)]
theorem rOk_f (k : Nat) (hk : 2 ≤ k) (kd : Int) (a b c : ByteArray) (id : Int) (hid : 0 ≤ id) : waybillref7_keyOk.f k kd a b c id = some (goodK kd a b c id) := by
  obtain ⟨k, rfl⟩ : ∃ j, k = j + 1 + 1 := ⟨k - 2, by omega⟩
  have j0 : waybillref7_keyOk.j0 (k + 1 + 1) (nameOk a true) (nameOk b true) kd a b c id = some (goodK kd a b c id) := by
    rw [waybillref7_keyOk.j0]
    have h := rOk_j1 k kd a b c id hid
    by_cases h1 : kd = 1
    · rw [if_pos h1]
      rw [h1] at h ⊢
      exact h
    · rw [if_neg h1]
      rw [beq_eq_false_iff_ne.2 h1, Bool.false_or] at h
      exact h
  unfold waybillref7_keyOk.f
  by_cases ha : (a.size : Int) ≥ 1
  · rw [if_pos ha, rName a ha]
    by_cases hb : (b.size : Int) ≥ 1
    · rw [if_pos hb, rName b hb]; exact j0
    · rw [if_neg hb, rName0 b hb]; exact j0
  · rw [if_neg ha, rName0 a ha]
    by_cases hb : (b.size : Int) ≥ 1
    · rw [if_pos hb, rName b hb]; exact j0
    · rw [if_neg hb]
      rw [← (rName0 a ha).symm.trans (rName0 b hb)] at j0
      exact j0
theorem RShort_k (k : Nat) (hk : 12 ≤ k) (l : List Int) (s : ByteArray) (hs : s.size ≤ 255) (hl : l.length ≤ 100000) : waybillref1_Short.f k l s = some (l ++ part true s) := by
  unfold waybillref1_Short.f part
  have h2 := be_len 1 (s.size : Int)
  rw [u64_id _ (by omega) (by omega), show (1 : Int) = ((1 : Nat) : Int) from rfl, Put_f k (by omega) l 1 _ (by omega) (by omega), Option.bind_some, if_pos (by rw [List.length_append, h2]; omega), if_pos rfl, List.append_assoc]
theorem rKey_f (k : Nat) (hk : 20 ≤ k) (kd : Int) (a b c : ByteArray) (id : Int) (hid : 0 ≤ id) : waybillref7_Key.f k kd a b c id = some (if goodK kd a b c id = true then (strOfNums (keyOct kd a b c id), true) else ((⟨#[]⟩ : ByteArray), false)) := by
  obtain ⟨k, rfl⟩ : ∃ j, k = j + 1 := ⟨k - 1, by omega⟩
  unfold waybillref7_Key.f
  rw [rOk_f (k + 1) (by omega) kd a b c id hid, Option.bind_some]
  by_cases hg : goodK kd a b c id = true
  · rw [if_pos hg, if_pos hg]
    obtain ⟨hkd, ha, hb, hc, za1, za, zb1, zb, zi⟩ := good_sizes hg
    have P1 := Put_f (k + 1) (by omega) [] 1 kd (by omega) (by simp)
    rw [show ((1 : Nat) : Int) = 1 from rfl, List.nil_append, be1] at P1
    rw [u64_id kd (by omega) (by omega), P1, Option.bind_some]
    have P8 : ∀ l : List Int, l.length ≤ 10000 → waybillref1_Put.f k l 8 id = some (l ++ be 8 id) := by
      intro l hl
      have := Put_f k (by omega) l 8 id (by omega) (by omega)
      exact this
    have pla : (part (wA kd) a).length ≤ 300 := by rw [part_len]; split <;> omega
    have plb : (part (wB kd) b).length ≤ 300 := by rw [part_len]; split <;> omega
    have plc : (part (wB kd) c).length ≤ 300 := by rw [part_len]; split <;> omega
    have fin : waybillref7_Key.j0 (k + 1) ([kd % 256] ++ part (wA kd) a) kd a b c id = some (strOfNums (keyOct kd a b c id), true) := by
      have hl0 : ([kd % 256] ++ part (wA kd) a).length ≤ 400 := by rw [List.length_append, List.length_singleton]; omega
      have eo : keyOct kd a b c id = ([kd % 256] ++ part (wA kd) a) ++ (part (wB kd) b ++ (part (wB kd) c ++ idO (wI kd) id)) := by unfold keyOct; rw [List.append_assoc]
      rw [eo]
      generalize [kd % 256] ++ part (wA kd) a = L at *
      rw [waybillref7_Key.j0]
      by_cases h3 : kd = 3
      · subst h3
        have wi : ¬ id > 0 := fun h => by have := zi.1 h; cases this
        rw [if_pos rfl, RShort_k k (by omega) L b (by omega) (by omega), Option.bind_some, RShort_k k (by omega) _ c (by omega) (by rw [List.length_append]; show L.length + (part (wB 3) b).length ≤ 100000; omega), Option.bind_some, if_neg wi]
        show some (strOfNums (L ++ part true b ++ part true c), true) = some (strOfNums (L ++ (part true b ++ (part true c ++ []))), true)
        rw [List.append_nil, List.append_assoc]
      · have wb : wB kd = false := decide_eq_false h3
        rw [if_neg h3, wb]
        show (if id > 0 then ((waybillref1_Put.f k L 8 id).bind fun t271 => (some (strOfNums t271, true))) else (some (strOfNums L, true))) = some (strOfNums (L ++ ([] ++ ([] ++ idO (wI kd) id))), true)
        rw [List.nil_append, List.nil_append]
        unfold idO
        by_cases hi : id > 0
        · rw [if_pos hi, P8 L (by omega), Option.bind_some, if_pos (zi.1 hi)]
        · rw [if_neg hi, if_neg (fun h => hi (zi.2 h)), List.append_nil]
    rw [nil_if]
    by_cases h0 : a.size = 0
    · rw [if_pos h0]
      have wa : wA kd = false := by
        cases h : wA kd with
        | false => rfl
        | true => exact absurd h0 (za1 h)
      rw [wa] at fin
      exact fin
    · rw [if_neg h0, RShort_k (k + 1) (by omega) _ a (by omega) (by simp), Option.bind_some]
      have wa : wA kd = true := by
        cases h : wA kd with
        | true => rfl
        | false => exact absurd (za h) h0
      rw [wa] at fin
      exact fin
  · rw [if_neg hg, if_neg hg]
def chkK (y : ByteArray) (kd : Int) (a b c : ByteArray) (id : Int) : Int × ByteArray × ByteArray × ByteArray × Int × Bool :=
  if goodK kd a b c id = true then (if (strOfNums (keyOct kd a b c id)).toList = y.toList then (kd, a, b, c, id, true) else failK) else failK
theorem chk_ans (y : ByteArray) (kd : Int) (a b c : ByteArray) (id : Int) (hid : 0 ≤ id ∧ id < 18446744073709551616) : Ans y (chkK y kd a b c id) := by
  unfold chkK
  by_cases hg : goodK kd a b c id = true
  · rw [if_pos hg]
    by_cases he : (strOfNums (keyOct kd a b c id)).toList = y.toList
    · rw [if_pos he]; exact Or.inr ⟨kd, a, b, c, id, rfl, hg, hid, (ba_inj he).symm⟩
    · rw [if_neg he]; exact Or.inl rfl
  · rw [if_neg hg]; exact Or.inl rfl
theorem chk_self {kd : Int} {a b c : ByteArray} {id : Int} (hg : goodK kd a b c id = true) : chkK (strOfNums (keyOct kd a b c id)) kd a b c id = (kd, a, b, c, id, true) := by
  unfold chkK
  rw [if_pos hg, if_pos rfl]
def numAt (l : List Int) (at_ : Nat) : Int := if at_ + 8 ≤ l.length then num ((l.drop at_).take 8) else 0
theorem numAt_in (l : List Int) (ho : Oct l) (at_ : Nat) : 0 ≤ numAt l at_ ∧ numAt l at_ < 18446744073709551616 := by
  unfold numAt
  by_cases h : at_ + 8 ≤ l.length
  · rw [if_pos h]
    have hb := num_bound _ (oct_take (oct_drop ho at_) 8)
    have ht : ((l.drop at_).take 8).length = 8 := by rw [List.length_take, List.length_drop]; omega
    rw [ht, show (256 : Int) ^ 8 = 18446744073709551616 by decide] at hb
    exact hb
  · rw [if_neg h]; omega
theorem of_key (k : Nat) (hk : 20 ≤ k) (y : ByteArray) (kd : Int) (a b c : ByteArray) (id : Int) (hid : 0 ≤ id) :
    ((waybillref7_Key.f k kd a b c id).bind fun bt => (if bt.2 = true then (if bt.1.toList = y.toList then (some (kd, a, b, c, id, true)) else (some (0, (⟨#[]⟩ : ByteArray), (⟨#[]⟩ : ByteArray), (⟨#[]⟩ : ByteArray), 0, false))) else (some (0, (⟨#[]⟩ : ByteArray), (⟨#[]⟩ : ByteArray), (⟨#[]⟩ : ByteArray), 0, false)))) = some (chkK y kd a b c id) := by
  unfold chkK
  rw [rKey_f k hk kd a b c id hid, Option.bind_some]
  by_cases hg : goodK kd a b c id = true
  · rw [if_pos hg, if_pos hg]
    dsimp only
    rw [if_pos rfl]
    by_cases he : (strOfNums (keyOct kd a b c id)).toList = y.toList
    · rw [if_pos he, if_pos he]
    · rw [if_neg he, if_neg he]; rfl
  · rw [if_neg hg, if_neg hg]
    dsimp only
    rw [if_neg (by decide)]; rfl
theorem of_j3 (k : Nat) (hk : 20 ≤ k) (y : ByteArray) (l : List Int) (ho : Oct l) (hl : l.length ≤ 2000) (at_ : Nat) (hat : at_ ≤ 2000) (t : Bool) (kd : Int) (a b c : ByteArray) :
    waybillref7_KeyOf.j3 (k + 1) y l (at_ : Int) t kd a b c 0 = some (chkK y kd a b c (if t = true then numAt l at_ else 0)) := by
  rw [waybillref7_KeyOf.j3]
  cases t with
  | true =>
    have hN := Num_f k (by omega) l at_ 8 ho (by omega) (by omega) (by omega)
    rw [show ((8 : Nat) : Int) = 8 from rfl] at hN
    have e : (if at_ + 8 ≤ l.length then (num ((l.drop at_).take 8), true) else ((0 : Int), false)).1 = numAt l at_ := by
      unfold numAt
      split <;> rfl
    rw [if_pos rfl, hN, Option.bind_some, if_pos rfl, e]
    exact of_key k hk y kd a b c _ (numAt_in l ho at_).1
  | false =>
    rw [if_neg (by decide), if_neg (by decide)]
    exact of_key k hk y kd a b c 0 (by omega)
theorem of_j2 (k : Nat) (hk : 21 ≤ k) (y : ByteArray) (l : List Int) (ho : Oct l) (hl : l.length ≤ 2000) (at_ : Nat) (hat : at_ ≤ 2000) (kd : Int) (a b c : ByteArray) :
    waybillref7_KeyOf.j2 (k + 1) y l (at_ : Int) kd a b c 0 = some (chkK y kd a b c (if wI kd = true then numAt l at_ else 0)) := by
  obtain ⟨k, rfl⟩ : ∃ j, k = j + 1 := ⟨k - 1, by omega⟩
  rw [waybillref7_KeyOf.j2]
  by_cases h4 : kd = 4
  · rw [if_pos h4, of_j3 k (by omega) y l ho hl at_ hat, show wI kd = true from decide_eq_true (Or.inl h4)]
  · rw [if_neg h4, of_j3 k (by omega) y l ho hl at_ hat]
    by_cases h5 : kd = 5
    · rw [beq_iff_eq.2 h5, show wI kd = true from decide_eq_true (Or.inr h5)]
    · rw [beq_eq_false_iff_ne.2 h5, show wI kd = false from decide_eq_false (by omega)]
theorem j2_ans (k : Nat) (hk : 21 ≤ k) (y : ByteArray) (l : List Int) (ho : Oct l) (hl : l.length ≤ 2000) (at_ : Nat) (hat : at_ ≤ 2000) (kd : Int) (a b c : ByteArray) :
    ∃ r, waybillref7_KeyOf.j2 (k + 1) y l (at_ : Int) kd a b c 0 = some r ∧ Ans y r := by
  refine ⟨_, of_j2 k hk y l ho hl at_ hat kd a b c, chk_ans _ _ _ _ _ _ ?_⟩
  split
  · exact numAt_in l ho at_
  · omega
/-- What j1 does where a text is read. -/
theorem of_j1 (k : Nat) (hk : 22 ≤ k) (y : ByteArray) (l : List Int) (ho : Oct l) (hl : l.length ≤ 2000) (at_ : Nat) (hat : at_ ≤ l.length) (i : Nat) (hi : i < 3) (b0 : Bool) (kd : Int) (a b c : ByteArray)
    (ih : ∀ (at2 : Nat) (a b c : ByteArray), at2 ≤ l.length → ∃ r, waybillref7_KeyOf.l0 k y l (at2 : Int) ((i + 1 : Nat) : Int) kd a b c 0 = some r ∧ Ans y r) :
    ∃ r, waybillref7_KeyOf.j1 (k + 1) y l (at_ : Int) (i : Int) b0 kd a b c 0 = some r ∧ Ans y r := by
  obtain ⟨k, rfl⟩ : ∃ j, k = j + 1 := ⟨k - 1, by omega⟩
  rw [waybillref7_KeyOf.j1]
  cases b0 with
  | true => rw [if_pos rfl]; exact j2_ans k (by omega) y l ho hl at_ (by omega) kd a b c
  | false =>
    have hT := RText_f (k + 1) (by omega) l at_ 1 ho (by omega) (by omega) hat
    rw [show ((1 : Nat) : Int) = 1 from rfl] at hT
    have ew : wrap64 ((i : Int) + 1) = ((i + 1 : Nat) : Int) := by rw [w64_id _ (by omega) (by omega)]; omega
    rw [if_neg (by decide), hT, Option.bind_some, ew]
    cases h : txt (l.drop at_) 1 with
    | none =>
      rw [rtxt_no h]
      dsimp only
      rw [if_neg (by decide)]
      exact ⟨_, rfl, Or.inl rfl⟩
    | some p =>
      obtain ⟨x, r⟩ := p
      obtain ⟨t1, t2, t3⟩ := txt_some h
      rw [List.length_drop] at t1
      rw [rtxt_yes h, show (at_ : Int) + ((1 : Nat) : Int) + (x.length : Int) = ((at_ + (1 + x.length) : Nat) : Int) by omega]
      dsimp only
      rw [if_pos rfl]
      by_cases e0 : (i : Int) = 0
      · rw [if_pos e0]; exact ih _ _ _ _ (by omega)
      · rw [if_neg e0]
        by_cases e1 : (i : Int) = 1
        · rw [if_pos e1]; exact ih _ _ _ _ (by omega)
        · rw [if_neg e1]; exact ih _ _ _ _ (by omega)
theorem of_l0 (k : Nat) (hk : 40 ≤ k) (y : ByteArray) (l : List Int) (ho : Oct l) (hl : l.length ≤ 2000) (kd : Int) : ∀ (d i k : Nat), 3 - i = d → i ≤ 3 → 2 * d + 30 ≤ k → ∀ (at_ : Nat) (a b c : ByteArray), at_ ≤ l.length →
    ∃ r, waybillref7_KeyOf.l0 k y l (at_ : Int) (i : Int) kd a b c 0 = some r ∧ Ans y r := by
  intro d
  induction d with
  | zero =>
    intro i k hd hi hk at_ a b c hat
    obtain ⟨k, rfl⟩ : ∃ j, k = j + 1 + 1 := ⟨k - 2, by omega⟩
    rw [waybillref7_KeyOf.l0, if_neg (by omega)]
    exact j2_ans k (by omega) y l ho hl at_ (by omega) kd a b c
  | succ d ih =>
    intro i k hd hi hk at_ a b c hat
    obtain ⟨k, rfl⟩ : ∃ j, k = j + 1 + 1 := ⟨k - 2, by omega⟩
    have step := fun (at2 : Nat) (a b c : ByteArray) (h : at2 ≤ l.length) => ih (i + 1) k (by omega) (by omega) (by omega) at2 a b c h
    have go := fun b0 => of_j1 k (by omega) y l ho hl at_ hat i (by omega) b0 kd a b c step
    rw [waybillref7_KeyOf.l0, if_pos (by omega)]
    split
    · split
      · exact go true
      · split
        · exact go _
        · exact go false
    · split
      · exact go _
      · exact go false
theorem KeyOf_ans (k : Nat) (hk : 60 ≤ k) (y : ByteArray) (hy : y.size ≤ 1000) : ∃ r, waybillref7_KeyOf.f k y = some r ∧ Ans y r := by
  have hlen := bytesOf_len y
  have ho := oct_bytesOf y
  unfold waybillref7_KeyOf.f
  rw [if_pos (by omega), Option.bind_some]
  generalize bytesOf y = l at *
  have hN := Num_f k (by omega) l 0 1 ho (by omega) (by omega) (by omega)
  rw [show ((0 : Nat) : Int) = 0 from rfl, show ((1 : Nat) : Int) = 1 from rfl] at hN
  rw [hN, Option.bind_some]
  by_cases h : 0 + 1 ≤ l.length
  · exact of_l0 60 (by omega) y l ho (by omega) _ 3 0 k (by omega) (by omega) (by omega) 1 _ _ _ (by omega)
  · rw [if_neg h]
    dsimp only
    obtain ⟨k, rfl⟩ : ∃ j, k = j + 1 + 1 := ⟨k - 2, by omega⟩
    have hT : waybillref1_Text.f k l 1 1 = some (([] : List Int), 0, false) := by
      have hN2 := Num_f k (by omega) l 1 1 ho (by omega) (by omega) (by omega)
      rw [show ((1 : Nat) : Int) = 1 from rfl, if_neg (show ¬ 1 + 1 ≤ l.length by omega)] at hN2
      unfold waybillref1_Text.f
      rw [hN2, Option.bind_some]
      rfl
    rw [w64_id 0 (by omega) (by omega), waybillref7_KeyOf.l0, if_pos (by decide), if_pos rfl, if_neg (by decide), if_neg (by decide), waybillref7_KeyOf.j1, if_neg (by decide), hT, Option.bind_some]
    dsimp only
    rw [if_neg (by decide)]
    exact ⟨_, rfl, Or.inl rfl⟩
/-! ### the text of a key that may be -/
theorem text_at (k : Nat) (hk : 12 ≤ k) (p r : List Int) (s : ByteArray) (hop : Oct p) (hor : Oct r) (hs : s.size ≤ 255) (hl : p.length + r.length ≤ 2000) (a : Int) (ha : a = p.length) :
    waybillref1_Text.f k (p ++ (part true s ++ r)) a 1 = some (bytesOf s, ((p ++ part true s).length : Int), true) := by
  subst ha
  have hpl := part_len true s
  rw [if_pos rfl] at hpl
  have hT := RText_f k hk (p ++ (part true s ++ r)) p.length 1 (oct_app hop (oct_app (part_oct true s) hor)) (by omega) (by rw [List.length_append, List.length_append]; omega) (by rw [List.length_append]; omega)
  rw [show ((1 : Nat) : Int) = 1 from rfl] at hT
  have hx : txt ((p ++ (part true s ++ r)).drop p.length) 1 = some (bytesOf s, r) := by
    rw [List.drop_left, part_true]
    exact txt_be 1 s.size (bytesOf s) r (bytesOf_len s) (by rw [Int.pow_one]; omega)
  rw [hT, rtxt_yes hx, bytesOf_len, List.length_append, hpl]
  congr 3
  omega
theorem numAt_end (p : List Int) (id : Int) (hid : 0 ≤ id ∧ id < 18446744073709551616) : numAt (p ++ be 8 id) p.length = id := by
  unfold numAt
  have h8 := be_len 8 id
  rw [if_pos (by rw [List.length_append]; omega), List.drop_left, List.take_of_length_le (by omega), num_be, show (256 : Int) ^ 8 = 18446744073709551616 by decide]
  exact Int.emod_eq_of_lt hid.1 hid.2
theorem l0_read (k : Nat) (hk : 20 ≤ k) (y : ByteArray) (p r : List Int) (s : ByteArray) (hop : Oct p) (hor : Oct r) (hs : s.size ≤ 255) (hl : p.length + r.length ≤ 2000) (i : Nat) (hi : i < 3) (kd : Int) (h4 : kd ≠ 4) (hgo : i = 0 ∨ kd = 3) (a b c : ByteArray) :
    waybillref7_KeyOf.l0 (k + 1 + 1) y (p ++ (part true s ++ r)) (p.length : Int) (i : Int) kd a b c 0 = waybillref7_KeyOf.l0 k y (p ++ (part true s ++ r)) ((p ++ part true s).length : Int) ((i + 1 : Nat) : Int) kd (if i = 0 then s else a) (if i = 1 then s else b) (if i = 2 then s else c) 0 := by
  have ew : wrap64 ((i : Int) + 1) = ((i + 1 : Nat) : Int) := by rw [w64_id _ (by omega) (by omega)]; omega
  have hj : waybillref7_KeyOf.j1 (k + 1) y (p ++ (part true s ++ r)) (p.length : Int) (i : Int) false kd a b c 0 = waybillref7_KeyOf.l0 k y (p ++ (part true s ++ r)) ((p ++ part true s).length : Int) ((i + 1 : Nat) : Int) kd (if i = 0 then s else a) (if i = 1 then s else b) (if i = 2 then s else c) 0 := by
    rw [waybillref7_KeyOf.j1, if_neg (by decide), text_at k (by omega) p r s hop hor hs hl _ rfl, Option.bind_some, ew, str_bytesOf]
    dsimp only
    rw [if_pos rfl]
    by_cases e0 : i = 0
    · subst e0; rfl
    · by_cases e1 : i = 1
      · subst e1; rfl
      · have e2 : i = 2 := by omega
        subst e2; rfl
  rw [waybillref7_KeyOf.l0, if_pos (by omega)]
  rcases hgo with h0 | h3
  · subst h0
    rw [if_pos (show ((0 : Nat) : Int) = 0 from rfl), if_neg h4, if_neg (show ¬ ((0 : Nat) : Int) > 0 by decide)]
    exact hj
  · subst h3
    have e3 : ((3 : Int) != 3) = false := by decide
    by_cases h0 : i = 0
    · subst h0
      rw [if_pos (show ((0 : Nat) : Int) = 0 from rfl), if_neg h4, if_neg (show ¬ ((0 : Nat) : Int) > 0 by decide)]
      exact hj
    · rw [if_neg (by omega), if_pos (by omega), e3]
      exact hj
theorem l0_stop (k : Nat) (y : ByteArray) (l : List Int) (at_ : Int) (kd : Int) (h3 : kd ≠ 3) (a b c : ByteArray) :
    waybillref7_KeyOf.l0 (k + 1 + 1) y l at_ 1 kd a b c 0 = waybillref7_KeyOf.j2 k y l at_ kd a b c 0 := by
  rw [waybillref7_KeyOf.l0, if_pos (by decide), if_neg (by decide), if_pos (by decide), show (kd != 3) = true from bne_iff_ne.2 h3, waybillref7_KeyOf.j1, if_pos rfl]
theorem KeyOf_good (k : Nat) (hk : 60 ≤ k) (kd : Int) (a b c : ByteArray) (id : Int) (hg : goodK kd a b c id = true) (hid : 0 ≤ id ∧ id < 18446744073709551616) : waybillref7_KeyOf.f k (strOfNums (keyOct kd a b c id)) = some (kd, a, b, c, id, true) := by
  obtain ⟨hkd, ha, hb, hc, za1, za, zb1, zb, zi⟩ := good_sizes hg
  have hself := chk_self hg
  have pla : (part (wA kd) a).length ≤ 300 := by rw [part_len]; split <;> omega
  have plb : (part (wB kd) b).length ≤ 300 := by rw [part_len]; split <;> omega
  have plc : (part (wB kd) c).length ≤ 300 := by rw [part_len]; split <;> omega
  have pli : (idO (wI kd) id).length ≤ 8 := by rw [idO_len]; split <;> omega
  have hol := key_oct kd a b c id
  have hlen : (keyOct kd a b c id).length ≤ 1000 := by unfold keyOct; rw [List.length_append, List.length_append, List.length_append, List.length_append, List.length_singleton]; omega
  have hhead : keyOct kd a b c id = [kd % 256] ++ (part (wA kd) a ++ (part (wB kd) b ++ (part (wB kd) c ++ idO (wI kd) id))) := rfl
  unfold waybillref7_KeyOf.f
  rw [if_pos (by rw [size_str]; omega), Option.bind_some, bytesOf_str hol]
  have hN := Num_f k (by omega) (keyOct kd a b c id) 0 1 hol (by omega) (by omega) (by omega)
  rw [show ((0 : Nat) : Int) = 0 from rfl, show ((1 : Nat) : Int) = 1 from rfl, if_pos (by rw [hhead, List.length_append, List.length_singleton]; omega)] at hN
  have hk1 : num (((keyOct kd a b c id).drop 0).take 1) = kd := by
    rw [hhead]
    show num [kd % 256] = kd
    show 0 * 256 + kd % 256 = kd
    omega
  rw [hN, Option.bind_some, hk1]
  dsimp only
  rw [w64_id kd (by omega) (by omega)]
  have h5 : kd = 1 ∨ kd = 2 ∨ kd = 3 ∨ kd = 4 ∨ kd = 5 := by omega
  have o1 : Oct [kd % 256] := by intro x hx; rw [List.mem_singleton] at hx; omega
  obtain ⟨k, rfl⟩ : ∃ j, k = j + 1 + 1 + 1 + 1 + 1 + 1 + 1 + 1 := ⟨k - 8, by omega⟩
  generalize hY : strOfNums (keyOct kd a b c id) = Y at *
  rcases h5 with rfl | rfl | rfl | rfl | rfl
  · have hb0 := ba_nil (zb rfl).1
    have hc0 := ba_nil (zb rfl).2
    have hi0 : id = 0 := by
      have : ¬ id > 0 := fun hh => by have := zi.1 hh; cases this
      omega
    subst hb0 hc0 hi0
    have e : keyOct 1 a ⟨#[]⟩ ⟨#[]⟩ 0 = [1] ++ (part true a ++ []) := rfl
    have r := l0_read (k + 1 + 1 + 1 + 1 + 1 + 1) (by omega) Y [1] [] a o1 oct_nil (by omega) (by simp) 0 (by omega) 1 (by decide) (Or.inl rfl) ⟨#[]⟩ ⟨#[]⟩ ⟨#[]⟩
    rw [← e] at r
    refine r.trans ?_
    rw [show (((0 + 1 : Nat)) : Int) = 1 from rfl, l0_stop _ _ _ _ _ (by decide), of_j2 (k + 1 + 1 + 1) (by omega) Y _ hol (by omega) _ (by rw [List.length_append, List.length_singleton, part_len, if_pos rfl]; omega)]
    exact congrArg some hself
  · have hb0 := ba_nil (zb rfl).1
    have hc0 := ba_nil (zb rfl).2
    have hi0 : id = 0 := by
      have : ¬ id > 0 := fun hh => by have := zi.1 hh; cases this
      omega
    subst hb0 hc0 hi0
    have e : keyOct 2 a ⟨#[]⟩ ⟨#[]⟩ 0 = [2] ++ (part true a ++ []) := rfl
    have r := l0_read (k + 1 + 1 + 1 + 1 + 1 + 1) (by omega) Y [2] [] a o1 oct_nil (by omega) (by simp) 0 (by omega) 2 (by decide) (Or.inl rfl) ⟨#[]⟩ ⟨#[]⟩ ⟨#[]⟩
    rw [← e] at r
    refine r.trans ?_
    rw [show (((0 + 1 : Nat)) : Int) = 1 from rfl, l0_stop _ _ _ _ _ (by decide), of_j2 (k + 1 + 1 + 1) (by omega) Y _ hol (by omega) _ (by rw [List.length_append, List.length_singleton, part_len, if_pos rfl]; omega)]
    exact congrArg some hself
  · have hi0 : id = 0 := by
      have : ¬ id > 0 := fun hh => by have := zi.1 hh; cases this
      omega
    subst hi0
    have e : keyOct 3 a b c 0 = [3] ++ (part true a ++ (part true b ++ (part true c ++ []))) := rfl
    have oc := oct_app (part_oct true c) oct_nil
    have ob := oct_app (part_oct true b) oc
    have qa := part_len true a
    have qb := part_len true b
    have qc := part_len true c
    rw [if_pos rfl] at qa qb qc
    have nc : (part true c ++ ([] : List Int)).length ≤ 300 := by rw [List.append_nil]; omega
    have nb : (part true b ++ (part true c ++ ([] : List Int))).length ≤ 600 := by rw [List.length_append]; omega
    have r0 := l0_read (k + 1 + 1 + 1 + 1 + 1 + 1) (by omega) Y [3] (part true b ++ (part true c ++ [])) a o1 ob (by omega) (by rw [List.length_singleton]; omega) 0 (by omega) 3 (by decide) (Or.inl rfl) ⟨#[]⟩ ⟨#[]⟩ ⟨#[]⟩
    have r1 := l0_read (k + 1 + 1 + 1 + 1) (by omega) Y ([3] ++ part true a) (part true c ++ []) b (oct_app o1 (part_oct true a)) oc (by omega) (by rw [List.length_append, List.length_singleton]; omega) 1 (by omega) 3 (by decide) (Or.inr rfl) a ⟨#[]⟩ ⟨#[]⟩
    have r2 := l0_read (k + 1 + 1) (by omega) Y (([3] ++ part true a) ++ part true b) [] c (oct_app (oct_app o1 (part_oct true a)) (part_oct true b)) oct_nil (by omega) (by rw [List.length_append, List.length_append, List.length_singleton, List.length_nil]; omega) 2 (by omega) 3 (by decide) (Or.inr rfl) a b ⟨#[]⟩
    rw [← e] at r0
    rw [show ([3] ++ part true a) ++ (part true b ++ (part true c ++ [])) = keyOct 3 a b c 0 by rw [e, List.append_assoc]] at r1
    rw [show (([3] ++ part true a) ++ part true b) ++ (part true c ++ []) = keyOct 3 a b c 0 by rw [e, List.append_assoc, List.append_assoc]] at r2
    refine r0.trans (r1.trans (r2.trans ?_))
    rw [waybillref7_KeyOf.l0, if_neg (by decide)]
    obtain ⟨k, rfl⟩ : ∃ j, k = j + 1 := ⟨k - 1, by omega⟩
    rw [of_j2 (k + 1) (by omega) Y _ hol (by omega) _ (by rw [List.length_append, List.length_append, List.length_append, List.length_singleton]; omega)]
    exact congrArg some hself
  · have ha0 := ba_nil (za rfl)
    have hb0 := ba_nil (zb rfl).1
    have hc0 := ba_nil (zb rfl).2
    subst ha0 hb0 hc0
    rw [waybillref7_KeyOf.l0, if_pos (by decide), if_pos rfl, if_pos rfl, waybillref7_KeyOf.j1, if_pos rfl, show (1 : Int) = ((1 : Nat) : Int) from rfl, of_j2 (k + 1 + 1 + 1 + 1 + 1) (by omega) Y _ hol (by omega) 1 (by omega)]
    have e : numAt (keyOct 4 ⟨#[]⟩ ⟨#[]⟩ ⟨#[]⟩ id) 1 = id := numAt_end [4] id hid
    rw [if_pos (by decide), e, hself]
  · have hb0 := ba_nil (zb rfl).1
    have hc0 := ba_nil (zb rfl).2
    subst hb0 hc0
    have e : keyOct 5 a ⟨#[]⟩ ⟨#[]⟩ id = [5] ++ (part true a ++ be 8 id) := rfl
    have r := l0_read (k + 1 + 1 + 1 + 1 + 1 + 1) (by omega) Y [5] (be 8 id) a o1 (be_oct 8 id) (by omega) (by rw [be_len]; simp) 0 (by omega) 5 (by decide) (Or.inl rfl) ⟨#[]⟩ ⟨#[]⟩ ⟨#[]⟩
    rw [← e] at r
    refine r.trans ?_
    rw [show (((0 + 1 : Nat)) : Int) = 1 from rfl, l0_stop _ _ _ _ _ (by decide), of_j2 (k + 1 + 1 + 1) (by omega) Y _ hol (by omega) _ (by rw [List.length_append, List.length_singleton, part_len, if_pos rfl]; omega)]
    have e8 : numAt (keyOct 5 a ⟨#[]⟩ ⟨#[]⟩ id) ([5] ++ part true a).length = id := by rw [e, ← List.append_assoc]; exact numAt_end _ id hid
    rw [if_pos (by decide), e8]
    exact congrArg some hself
/-- The two readers of keys answer the same, whatever the text. -/
theorem readers (y : ByteArray) (hy : y.size ≤ 1000) (k : Nat) (hk : 60 ≤ k) : ∃ r, keys_Parse.f k y = some r ∧ waybillref7_KeyOf.f k y = some r := by
  obtain ⟨r1, e1, h1⟩ := Parse_sound k (by omega) y hy
  obtain ⟨r2, e2, h2⟩ := KeyOf_ans k hk y hy
  rcases h1 with h1 | ⟨kd, a, b, c, id, h1, hg, hid, hyy⟩
  · rcases h2 with h2 | ⟨kd, a, b, c, id, h2, hg, hid, hyy⟩
    · exact ⟨failK, by rw [e1, h1], by rw [e2, h2]⟩
    · have := parse_f k (by omega) kd a b c id hg hid
      rw [← hyy] at this
      exact ⟨r2, by rw [this, h2], e2⟩
  · have := KeyOf_good k hk kd a b c id hg hid
    rw [← hyy] at this
    exact ⟨r1, e1, by rw [this, h1]⟩
theorem rMsgOk_f (a b c : ByteArray) (m : Int) (l : List Int) : waybillref7_MsgOk.f a b c m l = some (goodM a b c m l) := goodMsg_f a b c m l
theorem rMsg_f (k : Nat) (hk : 20 ≤ k) (a b c : ByteArray) (m : Int) (l : List Int) : waybillref7_Msg.f k a b c m l = some (if goodM a b c m l = true then (msgOct a b c m l, true) else ([], false)) := by
  unfold waybillref7_Msg.f
  rw [rMsgOk_f, Option.bind_some]
  by_cases hg : goodM a b c m l = true
  · rw [if_pos hg, if_pos hg]
    obtain ⟨h1, h2, h3, h4, h5, h6⟩ := of_decide_eq_true hg
    have pa : (part true a).length = 1 + a.size := by rw [part_len, if_pos rfl]
    have pb : (part true b).length = 1 + b.size := by rw [part_len, if_pos rfl]
    have pc : (part true c).length = 1 + c.size := by rw [part_len, if_pos rfl]
    have hu : IntKind.u64.wrap m = m := u64_id m h4 (by omega)
    have P1 := fun (q : List Int) (hq : q.length ≤ 1000) => Put_f k (by omega) q 1 m (by omega) (by omega)
    rw [show ((1 : Nat) : Int) = 1 from rfl] at P1
    rw [RShort_k k (by omega) [] a (by omega) (by simp), Option.bind_some, List.nil_append, RShort_k k (by omega) _ b (by omega) (by omega), Option.bind_some, RShort_k k (by omega) _ c (by omega) (by rw [List.length_append]; omega), Option.bind_some, hu, P1 _ (by rw [List.length_append, List.length_append]; omega), Option.bind_some, if_pos (by rw [List.length_append, List.length_append, List.length_append, be_len]; omega)]
    unfold msgOct
    simp only [List.append_assoc]
  · rw [if_neg hg, if_neg hg]
def failM : ByteArray × ByteArray × ByteArray × Int × List Int × Bool := (⟨#[]⟩, ⟨#[]⟩, ⟨#[]⟩, 0, [], false)
def endM (a b c : List Int) (r : List Int) : ByteArray × ByteArray × ByteArray × Int × List Int × Bool :=
  if r.length < 1 then failM else if goodM (strOfNums a) (strOfNums b) (strOfNums c) (num (r.take 1)) (r.drop 1) = true then (strOfNums a, strOfNums b, strOfNums c, num (r.take 1), r.drop 1, true) else failM
def pmU (l : List Int) : ByteArray × ByteArray × ByteArray × Int × List Int × Bool :=
  match txt l 1 with
  | none => failM
  | some (a, r1) => match txt r1 1 with
    | none => failM
    | some (b, r2) => match txt r2 1 with
      | none => failM
      | some (c, r3) => endM a b c r3
theorem num1 (l : List Int) (ho : Oct l) : 0 ≤ num (l.take 1) ∧ num (l.take 1) < 256 := by
  have hb := num_bound _ (oct_take ho 1)
  by_cases h : 1 ≤ l.length
  · have ht : (l.take 1).length = 1 := by rw [List.length_take]; omega
    rw [ht, Int.pow_one] at hb
    exact hb
  · have ht : (l.take 1).length = 0 := by rw [List.length_take]; omega
    rw [ht, Int.pow_zero] at hb
    omega
/-- What the program does once a text was not there. -/
def tailM (k : Nat) (a b c : ByteArray) (r : List Int) (bad : Bool) : Option (ByteArray × ByteArray × ByteArray × Int × List Int × Bool) :=
  (octs_In_Int.f k r bad 1).bind fun bt188 => ((octs_In_Ok.f bt188.2.1 bt188.2.2).bind fun bt191 => ((octs_In_Rest.f bt191.2.1 bt191.2.2).bind fun bt194 => (if bt191.1 = true then ((keys_goodMsg.f a b c (wrap64 (bt188.1)) bt194.1).bind fun t199 => (if t199 = true then (some (a, b, c, wrap64 (bt188.1), bt194.1, true)) else (some ((⟨#[]⟩ : ByteArray), (⟨#[]⟩ : ByteArray), (⟨#[]⟩ : ByteArray), 0, ([] : List Int), false)))) else (some ((⟨#[]⟩ : ByteArray), (⟨#[]⟩ : ByteArray), (⟨#[]⟩ : ByteArray), 0, ([] : List Int), false)))))
theorem tail_bad (k : Nat) (hk : 9 ≤ k) (a b c : ByteArray) (r : List Int) : tailM k a b c r true = some failM := by
  unfold tailM octs_In_Ok.f
  rw [In_Int_bad k r 1 (by omega), Option.bind_some, Option.bind_some]
  dsimp only
  rw [In_Rest_bad, Option.bind_some, if_neg (show ¬ ((!true) = true) by decide)]
  rfl
theorem tail_f (k : Nat) (hk : 9 ≤ k) (a b c : List Int) (r : List Int) (ho : Oct r) (hl : r.length ≤ 20000) : tailM k (strOfNums a) (strOfNums b) (strOfNums c) r false = some (endM a b c r) := by
  have w1 : wd 1 = 1 := by decide
  have h1 := num1 r ho
  unfold endM
  by_cases h : r.length < 1
  · have e : tailM k (strOfNums a) (strOfNums b) (strOfNums c) r false = tailM k (strOfNums a) (strOfNums b) (strOfNums c) [] true := by
      unfold tailM
      rw [In_Int k r 1 (by omega) ho (by omega), w1, if_pos h, In_Int_bad k [] 1 (by omega)]
    rw [e, tail_bad k hk, if_pos h]
  · unfold tailM octs_In_Ok.f
    rw [In_Int k r 1 (by omega) ho (by omega), w1, if_neg h, if_neg h, Option.bind_some, Option.bind_some]
    dsimp only
    rw [In_Rest _ (by rw [List.length_drop]; omega), Option.bind_some, if_pos (show (!false) = true by decide), w64_id _ (by omega) (by omega)]
    dsimp only
    rw [goodMsg_f, Option.bind_some]
    by_cases hg : goodM (strOfNums a) (strOfNums b) (strOfNums c) (num (r.take 1)) (r.drop 1) = true
    · rw [if_pos hg, if_pos hg]
    · rw [if_neg hg, if_neg hg]; rfl
theorem ParseMsg_f (k : Nat) (hk : 9 ≤ k) (l : List Int) (ho : Oct l) (hl : l.length ≤ 20000) : keys_ParseMsg.f k l = some (pmU l) := by
  have e : ∀ l : List Int, keys_ParseMsg.f k l = ((octs_In_Short.f k l false).bind fun bt178 => ((octs_In_Short.f k bt178.2.1 bt178.2.2).bind fun bt181 => ((octs_In_Short.f k bt181.2.1 bt181.2.2).bind fun bt184 => tailM k bt178.1 bt181.1 bt184.1 bt184.2.1 bt184.2.2))) := fun l => rfl
  rw [e, In_Short k l hk ho (by omega), Option.bind_some]
  unfold pmU
  cases h1 : txt l 1 with
  | none =>
    show ((octs_In_Short.f k [] true).bind fun bt181 => ((octs_In_Short.f k bt181.2.1 bt181.2.2).bind fun bt184 => tailM k (strOfNums []) bt181.1 bt184.1 bt184.2.1 bt184.2.2)) = _
    rw [In_Short_bad, Option.bind_some]
    dsimp only
    rw [In_Short_bad, Option.bind_some]
    exact tail_bad k hk _ _ _ _
  | some p =>
    obtain ⟨a, r1⟩ := p
    obtain ⟨_, _, _, o1, n1⟩ := txt_inv ho h1
    show ((octs_In_Short.f k r1 false).bind fun bt181 => ((octs_In_Short.f k bt181.2.1 bt181.2.2).bind fun bt184 => tailM k (strOfNums a) bt181.1 bt184.1 bt184.2.1 bt184.2.2)) = _
    rw [In_Short k r1 hk o1 (by omega), Option.bind_some]
    dsimp only
    cases h2 : txt r1 1 with
    | none =>
      show ((octs_In_Short.f k [] true).bind fun bt184 => tailM k (strOfNums a) (strOfNums []) bt184.1 bt184.2.1 bt184.2.2) = _
      rw [In_Short_bad, Option.bind_some]
      exact tail_bad k hk _ _ _ _
    | some q =>
      obtain ⟨b, r2⟩ := q
      obtain ⟨_, _, _, o2, n2⟩ := txt_inv o1 h2
      show ((octs_In_Short.f k r2 false).bind fun bt184 => tailM k (strOfNums a) (strOfNums b) bt184.1 bt184.2.1 bt184.2.2) = _
      rw [In_Short k r2 hk o2 (by omega), Option.bind_some]
      dsimp only
      cases h3 : txt r2 1 with
      | none => exact tail_bad k hk _ _ _ _
      | some q3 =>
        obtain ⟨c, r3⟩ := q3
        obtain ⟨_, _, _, o3, n3⟩ := txt_inv o2 h3
        exact tail_f k hk a b c r3 o3 (by omega)
theorem rText (k : Nat) (hk : 12 ≤ k) (l : List Int) (a : Nat) (ho : Oct l) (hl : l.length ≤ 20000) (ha : a ≤ l.length) : waybillref1_Text.f k l (a : Int) 1 = some (rtxt l a 1) := by
  have h := RText_f k hk l a 1 ho (by omega) (by omega) ha
  exact h
theorem w_plus (A : Nat) (h : A ≤ 20000) : wrap64 ((A : Int) + 1) = ((A + 1 : Nat) : Int) := by rw [w64_id _ (by omega) (by omega)]; omega
theorem w_small (v : Int) (h : 0 ≤ v ∧ v < 256) : wrap64 v = v := w64_id _ (by omega) (by omega)
theorem MsgOf_end (k : Nat) (l : List Int) (ho : Oct l) (hl : l.length ≤ 20000) (A : Nat) (hA : A ≤ l.length) (a b c r3 : List Int) (d3 : r3 = l.drop A) :
    waybillref7_MsgOf.j0 (k + 1) l a b c (A : Int) (if A + 1 ≤ l.length then (num ((l.drop A).take 1), true) else ((0 : Int), false)).1 (!(if A + 1 ≤ l.length then (num ((l.drop A).take 1), true) else ((0 : Int), false)).2) = some (endM a b c r3) := by
  have hr3 : r3.length = l.length - A := by rw [d3, List.length_drop]
  unfold endM
  by_cases h : A + 1 ≤ l.length
  · have hn1 := num1 r3 (by rw [d3]; exact oct_drop ho _)
    have ew := w_plus A (by omega)
    have ed : l.drop (A + 1) = r3.drop 1 := by rw [d3, List.drop_drop]
    have hlt : ¬ r3.length < 1 := by rw [hr3]; omega
    have g1 : (0 : Int) ≤ ((A + 1 : Nat) : Int) := Int.natCast_nonneg _
    have g2 : ((A + 1 : Nat) : Int) ≤ (l.length : Int) := Int.ofNat_le.2 h
    have ev := w_small _ hn1
    rw [if_pos h, if_neg hlt, ← d3]
    dsimp only
    rw [waybillref7_MsgOf.j0, if_neg (show ¬ ((!true) = true) by decide), ew, if_pos g1, if_pos g2, Option.bind_some, Int.toNat_natCast, ed, ev, rMsgOk_f, Option.bind_some]
    by_cases hg : goodM (strOfNums a) (strOfNums b) (strOfNums c) (num (r3.take 1)) (r3.drop 1) = true
    · rw [if_pos hg, if_pos hg]
    · rw [if_neg hg, if_neg hg]; rfl
  · have hlt : r3.length < 1 := by rw [hr3]; omega
    rw [if_neg h, if_pos hlt, waybillref7_MsgOf.j0, if_pos (show (!false) = true by decide)]
    rfl
theorem MsgOf_f (k : Nat) (hk : 30 ≤ k) (l : List Int) (ho : Oct l) (hl : l.length ≤ 20000) : waybillref7_MsgOf.f k l = some (pmU l) := by
  obtain ⟨k, rfl⟩ : ∃ j, k = j + 1 := ⟨k - 1, by omega⟩
  have hj : ∀ (x4 x7 x10 : List Int) (x11 x13 : Int), waybillref7_MsgOf.j0 (k + 1) l x4 x7 x10 x11 x13 true = some failM := by
    intro x4 x7 x10 x11 x13
    rw [waybillref7_MsgOf.j0, if_pos rfl]; rfl
  have hN : ∀ a : Nat, a ≤ l.length → waybillref1_Num.f (k + 1) l (a : Int) 1 = some (if a + 1 ≤ l.length then (num ((l.drop a).take 1), true) else (0, false)) := fun a ha => Num_f (k + 1) (by omega) l a 1 ho (by omega) (by omega) (by omega)
  have t0 := rText (k + 1) (by omega) l 0 ho hl (by omega)
  rw [show ((0 : Nat) : Int) = 0 from rfl] at t0
  unfold waybillref7_MsgOf.f
  rw [t0, Option.bind_some]
  unfold pmU
  have hd0 : l.drop 0 = l := rfl
  cases h1 : txt l 1 with
  | none =>
    have r0 : rtxt l 0 1 = ([], 0, false) := rtxt_no (by rw [hd0]; exact h1)
    rw [r0]
    dsimp only
    rw [t0, Option.bind_some, r0]
    dsimp only
    rw [t0, Option.bind_some, r0]
    dsimp only
    have n0 := hN 0 (by omega)
    rw [show ((0 : Nat) : Int) = 0 from rfl] at n0
    rw [n0, Option.bind_some, if_neg (by decide)]
    exact hj _ _ _ _ _
  | some p =>
    obtain ⟨a, r1⟩ := p
    obtain ⟨s1, s2, s3⟩ := txt_some h1
    have e1 : rtxt l 0 1 = (a, ((1 + a.length : Nat) : Int), true) := by
      rw [rtxt_yes (a := 0) (by rw [hd0]; exact h1), show ((0 : Nat) : Int) + ((1 : Nat) : Int) + (a.length : Int) = ((1 + a.length : Nat) : Int) by omega]
    rw [e1]
    dsimp only
    have t1 := rText (k + 1) (by omega) l (1 + a.length) ho hl s1
    rw [t1, Option.bind_some]
    cases h2 : txt r1 1 with
    | none =>
      have r0 : rtxt l (1 + a.length) 1 = ([], 0, false) := rtxt_no (by rw [← s3]; exact h2)
      rw [r0]
      dsimp only
      rw [t0, Option.bind_some, e1]
      dsimp only
      rw [hN _ s1, Option.bind_some, if_pos (show true = true from rfl), if_neg (by decide)]
      exact hj _ _ _ _ _
    | some q =>
      obtain ⟨b, r2⟩ := q
      obtain ⟨u1, u2, u3⟩ := txt_some h2
      have hr1 : r1.length = l.length - (1 + a.length) := by rw [s3, List.length_drop]
      have hb2 : 1 + a.length + (1 + b.length) ≤ l.length := by omega
      have e2 : rtxt l (1 + a.length) 1 = (b, ((1 + a.length + (1 + b.length) : Nat) : Int), true) := by
        rw [rtxt_yes (by rw [← s3]; exact h2), show ((1 + a.length : Nat) : Int) + ((1 : Nat) : Int) + (b.length : Int) = ((1 + a.length + (1 + b.length) : Nat) : Int) by omega]
      have d2 : r2 = l.drop (1 + a.length + (1 + b.length)) := by rw [u3, s3, List.drop_drop]
      rw [e2]
      dsimp only
      rw [rText (k + 1) (by omega) l _ ho hl hb2, Option.bind_some]
      cases h3 : txt r2 1 with
      | none =>
        have r0 : rtxt l (1 + a.length + (1 + b.length)) 1 = ([], 0, false) := rtxt_no (by rw [← d2]; exact h3)
        rw [r0]
        dsimp only
        have n0 := hN 0 (by omega)
        rw [show ((0 : Nat) : Int) = 0 from rfl] at n0
        rw [n0, Option.bind_some, if_pos (show true = true from rfl), if_pos (show true = true from rfl), if_neg (by decide)]
        exact hj _ _ _ _ _
      | some q3 =>
        obtain ⟨c, r3⟩ := q3
        obtain ⟨v1, v2, v3⟩ := txt_some h3
        have hr2 : r2.length = l.length - (1 + a.length + (1 + b.length)) := by rw [d2, List.length_drop]
        have hb3 : 1 + a.length + (1 + b.length) + (1 + c.length) ≤ l.length := by omega
        have e3 : rtxt l (1 + a.length + (1 + b.length)) 1 = (c, ((1 + a.length + (1 + b.length) + (1 + c.length) : Nat) : Int), true) := by
          rw [rtxt_yes (by rw [← d2]; exact h3), show ((1 + a.length + (1 + b.length) : Nat) : Int) + ((1 : Nat) : Int) + (c.length : Int) = ((1 + a.length + (1 + b.length) + (1 + c.length) : Nat) : Int) by omega]
        have d3 : r3 = l.drop (1 + a.length + (1 + b.length) + (1 + c.length)) := by rw [v3, d2, List.drop_drop]
        have hr3 : r3.length = l.length - (1 + a.length + (1 + b.length) + (1 + c.length)) := by rw [d3, List.length_drop]
        rw [e3]
        dsimp only
        rw [hN _ hb3, Option.bind_some, if_pos (show true = true from rfl), if_pos (show true = true from rfl), if_pos (show true = true from rfl)]
        exact MsgOf_end k l ho hl _ hb3 a b c r3 d3
theorem and16 (x : Int) : 0 ≤ Go.bits .and .i64 x 65535 ∧ Go.bits .and .i64 x 65535 < 65536 := by
  unfold Go.bits
  have h1 : (BitVec.ofInt (IntKind.i64.bits) x &&& BitVec.ofInt (IntKind.i64.bits) 65535).toNat ≤ 65535 := by
    rw [BitVec.toNat_and]
    have : (BitVec.ofInt (IntKind.i64.bits) 65535).toNat = 65535 := by decide
    rw [this]
    exact Nat.and_le_right
  simp only []
  rw [IntKind.wrap_i64]
  omega
theorem tmod_in (x m : Int) (hx : 0 ≤ x) (hm : 0 < m) : 0 ≤ Int.tmod x m ∧ Int.tmod x m < m := ⟨Int.tmod_nonneg m hx, Int.tmod_lt_of_pos x hm⟩
theorem awake12_ok (k : Nat) (hk : 30 ≤ k) : waybilllaw12_awake.f k = some true :=
  at_rounds (g := fun k => waybilllaw12_awake.f k) (fun k => waybilllaw12_awake.mono k) hk (by decide +kernel)
end Go.Proofs.Ytpjkaodbcclecaa.Pure
