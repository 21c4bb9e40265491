/-
What the printed functions of the package octs come to, in plain Lean: numbers as octets and back, texts behind their lengths.
Conditions: the bounds on lengths and numbers that each lemma names.
-/
import Derived.Test.YtfhaffpegncdiaaPTx1
import Derived.Laws.BitsLemmas
import Derived.IntWalk
namespace Go.Proofs.Ytfhaffpegncdiaa.Pure
open Go.RowKit Go.Proofs.Ytfhaffpegncdiaa.PT Go.Proofs.YtfhaffpegncdiaaW.PrintWords Go.Proofs.YtfhaffpegncdiaaW.PrintLast Go.Proofs.YtfhaffpegncdiaaW.PrintMore
set_option linter.unusedVariables false
set_option linter.unusedSimpArgs false

/-- All of them are octets. -/
def Oct (l : List Int) : Prop := ∀ x ∈ l, 0 ≤ x ∧ x < 256
/-- A number's n lowest octets, the highest first. -/
def be : Nat → Int → List Int
  | 0, _ => []
  | n + 1, v => v / 256 ^ n % 256 :: be n v
def numA : Int → List Int → Int
  | a, [] => a
  | a, c :: l => numA (a * 256 + c) l
def num (l : List Int) : Int := numA 0 l
def wd (n : Int) : Nat := (mn (mx n 1) 8).toNat

theorem wd_ge (n : Int) : 1 ≤ wd n := by unfold wd mn mx; (repeat' split) <;> omega
theorem wd_le (n : Int) : wd n ≤ 8 := by unfold wd mn mx; (repeat' split) <;> omega
theorem wd_cast (n : Int) : mn (mx n 1) 8 = (wd n : Int) := by unfold wd mn mx; (repeat' split) <;> omega
theorem be_len (n : Nat) (v : Int) : (be n v).length = n := by
  induction n with
  | zero => rfl
  | succ n ih => simp [be, ih]
theorem be_oct (n : Nat) (v : Int) : Oct (be n v) := by
  induction n with
  | zero => intro x hx; simp [be] at hx
  | succ n ih =>
    intro x hx
    simp only [be, List.mem_cons] at hx
    rcases hx with rfl | hx
    · omega
    · exact ih x hx
theorem oct_nil : Oct [] := fun x hx => by simp at hx
theorem oct_app {a b : List Int} (ha : Oct a) (hb : Oct b) : Oct (a ++ b) := fun x hx => (List.mem_append.1 hx).elim (ha x) (hb x)
theorem oct_take {a : List Int} (ha : Oct a) (n : Nat) : Oct (a.take n) := fun x hx => ha x (List.mem_of_mem_take hx)
theorem oct_drop {a : List Int} (ha : Oct a) (n : Nat) : Oct (a.drop n) := fun x hx => ha x (List.mem_of_mem_drop hx)
theorem oct_cons {x : Int} {a : List Int} (h : Oct (x :: a)) : (0 ≤ x ∧ x < 256) ∧ Oct a := ⟨h x (by simp), fun y hy => h y (by simp [hy])⟩
theorem oct_bytesOf (s : ByteArray) : Oct (bytesOf s) := by
  intro x hx
  simp only [bytesOf, List.mem_map] at hx
  obtain ⟨b, _, rfl⟩ := hx
  have := b.toNat_lt
  omega
theorem oct_wf {l : List Int} (h : ∀ x ∈ l, (Lit.int .u8 x).wf = true) : Oct l := by
  intro x hx
  have := h x hx
  simp [Lit.wf, IntKind.min, IntKind.max, IntKind.signed, IntKind.bits] at this
  omega

theorem u64_id (n : Int) (h0 : 0 ≤ n) (h1 : n < 18446744073709551616) : IntKind.u64.wrap n = n := IntWalk.u64_in n ⟨h0, by omega⟩
theorem w64_id (n : Int) (h0 : -9223372036854775808 ≤ n) (h1 : n < 9223372036854775808) : wrap64 n = n := by unfold wrap64; omega
theorem u64_wraps (n : Int) (h0 : 0 ≤ n) (h1 : n < 2 ^ 64) : IntKind.u64.wrap n = n := u64_id n h0 (by omega)

/-- The loop of octs.Int. -/
theorem Int_l0 (v : Int) : ∀ (j : Nat) (K : Nat) (x : List Int), j ≤ 8 → j < K → x.length + j < 140737488355328 → octs_Int.l0 K x v ((j : Int) - 1) = some (x ++ be j v) := by
  intro j
  induction j with
  | zero =>
    intro K x _ hK hx
    obtain ⟨K, rfl⟩ : ∃ m, K = m + 1 := ⟨K - 1, by omega⟩
    simp only [octs_Int.l0]
    rw [if_neg (by omega)]
    simp [be]
  | succ j ih =>
    intro K x hj hK hx
    obtain ⟨K, rfl⟩ : ∃ m, K = m + 1 := ⟨K - 1, by omega⟩
    have e1 : (((j + 1 : Nat) : Int) - 1) = (j : Int) := by omega
    have e2 : IntKind.u64.wrap (wrap64 ((j : Int) * 8)) = (j : Int) * 8 := by
      rw [w64_id _ (by omega) (by omega), u64_id _ (by omega) (by omega)]
    have e3 : shr .u64 v ((j : Int) * 8) = v / 256 ^ j := by
      unfold shr
      have a1 : ((j : Int) * 8).toNat = 8 * j := by omega
      have a2 : min (8 * j) IntKind.u64.bits = 8 * j := Nat.min_eq_left (by simp only [IntKind.bits]; omega)
      rw [a1, a2, Int.pow_mul]
      rfl
    simp only [octs_Int.l0]
    rw [e1, if_pos (by omega), e2, if_pos (by omega), if_pos (by omega), e3, w64_id _ (by omega) (by omega), ih K _ (by omega) (by omega) (by simp; omega)]
    simp [be]
theorem Int_f (k : Nat) (hk : 9 ≤ k) (l : List Int) (n v : Int) (hl : l.length + 8 < 140737488355328) : octs_Int.f k l n v = some (l ++ be (wd n) v) := by
  unfold octs_Int.f slices_Clone_byte_byte.f octs_width.f
  have h8 := wd_le n
  have h1 := wd_ge n
  rw [if_pos (by omega)]
  simp only [Option.bind_some]
  rw [wd_cast, w64_id _ (by omega) (by omega)]
  exact Int_l0 v (wd n) k l h8 (by omega) (by omega)

theorem p256_le (n : Nat) (h : n ≤ 8) : (256 : Int) ^ n ≤ 18446744073709551616 := by
  have : ∀ m : Fin 9, (256 : Int) ^ m.val ≤ 18446744073709551616 := by decide
  exact this ⟨n, by omega⟩
theorem or_byte (a c : Int) (ha : 0 ≤ a) (ha2 : a * 256 < 18446744073709551616) (hc : 0 ≤ c) (hc2 : c < 256) : Go.bits .or .u64 (IntKind.u64.wrap (a * 256)) (IntKind.u64.wrap c) = a * 256 + c := by
  rw [u64_id _ (by omega) ha2, u64_id _ hc (by omega)]
  exact bits_join .u64 64 (by decide) u64_wraps 8 (a * 256) c (by omega) (by omega) (by omega) hc (by omega) (by omega)
theorem rd_at (l : List Int) (i : Nat) : rd l (i : Int) = l.getD i 0 := by simp [rd]
theorem drop_at (l : List Int) (i : Nat) (h : i < l.length) : l.drop i = l.getD i 0 :: l.drop (i + 1) := by
  rw [List.drop_eq_getElem_cons h, List.getD_eq_getElem?_getD, List.getElem?_eq_getElem h]; rfl
theorem getD_oct {l : List Int} (ho : Oct l) (i : Nat) : 0 ≤ l.getD i 0 ∧ l.getD i 0 < 256 := by
  rw [List.getD_eq_getElem?_getD]
  by_cases h : i < l.length
  · rw [List.getElem?_eq_getElem h]; exact ho _ (List.getElem_mem h)
  · rw [List.getElem?_eq_none (by omega)]; simp
theorem emod_step (v p : Int) (hp : 0 < p) : v % (p * 256) = v % p + p * (v / p % 256) := by
  have h1 := Int.mul_ediv_add_emod v p
  have h2 := Int.mul_ediv_add_emod (v / p) 256
  have h3 : v / (p * 256) = v / p / 256 := (Int.ediv_ediv_of_nonneg (by omega)).symm
  have h4 := Int.mul_ediv_add_emod v (p * 256)
  rw [h3] at h4
  grind
theorem p256_pos (n : Nat) : (0 : Int) < 256 ^ n := Int.pow_pos (by omega)
theorem numA_be (n : Nat) (a v : Int) : numA a (be n v) = a * 256 ^ n + v % 256 ^ n := by
  induction n generalizing a with
  | zero => simp [be, numA, Int.emod_one]
  | succ n ih =>
    simp only [be, numA, ih]
    have h : v % (256 ^ n * 256) = v % 256 ^ n + 256 ^ n * (v / 256 ^ n % 256) := emod_step v _ (p256_pos n)
    rw [Int.pow_succ, h]
    have := Int.mul_comm (256 ^ n) (v / 256 ^ n % 256)
    have := Int.mul_assoc a (256 : Int) (256 ^ n)
    have := Int.mul_comm (256 : Int) (256 ^ n)
    grind
theorem num_be (n : Nat) (v : Int) : num (be n v) = v % 256 ^ n := by
  unfold num; rw [numA_be]; omega
theorem numA_bound (l : List Int) (ho : Oct l) : ∀ (a : Int), 0 ≤ a → 0 ≤ numA a l ∧ numA a l < (a + 1) * 256 ^ l.length := by
  induction l with
  | nil => intro a ha; simp [numA]; omega
  | cons c l ih =>
    intro a ha
    have hc := oct_cons ho
    have := ih hc.2 (a * 256 + c) (by omega)
    refine ⟨this.1, ?_⟩
    have h2 : (a * 256 + c + 1) * 256 ^ l.length ≤ ((a + 1) * 256) * 256 ^ l.length := Int.mul_le_mul_of_nonneg_right (by omega) (Int.le_of_lt (Int.pow_pos (by omega)))
    have h3 : (a + 1) * 256 ^ (c :: l).length = ((a + 1) * 256) * 256 ^ l.length := by
      simp only [List.length_cons, Int.pow_succ]
      grind
    rw [h3]
    exact Int.lt_of_lt_of_le this.2 h2
theorem num_bound (l : List Int) (ho : Oct l) : 0 ≤ num l ∧ num l < 256 ^ l.length := by
  have := numA_bound l ho 0 (by omega)
  simpa [num] using this

theorem Long_f (k : Nat) (l t : List Int) (hk : 9 ≤ k) (hl : l.length + t.length + 300 < 140737488355328) : octs_Long.f k l t = some (l ++ (be 4 (t.length : Int) ++ t)) := by
  unfold octs_Long.f
  have h4 : wd 4 = 4 := by decide
  have h1 := be_len 4 (t.length : Int)
  rw [u64_id _ (by omega) (by omega), Int_f k hk l 4 _ (by omega), h4]
  simp only [Option.bind_some]
  rw [if_pos (by simp [h1]; omega), List.append_assoc]

end Go.Proofs.Ytfhaffpegncdiaa.Pure
