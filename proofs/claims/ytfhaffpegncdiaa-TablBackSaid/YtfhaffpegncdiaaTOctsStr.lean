/-
Octets as texts: which of two texts of the same length stands first, and when they are one.
-/
import Derived.Test.YtfhaffpegncdiaaTOctsLib
import Derived.Lib.Bytes
namespace Go.Proofs.Ytfhaffpegncdiaa.Pure
open Go.RowKit Go.Proofs.Ytfhaffpegncdiaa.PT Go.Proofs.YtfhaffpegncdiaaW.PrintWords Go.Proofs.YtfhaffpegncdiaaW.PrintLast Go.Proofs.YtfhaffpegncdiaaW.PrintMore
set_option linter.unusedVariables false
set_option linter.unusedSimpArgs false

def u8s (l : List Int) : List UInt8 := l.map fun n => UInt8.ofNat n.toNat
theorem str_toList (l : List Int) : (strOfNums l).toList = u8s l := Lib.strOfNums_toList l
theorem u8_toNat (c : Int) (h : 0 ≤ c ∧ c < 256) : (UInt8.ofNat c.toNat).toNat = c.toNat := by
  simp only [UInt8.toNat_ofNat']; omega
theorem u8_lt (c d : Int) (h : 0 ≤ c ∧ c < 256) (h2 : 0 ≤ d ∧ d < 256) : (UInt8.ofNat c.toNat < UInt8.ofNat d.toNat) ↔ c < d := by
  rw [UInt8.lt_iff_toNat_lt, u8_toNat c h, u8_toNat d h2]; omega
theorem u8_eq (c d : Int) (h : 0 ≤ c ∧ c < 256) (h2 : 0 ≤ d ∧ d < 256) : (UInt8.ofNat c.toNat = UInt8.ofNat d.toNat) ↔ c = d := by
  rw [← UInt8.toNat_inj, u8_toNat c h, u8_toNat d h2]; omega
theorem u8s_inj {x y : List Int} (hx : Oct x) (hy : Oct y) : u8s x = u8s y ↔ x = y := by
  constructor
  · intro h
    induction x generalizing y with
    | nil => cases y with
      | nil => rfl
      | cons d y => simp [u8s] at h
    | cons c x ih =>
      cases y with
      | nil => simp [u8s] at h
      | cons d y =>
        simp only [u8s, List.map_cons, List.cons.injEq] at h
        rw [(u8_eq c d (oct_cons hx).1 (oct_cons hy).1).1 h.1, ih (oct_cons hx).2 (oct_cons hy).2 h.2]
  · rintro rfl; rfl
theorem numA_split (l : List Int) : ∀ a, numA a l = a * 256 ^ l.length + num l := by
  induction l with
  | nil => intro a; simp [numA, num]
  | cons c l ih =>
    intro a
    have h1 := ih (a * 256 + c)
    have h2 := ih (0 * 256 + c)
    simp only [num, numA, List.length_cons, Int.pow_succ] at *
    grind
theorem num_cons (c : Int) (l : List Int) : num (c :: l) = c * 256 ^ l.length + num l := by
  show numA (0 * 256 + c) l = _
  rw [numA_split]; simp
/-- Rows of octets of one length stand as their numbers. -/
theorem less_num : ∀ (x y : List Int), x.length = y.length → Oct x → Oct y → Op.bytesLess (u8s x) (u8s y) = decide (num x < num y)
  | [], [], _, _, _ => by simp [u8s, Op.bytesLess, num, numA]
  | [], _ :: _, h, _, _ => by simp at h
  | _ :: _, [], h, _, _ => by simp at h
  | c :: x, d :: y, h, hx, hy => by
    have hl : x.length = y.length := by simpa using h
    have ih := less_num x y hl (oct_cons hx).2 (oct_cons hy).2
    have hc := (oct_cons hx).1
    have hd := (oct_cons hy).1
    have bx := num_bound x (oct_cons hx).2
    have by_ := num_bound y (oct_cons hy).2
    have hp := p256_pos y.length
    show (decide (UInt8.ofNat c.toNat < UInt8.ofNat d.toNat) || (UInt8.ofNat c.toNat == UInt8.ofNat d.toNat && Op.bytesLess (u8s x) (u8s y))) = _
    rw [ih, num_cons, num_cons, hl]
    rw [hl] at bx
    rw [Bool.eq_iff_iff]
    simp only [Bool.or_eq_true, Bool.and_eq_true, decide_eq_true_eq, beq_iff_eq, u8_lt c d hc hd, u8_eq c d hc hd]
    generalize (256 : Int) ^ y.length = p at *
    constructor
    · rintro (h | ⟨rfl, h⟩)
      · have : c * p + p ≤ d * p := by
          have := Int.mul_le_mul_of_nonneg_right (show c + 1 ≤ d by omega) (Int.le_of_lt hp)
          grind
        omega
      · omega
    · intro h
      by_cases hcd : c = d
      · subst hcd; right; exact ⟨rfl, by omega⟩
      · left
        by_cases hlt : c < d
        · exact hlt
        · exfalso
          have : d * p + p ≤ c * p := by
            have := Int.mul_le_mul_of_nonneg_right (show d + 1 ≤ c by omega) (Int.le_of_lt hp)
            grind
          omega
theorem num_inj {x y : List Int} (h : x.length = y.length) (hx : Oct x) (hy : Oct y) (hn : num x = num y) : x = y := by
  induction x generalizing y with
  | nil => cases y with
    | nil => rfl
    | cons d y => simp at h
  | cons c x ih =>
    cases y with
    | nil => simp at h
    | cons d y =>
      have hl : x.length = y.length := by simpa using h
      have bx := num_bound x (oct_cons hx).2
      have by_ := num_bound y (oct_cons hy).2
      have hp := p256_pos y.length
      rw [num_cons, num_cons, hl] at hn
      rw [hl] at bx
      have hcd : c = d := by
        generalize (256 : Int) ^ y.length = p at *
        by_cases h1 : c < d
        · have : c * p + p ≤ d * p := by
            have := Int.mul_le_mul_of_nonneg_right (show c + 1 ≤ d by omega) (Int.le_of_lt hp)
            grind
          omega
        · by_cases h2 : d < c
          · have : d * p + p ≤ c * p := by
              have := Int.mul_le_mul_of_nonneg_right (show d + 1 ≤ c by omega) (Int.le_of_lt hp)
              grind
            omega
          · omega
      subst hcd
      rw [ih hl (oct_cons hx).2 (oct_cons hy).2 (by omega)]
theorem mask (n : Nat) (hn : n < 8) (a : Int) (h0 : 0 ≤ a) (h1 : a < 18446744073709551616) :
    Go.bits .and .u64 a (256 ^ n - 1) = a % 256 ^ n := by
  have e : (256 : Int) ^ n = 2 ^ (8 * n) := by rw [Int.pow_mul]; rfl
  rw [e]
  exact bits_mask .u64 64 (by decide) u64_wraps (8 * n) (by omega) a h0 (by omega)
theorem p256_lt (n : Nat) (h : n < 8) : (256 : Int) ^ n ≤ 72057594037927936 := by
  have : ∀ m : Fin 8, (256 : Int) ^ m.val ≤ 72057594037927936 := by decide
  exact this ⟨n, by omega⟩
end Go.Proofs.Ytfhaffpegncdiaa.Pure
