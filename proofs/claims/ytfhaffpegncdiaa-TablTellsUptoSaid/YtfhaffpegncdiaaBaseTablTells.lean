/-
The plain laws that the statement rests on, behind each other.
-/
import Derived.Test.YtfhaffpegncdiaaTOctsLib
import Derived.Lib.Bytes
import Derived.Test.YtfhaffpegncdiaaPTx3
import Derived.Test.YtfhaffpegncdiaaPTx4
import Derived.Test.YtfhaffpegncdiaaTTablCount
import Derived.Test.YtfhaffpegncdiaaTTablOct
import Derived.Test.YtfhaffpegncdiaaPTx6
import Derived.Test.YtfhaffpegncdiaaPTx11
import Derived.Test.YtfhaffpegncdiaaPTx7
import Derived.Test.YtfhaffpegncdiaaPTx8
import Derived.Test.YtfhaffpegncdiaaPTx9
import Derived.Test.YtfhaffpegncdiaaPTx12
import Derived.Test.YtfhaffpegncdiaaPTx13
import Derived.Test.YtfhaffpegncdiaaPTx14
import Derived.Test.YtfhaffpegncdiaaPTx15
import Derived.Test.YtfhaffpegncdiaaPTx0
import Derived.Test.YtfhaffpegncdiaaRWords
import Derived.KernelRfl
import Derived.Test.YtfhaffpegncdiaaRows
/-
Octets as texts: which of two texts of the same length stands first, and when they are one.
-/
namespace Go.Proofs.Ytfhaffpegncdiaa.Pure
open Go.RowKit Go.Proofs.Ytfhaffpegncdiaa.PT Go.Proofs.YtfhaffpegncdiaaW.PrintWords Go.Proofs.YtfhaffpegncdiaaW.PrintLast Go.Proofs.YtfhaffpegncdiaaW.PrintMore
set_option linter.unusedVariables false
set_option linter.unusedSimpArgs false

def u8s (l : List Int) : List UInt8 := l.map fun n => UInt8.ofNat n.toNat
theorem str_toList (l : List Int) : (strOfNums l).toList = u8s l := Lib.strOfNums_toList l
theorem numA_split (l : List Int) : ∀ a, numA a l = a * 256 ^ l.length + num l := by
  induction l with
  | nil => intro a; simp [numA, num]
  | cons c l ih =>
    intro a
    have h1 := ih (a * 256 + c)
    have h2 := ih (0 * 256 + c)
    simp only [num, numA, List.length_cons, Int.pow_succ] at *
    grind
theorem num_cons (c : Int) (l : List Int) : num (c :: l) = c * 256 ^ l.length + num l := by
  show numA (0 * 256 + c) l = _
  rw [numA_split]; simp
theorem num_inj {x y : List Int} (h : x.length = y.length) (hx : Oct x) (hy : Oct y) (hn : num x = num y) : x = y := by
  induction x generalizing y with
  | nil => cases y with
    | nil => rfl
    | cons d y => simp at h
  | cons c x ih =>
    cases y with
    | nil => simp at h
    | cons d y =>
      have hl : x.length = y.length := by simpa using h
      have bx := num_bound x (oct_cons hx).2
      have by_ := num_bound y (oct_cons hy).2
      have hp := p256_pos y.length
      rw [num_cons, num_cons, hl] at hn
      rw [hl] at bx
      have hcd : c = d := by
        generalize (256 : Int) ^ y.length = p at *
        by_cases h1 : c < d
        · have : c * p + p ≤ d * p := by
            have := Int.mul_le_mul_of_nonneg_right (show c + 1 ≤ d by omega) (Int.le_of_lt hp)
            grind
          omega
        · by_cases h2 : d < c
          · have : d * p + p ≤ c * p := by
              have := Int.mul_le_mul_of_nonneg_right (show d + 1 ≤ c by omega) (Int.le_of_lt hp)
              grind
            omega
          · omega
      subst hcd
      rw [ih hl (oct_cons hx).2 (oct_cons hy).2 (by omega)]
end Go.Proofs.Ytfhaffpegncdiaa.Pure
/-
Octets that were written are read as they were: numbers and texts at the head of a row.
-/
namespace Go.Proofs.Ytfhaffpegncdiaa.Pure
open Go.RowKit Go.Proofs.Ytfhaffpegncdiaa.PT Go.Proofs.YtfhaffpegncdiaaW.PrintWords Go.Proofs.YtfhaffpegncdiaaW.PrintLast Go.Proofs.YtfhaffpegncdiaaW.PrintMore
set_option linter.unusedVariables false
set_option linter.unusedSimpArgs false
theorem bytesOf_len (s : ByteArray) : (bytesOf s).length = s.size := by unfold bytesOf; rw [List.length_map, Array.length_toList]; rfl
theorem str_bytesOf (s : ByteArray) : strOfNums (bytesOf s) = s := by
  have h : (strOfNums (bytesOf s)).data.toList = s.data.toList := by
    rw [strOfNums_data]
    unfold bytesOf
    rw [List.map_map]
    have : ((fun n : Int => UInt8.ofNat n.toNat) ∘ fun b : UInt8 => (b.toNat : Int)) = id := by
      funext b
      simp
    rw [this, List.map_id]
  cases s with
  | mk d => 
    have h2 : (strOfNums (bytesOf ⟨d⟩)).data = d := Array.toList_inj.1 h
    generalize strOfNums (bytesOf ⟨d⟩) = u at *
    cases u
    simp only at h2
    rw [h2]
theorem txt_be (n m : Nat) (a rest : List Int) (ha : a.length = m) (hm : (m : Int) < 256 ^ n) : txt (be n m ++ (a ++ rest)) n = some (a, rest) := by
  have hl := be_len n (m : Int)
  have ht : (be n (m : Int) ++ (a ++ rest)).take n = be n m := List.take_left' hl
  have hd : (be n (m : Int) ++ (a ++ rest)).drop n = a ++ rest := List.drop_left' hl
  have hn : num (be n (m : Int)) = m := by rw [num_be, Int.emod_eq_of_lt (by omega) hm]
  unfold txt
  rw [ht, hd, hn, if_neg (by simp [hl]), if_neg (by simp [hl]; omega), Int.toNat_natCast, List.take_left' ha, List.drop_left' ha]
end Go.Proofs.Ytfhaffpegncdiaa.Pure
/-
What a table's octets are, in plain Lean; a table that may be is read as it was told.
Conditions: numbers as the machine has them.
-/
namespace Go.Proofs.Ytfhaffpegncdiaa.PT
open Go.RowKit Go.Proofs.Ytfhaffpegncdiaa.Pure Go.Proofs.YtfhaffpegncdiaaW.PrintWords Go.Proofs.YtfhaffpegncdiaaW.PrintLast Go.Proofs.YtfhaffpegncdiaaW.PrintMore
set_option linter.unusedVariables false
set_option linter.unusedSimpArgs false
namespace Tb
/-- All rows' octets. -/
def encL (V : S24 → List Int × Bool) (l : List S24) : List Int := l.flatMap fun x => rowP x (V x).1
def key (x : S24) : List UInt8 := x.f0.data.toList
/-- A field that may be, but for those beside it. -/
def good (V : S24 → List Int × Bool) (x : S24) : Prop := (V x).2 = true ∧ 1 ≤ x.f0.size ∧ x.f0.size ≤ 128
/-- Fields that may be a table's. -/
def fine (V : S24 → List Int × Bool) (l : List S24) : Prop := (∀ x ∈ l, good V x) ∧ (l.map key).Nodup ∧ (encL V l).length ≤ 2000
theorem encL_cons (V : S24 → List Int × Bool) (x : S24) (l : List S24) : encL V (x :: l) = rowP x (V x).1 ++ encL V l := rfl
theorem rowsL_true (V : S24 → List Int × Bool) : ∀ (l : List S24) (out : List Int) (seen : List (List UInt8)), (∀ x ∈ l, good V x) → (l.map key).Nodup → (∀ x ∈ l, key x ∉ seen) → (out ++ encL V l).length ≤ 2000 → rowsL V l out seen = (out ++ encL V l, true)
  | [], out, seen, _, _, _, _ => by simp [rowsL, encL]
  | x :: l, out, seen, hg, hn, hs, hl => by
    obtain ⟨g1, g2, g3⟩ := hg x (by simp)
    have hl' : (out ++ rowP x (V x).1 ++ encL V l).length ≤ 2000 := by rw [List.append_assoc, ← encL_cons]; exact hl
    simp only [List.map_cons, List.nodup_cons] at hn
    unfold rowsL
    rw [if_pos ⟨g1, hs x (by simp), g2, g3⟩, if_pos (by rw [List.length_append] at hl'; omega)]
    rw [rowsL_true V l _ _ (fun y hy => hg y (by simp [hy])) hn.2 (fun y hy hm => ?_) hl', encL_cons, List.append_assoc]
    rcases List.mem_cons.1 hm with h | h
    · exact hn.1 (by rw [show key x = key y from h.symm]; exact List.mem_map_of_mem hy)
    · exact hs y (by simp [hy]) h
theorem rowsL_told (V : S24 → List Int × Bool) : ∀ (l : List S24) (out : List Int) (seen : List (List UInt8)), out.length ≤ 2000 → (rowsL V l out seen).2 = true → (∀ x ∈ l, good V x) ∧ (l.map key).Nodup ∧ (∀ x ∈ l, key x ∉ seen) ∧ (out ++ encL V l).length ≤ 2000
  | [], out, seen, ho, _ => by simp [encL]; exact ho
  | x :: l, out, seen, ho, h => by
    unfold rowsL at h
    by_cases hc : (V x).2 = true ∧ x.f0.data.toList ∉ seen ∧ 1 ≤ x.f0.size ∧ x.f0.size ≤ 128
    · rw [if_pos hc] at h
      by_cases hl : (out ++ rowP x (V x).1).length ≤ 2000
      · rw [if_pos hl] at h
        obtain ⟨h1, h2, h3, h4⟩ := rowsL_told V l _ _ hl h
        refine ⟨?_, ?_, ?_, ?_⟩
        · intro y hy
          rcases List.mem_cons.1 hy with rfl | hy
          · exact ⟨hc.1, hc.2.2⟩
          · exact h1 y hy
        · rw [List.map_cons, List.nodup_cons]
          refine ⟨fun hm => ?_, h2⟩
          obtain ⟨y, hy, e⟩ := List.mem_map.1 hm
          exact h3 y hy (by rw [e]; exact List.mem_cons.2 (.inl rfl))
        · intro y hy
          rcases List.mem_cons.1 hy with rfl | hy
          · exact hc.2.1
          · exact fun hm => h3 y hy (List.mem_cons_of_mem _ hm)
        · rw [encL_cons, ← List.append_assoc]; exact h4
      · rw [if_neg hl] at h; simp at h
    · rw [if_neg hc] at h; simp at h
theorem rowsL_fst (V : S24 → List Int × Bool) : ∀ (l : List S24) (out : List Int) (seen : List (List UInt8)), (rowsL V l out seen).2 = false → (rowsL V l out seen).1 = []
  | [], out, seen, h => by simp [rowsL] at h
  | x :: l, out, seen, h => by
    unfold rowsL at h ⊢
    split at h
    · rename_i hc
      rw [if_pos hc]
      split at h
      · rename_i hl
        rw [if_pos hl]
        exact rowsL_fst V l _ _ h
      · rename_i hl
        rw [if_neg hl]
    · rename_i hc
      rw [if_neg hc]
theorem rowP_len (x : S24) (v : List Int) : (rowP x v).length = 2 + x.f0.size + v.length := by
  unfold rowP
  simp [bytesOf_len]
  omega
theorem encL_ge (V : S24 → List Int × Bool) : ∀ l : List S24, 2 * l.length ≤ (encL V l).length
  | [] => by simp
  | x :: l => by
    have := encL_ge V l
    rw [encL_cons, List.length_append, rowP_len, List.length_cons]
    omega
/-- rows, told: just what is fine has octets. -/
theorem rowsP_fine (n : Nat) (l : List S24) (h : fine (valP (rowsP n)) l) : rowsP (n + 1) l = (encL (valP (rowsP n)) l, true) := by
  unfold rowsP
  have := encL_ge (valP (rowsP n)) l
  rw [if_pos (by have := h.2.2; omega), rowsL_true _ l [] [] h.1 h.2.1 (by simp) (by simpa using h.2.2)]
  rfl
theorem fine_of (n : Nat) (l : List S24) (h : (rowsP (n + 1) l).2 = true) : fine (valP (rowsP n)) l := by
  unfold rowsP at h
  split at h
  · obtain ⟨h1, h2, _, h4⟩ := rowsL_told _ l [] [] (by simp) h
    exact ⟨h1, h2, by simpa using h4⟩
  · simp at h
theorem rowsP_bad (n : Nat) (l : List S24) (h : ¬ fine (valP (rowsP n)) l) : rowsP (n + 1) l = ([], false) := by
  have h2 : (rowsP (n + 1) l).2 = false := by
    rw [Bool.eq_false_iff]
    exact fun e => h (fine_of n l e)
  refine Prod.ext ?_ h2
  unfold rowsP at h2 ⊢
  split at h2
  · rename_i hc
    rw [if_pos hc]
    exact rowsL_fst _ l _ _ h2
  · rename_i hc
    rw [if_neg hc]
/-- Numbers as the machine has them, n levels deep. -/
def rng : Nat → List S24 → Prop
  | 0, _ => True
  | n + 1, l => ∀ x ∈ l, (-9223372036854775808 ≤ x.f2 ∧ x.f2 ≤ 9223372036854775807) ∧ rng n x.f4
theorem nm_be (n : Nat) (v : Int) (rest : List Int) : nm n (be n v ++ rest, false) = (v % 256 ^ n, rest, false) := by
  have h := be_len n v
  unfold nm
  rw [if_neg (by simp), if_neg (by simp [h])]
  simp [List.take_append, List.drop_append, h, num_be]
theorem tx_be (n : Nat) (a rest : List Int) (hm : (a.length : Int) < 256 ^ n) : tx n (be n (a.length : Int) ++ (a ++ rest), false) = (a, rest, false) := by
  rw [← told_tx, txt_be n a.length a rest rfl hm]
  rfl
theorem be1 (v : Int) : [v % 256] = be 1 v := by simp [be]
theorem empty_of {s : ByteArray} (h : s.toList.isEmpty = true) : s = ⟨#[]⟩ := by
  have h1 : s.size = 0 := (nil_iff s).1 (List.isEmpty_iff.1 h)
  cases s with
  | mk d =>
    have : d.size = 0 := h1
    simp [Array.eq_empty_of_size_eq_zero this]
theorem bare_of {x : S24} (h : bare x = true) : x.f3 = ⟨#[]⟩ ∧ x.f4 = [] := by
  unfold bare at h
  simp only [Bool.and_eq_true, decide_eq_true_eq] at h
  exact ⟨empty_of h.1, List.length_eq_zero_iff.1 h.2⟩
theorem u64_of (v : Int) (n : Nat) (hn : n ≤ 8) : IntKind.u64.wrap v % 256 ^ n = v % 256 ^ n := by
  rw [IntKind.wrap_u64]
  have h : (18446744073709551616 : Int) = 256 ^ n * 256 ^ (8 - n) := by rw [← Int.pow_add, show n + (8 - n) = 8 by omega]; rfl
  rw [h, Int.emod_emod_of_dvd _ (Int.dvd_mul_right _ _)]
/-- A field's value is read as it was told. -/
theorem read_val (R : List S24 → List Int × Bool) (Q : List Int → List S24 × Bool) (x : S24) (rest : List Int) (hr : -9223372036854775808 ≤ x.f2 ∧ x.f2 ≤ 9223372036854775807) (h : (valP R x).2 = true) (hl : (valP R x).1.length ≤ 2000) (hQ : (R x.f4).2 = true → Q (R x.f4).1 = (x.f4, true)) :
    readP Q x.f1 ((valP R x).1 ++ rest, false) = ((x.f2, x.f3, x.f4, true), (rest, false)) := by
  unfold valP at h hl ⊢
  unfold readP
  by_cases c1 : x.f1 = 116
  · simp only [c1, if_true, Bool.and_eq_true, Bool.or_eq_true, decide_eq_true_eq] at h hl ⊢
    obtain ⟨e3, e4⟩ := bare_of h.1
    rw [be1, nm_be, e3, e4]
    have : wrap64 (x.f2 % 256 ^ 1) = x.f2 := by unfold wrap64; rcases h.2 with h | h <;> rw [h] <;> decide
    rw [this]
  · rw [if_neg c1] at h hl
    simp only [if_neg c1]
    by_cases c2 : x.f1 = 73
    · simp only [c2, if_true, Bool.and_eq_true, decide_eq_true_eq] at h hl ⊢
      obtain ⟨e3, e4⟩ := bare_of h.1
      rw [nm_be, e3, e4, u64_of _ 4 (by omega)]
      have : wrap64 (wrap32 (x.f2 % 256 ^ 4)) = x.f2 := by unfold wrap64 wrap32; have := h.2; omega
      rw [this]
    · rw [if_neg c2] at h hl
      simp only [if_neg c2]
      by_cases c3 : x.f1 = 108
      · simp only [c3, if_true] at h hl ⊢
        obtain ⟨e3, e4⟩ := bare_of h
        rw [nm_be, e3, e4, u64_of _ 8 (by omega)]
        have : wrap64 (x.f2 % 256 ^ 8) = x.f2 := by unfold wrap64; omega
        rw [this]
      · rw [if_neg c3] at h hl
        simp only [if_neg c3]
        by_cases c4 : x.f1 = 83
        · simp only [c4, if_true, Bool.and_eq_true, decide_eq_true_eq] at h hl ⊢
          have h2 : x.f4 = [] := List.length_eq_zero_iff.1 h.2.1
          have h3 := tx_be 4 (bytesOf x.f3) rest (by rw [bytesOf_len]; have := h.2.2; omega)
          rw [bytesOf_len] at h3
          rw [List.append_assoc, h3, str_bytesOf, h2, h.1]
        · rw [if_neg c4] at h hl
          simp only [if_neg c4]
          by_cases c5 : x.f1 = 70
          · simp only [c5, if_true, Bool.and_eq_true, decide_eq_true_eq] at h hl ⊢
            have h3 := tx_be 4 (R x.f4).1 rest (by rw [List.length_append, be_len] at hl; omega)
            rw [List.append_assoc, h3, hQ h.1, empty_of h.2.2, h.2.1]
          · rw [if_neg c5] at h hl
            simp only [if_neg c5]
            by_cases c6 : x.f1 = 86
            · simp only [c6, if_true, Bool.and_eq_true, decide_eq_true_eq] at h hl ⊢
              obtain ⟨e3, e4⟩ := bare_of h.2
              rw [e3, e4, h.1]
              rfl
            · rw [if_neg c6] at h
              simp at h
theorem kind_oct (R : List S24 → List Int × Bool) (x : S24) (h : (valP R x).2 = true) : 0 ≤ x.f1 ∧ x.f1 < 256 := by
  unfold valP at h
  (repeat' split at h) <;> first | omega | simp at h
/-- A row is read as it was told. -/
theorem parse_row (R : List S24 → List Int × Bool) (Q : List Int → List S24 × Bool) (x : S24) (rest : List Int) (out : List S24) (m : Nat) (hr : -9223372036854775808 ≤ x.f2 ∧ x.f2 ≤ 9223372036854775807) (h : good (valP R) x) (hl : (valP R x).1.length ≤ 2000) (hQ : (R x.f4).2 = true → Q (R x.f4).1 = (x.f4, true)) :
    parseL Q (m + 1) (rowP x (valP R x).1 ++ rest) out = parseL Q m rest (out ++ [x]) := by
  obtain ⟨g1, g2, g3⟩ := h
  have hk := kind_oct R x g1
  have e1 : rowP x (valP R x).1 ++ rest = be 1 ((bytesOf x.f0).length : Int) ++ (bytesOf x.f0 ++ (be 1 x.f1 ++ ((valP R x).1 ++ rest))) := by
    unfold rowP
    rw [bytesOf_len, ← be1, ← be1, show x.f1 % 256 = x.f1 by omega]
    simp [List.append_assoc]
  have e2 := tx_be 1 (bytesOf x.f0) (be 1 x.f1 ++ ((valP R x).1 ++ rest)) (by rw [bytesOf_len]; omega)
  have e3 := nm_be 1 x.f1 ((valP R x).1 ++ rest)
  rw [show x.f1 % 256 ^ 1 = x.f1 by omega] at e3
  have e4 := read_val R Q x rest hr g1 hl hQ
  have e5 : ∀ B : List Int, B ≠ [] → parseL Q (m + 1) B out = if (readP Q (nm 1 (tx 1 (B, false)).2).1 (nm 1 (tx 1 (B, false)).2).2).1.2.2.2 = true ∧ (readP Q (nm 1 (tx 1 (B, false)).2).1 (nm 1 (tx 1 (B, false)).2).2).2.2 = false then parseL Q m (readP Q (nm 1 (tx 1 (B, false)).2).1 (nm 1 (tx 1 (B, false)).2).2).2.1 (out ++ [⟨strOfNums (tx 1 (B, false)).1, (nm 1 (tx 1 (B, false)).2).1, (readP Q (nm 1 (tx 1 (B, false)).2).1 (nm 1 (tx 1 (B, false)).2).2).1.1, (readP Q (nm 1 (tx 1 (B, false)).2).1 (nm 1 (tx 1 (B, false)).2).2).1.2.1, (readP Q (nm 1 (tx 1 (B, false)).2).1 (nm 1 (tx 1 (B, false)).2).2).1.2.2.1⟩]) else ([], false) := fun B hB => (if_neg hB : (if B = [] then _ else _) = _)
  rw [e1, e5 _ (by simp [be])]
  simp only [e2, e3, e4]
  rw [if_pos (by simp), str_bytesOf]
  have ex : (⟨x.f0, x.f1, x.f2, x.f3, x.f4⟩ : S24) = x := by cases x; rfl
  rw [ex]
theorem val_le (V : S24 → List Int × Bool) {l : List S24} {x : S24} (hx : x ∈ l) : (V x).1.length ≤ (encL V l).length := by
  induction l with
  | nil => simp at hx
  | cons y l ih =>
    rw [encL_cons, List.length_append, rowP_len]
    rcases List.mem_cons.1 hx with rfl | hx
    · omega
    · have := ih hx; omega
theorem parse_rows (R : List S24 → List Int × Bool) (Q : List Int → List S24 × Bool) : ∀ (l : List S24) (out : List S24) (m : Nat), l.length < m → (∀ x ∈ l, -9223372036854775808 ≤ x.f2 ∧ x.f2 ≤ 9223372036854775807) → (∀ x ∈ l, good (valP R) x) → (encL (valP R) l).length ≤ 2000 → (∀ x ∈ l, (R x.f4).2 = true → Q (R x.f4).1 = (x.f4, true)) → parseL Q m (encL (valP R) l) out = (out ++ l, true)
  | [], out, m, hm, _, _, _, _ => by
    obtain ⟨m, rfl⟩ : ∃ k, m = k + 1 := ⟨m - 1, by simp at hm; omega⟩
    unfold parseL
    rw [if_pos (by simp [encL])]
    simp
  | x :: l, out, m, hm, hr, hg, hl, hQ => by
    obtain ⟨m, rfl⟩ : ∃ k, m = k + 1 := ⟨m - 1, by simp at hm; omega⟩
    have hx := val_le (valP R) (l := x :: l) (x := x) (by simp)
    rw [encL_cons, parse_row R Q x _ out m (hr x (by simp)) (hg x (by simp)) (by omega) (hQ x (by simp))]
    rw [parse_rows R Q l _ m (by simp at hm; omega) (fun y hy => hr y (by simp [hy])) (fun y hy => hg y (by simp [hy])) (by rw [encL_cons, List.length_append] at hl; omega) (fun y hy => hQ y (by simp [hy])), List.append_assoc]
    rfl
/-- A table that may be is read as it was told. -/
theorem round : ∀ (n : Nat) (l : List S24), rng n l → (rowsP n l).2 = true → parseP n (rowsP n l).1 = (l, true)
  | 0, l, _, h => by simp [rowsP] at h
  | n + 1, l, hr, h => by
    have hf := fine_of n l h
    rw [rowsP_fine n l hf]
    unfold parseP
    have h1 := encL_ge (valP (rowsP n)) l
    rw [if_pos hf.2.2, parse_rows (rowsP n) (parseP n) l [] _ (by simp; omega) (fun x hx => (hr x hx).1) hf.1 hf.2.2 (fun x hx h2 => round n x.f4 (hr x hx).2 h2)]
    rfl
theorem val_oct (R : List S24 → List Int × Bool) (x : S24) (hR : Oct (R x.f4).1) : Oct (valP R x).1 := by
  unfold valP
  (repeat' split) <;> first | exact be_oct _ _ | exact oct_nil | (rw [be1]; exact be_oct _ _) | exact oct_app (be_oct _ _) (oct_bytesOf _) | exact oct_app (be_oct _ _) hR
theorem encL_oct (R : List S24 → List Int × Bool) (hR : ∀ l, Oct (R l).1) : ∀ l : List S24, (∀ x ∈ l, good (valP R) x) → Oct (encL (valP R) l)
  | [], _ => oct_nil
  | x :: l, hg => by
    rw [encL_cons]
    refine oct_app ?_ (encL_oct R hR l (fun y hy => hg y (by simp [hy])))
    have hk := kind_oct R x (hg x (by simp)).1
    unfold rowP
    refine oct_app (oct_app ?_ ?_) (val_oct R x (hR _))
    · intro y hy
      rcases List.mem_cons.1 hy with rfl | hy
      · omega
      · exact oct_bytesOf _ y hy
    · intro y hy
      have : y = x.f1 := by simpa using hy
      omega
theorem rowsP_oct : ∀ (n : Nat) (l : List S24), Oct (rowsP n l).1
  | 0, _ => by simp [rowsP]; exact oct_nil
  | n + 1, l => by
    by_cases hf : fine (valP (rowsP n)) l
    · rw [rowsP_fine n l hf]; exact encL_oct _ (rowsP_oct n) l hf.1
    · rw [rowsP_bad n l hf]; exact oct_nil
end Tb
end Go.Proofs.Ytfhaffpegncdiaa.PT
/-
Append, Ok and Parse of the package tabl, in plain Lean; the statements' self-test answers true.
Conditions: no text longer than any machine has room for; octets that are octets.
-/
namespace Go.Proofs.Ytfhaffpegncdiaa.PT
open Go.RowKit Go.Proofs.Ytfhaffpegncdiaa.Pure Go.Proofs.YtfhaffpegncdiaaW.PrintWords Go.Proofs.YtfhaffpegncdiaaW.PrintLast Go.Proofs.YtfhaffpegncdiaaW.PrintMore
set_option linter.unusedVariables false
set_option linter.unusedSimpArgs false
namespace Tb
theorem rows_1 (l : List S24) (h : tame 8 l = true) : tabl_rows.f l 1 = some (rowsP 8 l) := by
  unfold tabl_rows.f
  rw [if_pos ⟨by omega, by omega, h⟩]
  rfl
theorem append_f (b : List Int) (l : List S24) (h : tame 8 l = true) (hb : b.length ≤ 100000000) : tabl_Append.f b l = some (b ++ (rowsP 8 l).1, (rowsP 8 l).2) := by
  have := rowsP_len 8 l
  unfold tabl_Append.f slices_Clone_byte_byte.f
  rw [rows_1 l h, Option.bind_some, if_pos (by omega), Option.bind_some, if_pos (by omega)]
theorem ok_f (l : List S24) (h : tame 8 l = true) : tabl_Ok.f l = some (rowsP 8 l).2 := by
  unfold tabl_Ok.f
  rw [rows_1 l h, Option.bind_some]
theorem str_size (l : List Int) : (strOfNums l).size = l.length := by
  show (strOfNums l).data.size = _
  rw [← Array.length_toList, strOfNums_data, List.length_map]
def tame1 (n : Nat) (x : S24) : Prop := (x.f0.size ≤ 1000000000 ∧ x.f3.size ≤ 1000000000) ∧ tame n x.f4 = true
theorem tame_of {n : Nat} {l : List S24} (h : ∀ x ∈ l, tame1 n x) : tame (n + 1) l = true := by
  unfold tame
  rw [List.all_eq_true]
  intro x hx
  have := h x hx
  unfold tame1 at this
  simpa using this
theorem read_tame (Q : List Int → List S24 × Bool) (n : Nat) (hQ : ∀ b, tame n (Q b).1 = true) (k : Int) (s : List Int × Bool) (hl : s.1.length ≤ 2000) : (readP Q k s).1.2.1.size ≤ 1000000000 ∧ tame n (readP Q k s).1.2.2.1 = true := by
  have h0 : tame n [] = true := by cases n <;> simp [tame]
  have hz : (⟨#[]⟩ : ByteArray).size = 0 := rfl
  unfold readP
  (repeat' split) <;> first | exact ⟨by rw [hz]; omega, h0⟩ | exact ⟨by rw [hz]; omega, hQ _⟩ | exact ⟨by rw [str_size]; have := tx_len 4 s; omega, h0⟩
theorem parseL_tame (Q : List Int → List S24 × Bool) (n : Nat) (hQ : ∀ b, tame n (Q b).1 = true) : ∀ (m : Nat) (b : List Int) (out : List S24), b.length ≤ 2000 → (∀ x ∈ out, tame1 n x) → ∀ x ∈ (parseL Q m b out).1, tame1 n x
  | 0, _, _, _, _, x, hx => by simp [parseL] at hx
  | m + 1, b, out, hb, ho, x, hx => by
    unfold parseL at hx
    split at hx
    · exact ho x hx
    · simp only at hx
      split at hx
      · have e1 := tx_len 1 (b, false)
        have e2 := nm_len 1 (tx 1 (b, false)).2
        have e3 := read_len Q (nm 1 (tx 1 (b, false)).2).1 (nm 1 (tx 1 (b, false)).2).2
        have e4 := read_tame Q n hQ (nm 1 (tx 1 (b, false)).2).1 (nm 1 (tx 1 (b, false)).2).2 (by simp only at e1; omega)
        simp only at e1
        refine parseL_tame Q n hQ m _ _ (by omega) ?_ x hx
        intro y hy
        rcases List.mem_append.1 hy with hy | hy
        · exact ho y hy
        · rw [List.mem_singleton.1 hy]
          exact ⟨⟨by rw [str_size]; omega, e4.1⟩, e4.2⟩
      · simp at hx
theorem parseP_tame : ∀ (n : Nat) (b : List Int), tame n (parseP n b).1 = true
  | 0, _ => by simp [tame]
  | n + 1, b => by
    unfold parseP
    split
    · rename_i hb
      exact tame_of (parseL_tame (parseP n) n (parseP_tame n) _ b [] hb (by simp))
    · simp [tame]
theorem parse_f (b : List Int) (ho : Oct b) : tabl_Parse.f b = some (if (parseP 8 b).2 = true ∧ (rowsP 8 (parseP 8 b).1).2 = true then ((parseP 8 b).1, true) else ([], false)) := by
  have h := parseP_tame 8 b
  unfold tabl_Parse.f
  have e1 : tabl_parse.f b 1 = some (parseP 8 b) := by unfold tabl_parse.f; rw [if_pos ⟨by omega, by omega, ho⟩]; rfl
  rw [e1, Option.bind_some]
  by_cases c1 : (parseP 8 b).2 = true
  · rw [if_pos c1, ok_f _ h, Option.bind_some]
    by_cases c2 : (rowsP 8 (parseP 8 b).1).2 = true
    · rw [if_pos c2, if_pos ⟨c1, c2⟩]
    · rw [if_neg c2, if_neg (fun h => c2 h.2)]
  · rw [if_neg c1, if_neg (fun h => c1 h.1)]
theorem awake_ok : waybilllaw2_awake.f = some true := by decide +kernel
end Tb
end Go.Proofs.Ytfhaffpegncdiaa.PT
/-
The document's answer for tables: what may be a table, and its octets.
Conditions: texts no longer than a bound.
-/
namespace Go.Proofs.Ytfhaffpegncdiaa.PT
open Go.RowKit Go.Proofs.Ytfhaffpegncdiaa.Pure Go.Proofs.YtfhaffpegncdiaaW.PrintWords Go.Proofs.YtfhaffpegncdiaaW.PrintLast Go.Proofs.YtfhaffpegncdiaaW.PrintMore
set_option linter.unusedVariables false
set_option linter.unusedSimpArgs false
namespace Tb
theorem rd24 (l : List S24) (i : Nat) (h : i < l.length) : rd_T24 l (i : Int) = l[i] := by simp [rd_T24, List.getD_eq_getElem?_getD, List.getElem?_eq_getElem h]
/-- A field's kind and what it may have. -/
def kOk (x : S24) : Bool :=
  if x.f1 = 116 then (decide (x.f2 = 0) || decide (x.f2 = 1)) && bare x
  else if x.f1 = 73 then (decide (-2147483648 ≤ x.f2) && decide (x.f2 ≤ 2147483647)) && bare x
  else if x.f1 = 108 then bare x
  else if x.f1 = 83 then decide (x.f2 = 0) && decide (x.f4.length = 0)
  else if x.f1 = 70 then decide (x.f2 = 0) && x.f3.toList.isEmpty
  else if x.f1 = 86 then decide (x.f2 = 0) && bare x
  else false
/-- A field that may be, but for those beside it and those in it. -/
def fOk (x : S24) : Bool := (decide (1 ≤ x.f0.size) && decide (x.f0.size ≤ 128)) && kOk x
theorem field_f (k : Nat) (x : S24) : zfk.f (k + 1) x.f0 x.f1 x.f2 x.f3 x.f4 = some (fOk x) := by
  have hE : ((x.f4.length : Int) == 0) = decide (x.f4.length = 0) := by rw [Bool.eq_iff_iff]; simp
  have hS : x.f3.toList.isEmpty = decide (x.f3.toList = []) := by rw [Bool.eq_iff_iff]; simp
  have hL : decide (x.f2 < 2147483648) = decide (x.f2 ≤ 2147483647) := by rw [Bool.eq_iff_iff]; simp only [decide_eq_true_eq]; omega
  have hj : zfk.j0 (k + 1) false x.f0 x.f1 x.f2 x.f3 x.f4 = some (kOk x) := by
    simp only [zfk.j0, hE]
    unfold kOk bare
    rw [if_neg (by simp), hS]
    by_cases c1 : x.f1 = 116
    · simp only [c1, if_true]
      by_cases e1 : x.f2 = 0 <;> by_cases e2 : x.f2 = 1 <;> by_cases e3 : x.f3.toList = [] <;> simp [e1, e2, e3]
    · rw [if_neg c1, if_neg c1]
      by_cases c2 : x.f1 = 73
      · simp only [c2, if_true]
        by_cases e1 : x.f2 ≥ -2147483648
        · by_cases e2 : x.f2 ≤ 2147483647
          · have e2' : x.f2 < 2147483648 := by omega
            by_cases e3 : x.f3.toList = [] <;> simp [e1, e2, e2', e3]
          · have e2' : ¬ x.f2 < 2147483648 := by omega
            simp [e1, e2, e2']
        · simp [e1]
      · rw [if_neg c2, if_neg c2]
        by_cases c3 : x.f1 = 108
        · simp only [c3, if_true]
          by_cases e3 : x.f3.toList = [] <;> simp [e3]
        · rw [if_neg c3, if_neg c3]
          by_cases c4 : x.f1 = 83
          · simp only [c4, if_true]
            by_cases e1 : x.f2 = 0 <;> simp [e1]
          · rw [if_neg c4, if_neg c4]
            by_cases c5 : x.f1 = 70
            · simp only [c5, if_true]
              by_cases e1 : x.f2 = 0 <;> simp [e1]
            · rw [if_neg c5, if_neg c5]
              by_cases c6 : x.f1 = 86
              · simp only [c6, if_true]
                by_cases e1 : x.f2 = 0 <;> by_cases e3 : x.f3.toList = [] <;> simp [e1, e3]
              · rw [if_neg c6, if_neg c6]
  have ht : zfk.j0 (k + 1) true x.f0 x.f1 x.f2 x.f3 x.f4 = some false := by
    simp only [zfk.j0]
    rw [if_pos trivial]
  unfold zfk.f fOk
  by_cases h1 : 1 ≤ x.f0.size
  · rw [if_neg (by omega)]
    by_cases h2 : x.f0.size ≤ 128
    · rw [decide_eq_false (by omega : ¬ (x.f0.size : Int) > 128), hj]
      simp [h1, h2]
    · rw [decide_eq_true (by omega : (x.f0.size : Int) > 128), ht]
      simp [h2]
  · rw [if_pos (by omega), ht]
    simp [h1]
/-- Fields that may be, n levels deep at most. -/
def FR : Nat → List S24 → Prop
  | 0, _ => False
  | n + 1, l => (∀ x ∈ l, fOk x = true ∧ (x.f1 = 70 → FR n x.f4)) ∧ (l.map key).Nodup
theorem FR_succ (n : Nat) (l : List S24) : FR (n + 1) l ↔ (∀ x ∈ l, fOk x = true ∧ (x.f1 = 70 → FR n x.f4)) ∧ (l.map key).Nodup := Iff.rfl
theorem formed_l1 (l : List S24) (a1 : Int) (hl : l.length ≤ 1000000) (i : Nat) (hi : i < l.length) (K : Nat) (b : Bool) (h : zff.l0 K l a1 ((i : Int) + 1) = some b) :
    ∀ (d j : Nat), j + d = i → ∃ k b2, zff.l1 k l a1 (i : Int) (j : Int) = some b2 ∧ (b2 = true ↔ b = true ∧ ∀ q : Nat, j ≤ q → q < i → key (rd_T24 l (q : Int)) ≠ key (rd_T24 l (i : Int))) := by
  have hw : wrap64 ((i : Int) + 1) = (i : Int) + 1 := by unfold wrap64; omega
  intro d
  induction d with
  | zero =>
    intro j hj
    refine ⟨K + 1, b, ?_, ?_⟩
    · simp only [zff.l1]
      rw [if_neg (by omega), hw]
      exact h
    · exact ⟨fun hb => ⟨hb, fun q h1 h2 => by omega⟩, fun hb => hb.1⟩
  | succ d ih =>
    intro j hj
    obtain ⟨k, b2, h1, h2⟩ := ih (j + 1) (by omega)
    have hw2 : wrap64 ((j : Int) + 1) = ((j + 1 : Nat) : Int) := by unfold wrap64; omega
    by_cases hc : (rd_T24 l (j : Int)).f0.toList = (rd_T24 l (i : Int)).f0.toList
    · refine ⟨1, false, ?_, ?_⟩
      · simp only [zff.l1]
        rw [if_pos (by omega), if_pos (by omega), if_pos (by omega), if_pos (by omega), if_pos (by omega), if_pos hc]
      · refine ⟨fun h => by simp at h, fun h => ?_⟩
        refine absurd ?_ (h.2 j (Nat.le_refl _) (by omega))
        unfold key
        rw [← ByteArray.toList_eq, ← ByteArray.toList_eq, hc]
    · refine ⟨k + 1, b2, ?_, ?_⟩
      · simp only [zff.l1]
        rw [if_pos (by omega), if_pos (by omega), if_pos (by omega), if_pos (by omega), if_pos (by omega), if_neg hc, hw2]
        exact h1
      · rw [h2]
        refine ⟨fun h => ⟨h.1, fun q q1 q2 => ?_⟩, fun h => ⟨h.1, fun q q1 q2 => h.2 q (by omega) q2⟩⟩
        by_cases hq : q = j
        · subst hq
          intro he
          unfold key at he
          rw [← ByteArray.toList_eq, ← ByteArray.toList_eq] at he
          exact hc he
        · exact h.2 q (by omega) q2
theorem formed_l0 (n : Nat) (l : List S24) (a1 : Int) (hl : l.length ≤ 1000000) (hs : ∀ x ∈ l, ∃ k b, zff.f k x.f4 (wrap64 (a1 + 1)) = some b ∧ (b = true ↔ FR n x.f4)) :
    ∀ (d i : Nat), i + d = l.length → ∃ k b, zff.l0 k l a1 (i : Int) = some b ∧ (b = true ↔ ∀ p : Nat, i ≤ p → p < l.length → (fOk (rd_T24 l (p : Int)) = true ∧ ((rd_T24 l (p : Int)).f1 = 70 → FR n (rd_T24 l (p : Int)).f4)) ∧ ∀ q : Nat, q < p → key (rd_T24 l (q : Int)) ≠ key (rd_T24 l (p : Int))) := by
  intro d
  induction d with
  | zero =>
    intro i hi
    refine ⟨1, true, ?_, ?_⟩
    · simp only [zff.l0]
      rw [if_neg (by omega)]
    · exact ⟨fun _ p h1 h2 => by omega, fun _ => rfl⟩
  | succ d ih =>
    intro i hi
    have hx := mem24 l (i : Int) (by omega) (by omega)
    obtain ⟨k0, b0, h0, g0⟩ := ih (i + 1) (by omega)
    obtain ⟨k1, b1, h1, g1⟩ := formed_l1 l a1 hl i (by omega) k0 b0 (by rw [show ((i : Int) + 1) = ((i + 1 : Nat) : Int) by omega]; exact h0) i 0 (by omega)
    have hi1 : ((0 : Nat) : Int) = 0 := rfl
    rw [hi1] at h1
    have split : ∀ C : Prop, ((∀ p : Nat, i ≤ p → p < l.length → (fOk (rd_T24 l (p : Int)) = true ∧ ((rd_T24 l (p : Int)).f1 = 70 → FR n (rd_T24 l (p : Int)).f4)) ∧ ∀ q : Nat, q < p → key (rd_T24 l (q : Int)) ≠ key (rd_T24 l (p : Int))) ↔
        ((fOk (rd_T24 l (i : Int)) = true ∧ ((rd_T24 l (i : Int)).f1 = 70 → FR n (rd_T24 l (i : Int)).f4)) ∧ b1 = true)) := by
      intro _
      rw [g1, g0]
      constructor
      · intro h
        have hi0 := h i (Nat.le_refl _) (by omega)
        exact ⟨hi0.1, fun p p1 p2 => h p (by omega) p2, fun q _ q2 => hi0.2 q q2⟩
      · rintro ⟨h2, h3, h4⟩ p p1 p2
        by_cases hp : p = i
        · subst hp
          exact ⟨h2, fun q q2 => h4 q (Nat.zero_le _) q2⟩
        · exact h3 p (by omega) p2
    have split := split True
    cases hf : fOk (rd_T24 l (i : Int)) with
    | false =>
      refine ⟨3, false, ?_, ?_⟩
      · simp only [zff.l0, field_f, hf, Option.bind_some]
        rw [if_pos (by omega), if_pos (by omega), if_neg (by simp)]
        simp only [zff.j1]
        rw [if_pos trivial]
      · rw [split, hf]; simp
    | true =>
      by_cases hk : (rd_T24 l (i : Int)).f1 = 70
      · obtain ⟨k2, b2, h2, g2⟩ := hs _ hx
        have e2 := up (fun k => zff.mono _ _ k) h2 (k1 + 2)
        have e1 := up (fun k => (zff.mono_l k).2.2.2 l a1 (i : Int) 0) h1 k2
        cases b2 with
        | false =>
          refine ⟨k2 + (k1 + 2) + 1, false, ?_, ?_⟩
          · simp only [zff.l0]
            rw [if_pos (by omega), if_pos (by omega), show k2 + (k1 + 2) = (k2 + k1 + 1) + 1 by omega, field_f, hf, Option.bind_some, if_pos rfl, if_pos hk, show (k2 + k1 + 1) + 1 = k2 + (k1 + 2) by omega, e2, Option.bind_some, show k2 + (k1 + 2) = (k2 + k1 + 1) + 1 by omega]
            simp only [zff.j1]
            rw [if_pos (by simp)]
          · rw [split]
            refine ⟨fun h => by simp at h, fun h => ?_⟩
            have := g2.2 (h.1.2 hk)
            simp at this
        | true =>
          refine ⟨k2 + (k1 + 2) + 1, b1, ?_, ?_⟩
          · simp only [zff.l0]
            rw [if_pos (by omega), if_pos (by omega), show k2 + (k1 + 2) = (k2 + k1 + 1) + 1 by omega, field_f, hf, Option.bind_some, if_pos rfl, if_pos hk, show (k2 + k1 + 1) + 1 = k2 + (k1 + 2) by omega, e2, Option.bind_some, show k2 + (k1 + 2) = (k1 + k2 + 1) + 1 by omega]
            simp only [zff.j1]
            rw [if_neg (by simp)]
            have := up (fun k => (zff.mono_l k).2.2.2 l a1 (i : Int) 0) e1 1
            exact this
          · rw [split, hf]
            exact ⟨fun h => ⟨⟨rfl, fun _ => g2.1 rfl⟩, h⟩, fun h => h.2⟩
      · refine ⟨k1 + 2, b1, ?_, ?_⟩
        · simp only [zff.l0]
          rw [if_pos (by omega), if_pos (by omega), field_f, hf, Option.bind_some, if_pos rfl, if_neg hk]
          simp only [zff.j1]
          rw [if_neg (by simp)]
          exact h1
        · rw [split, hf]
          exact ⟨fun h => ⟨⟨rfl, fun h2 => absurd h2 hk⟩, h⟩, fun h => h.2⟩
/-- No table is longer than a bound, n levels deep. -/
def short : Nat → List S24 → Prop
  | 0, l => True
  | n + 1, l => l.length ≤ 1000000 ∧ ∀ x ∈ l, (x.f0.size ≤ 1000000000 ∧ x.f3.size ≤ 1000000000) ∧ short n x.f4
theorem formed_f : ∀ (n : Nat) (l : List S24) (a1 : Int), 1 ≤ a1 → (9 - a1).toNat = n → short n l → ∃ k b, zff.f k l a1 = some b ∧ (b = true ↔ FR n l) := by
  intro n
  induction n with
  | zero =>
    intro l a1 h1 hn _
    refine ⟨1, false, ?_, by simp [FR]⟩
    simp only [zff.f]
    rw [if_pos (by omega)]
  | succ n ih =>
    intro l a1 h1 hn hs
    have hw : wrap64 (a1 + 1) = a1 + 1 := by unfold wrap64; omega
    obtain ⟨k, b, hk, hb⟩ := formed_l0 n l a1 hs.1 (fun x hx => by rw [hw]; exact ih x.f4 (a1 + 1) (by omega) (by omega) (hs.2 x hx).2) l.length 0 (by omega)
    refine ⟨k + 1, b, ?_, ?_⟩
    · simp only [zff.f]
      rw [if_neg (by omega)]
      exact hk
    · rw [hb, FR_succ]
      constructor
      · intro h
        refine ⟨fun x hx => ?_, ?_⟩
        · obtain ⟨p, hp, rfl⟩ := List.getElem_of_mem hx
          have := (h p (Nat.zero_le _) hp).1
          rw [rd24 l p hp] at this
          exact this
        · rw [List.nodup_iff_pairwise_ne, List.pairwise_iff_getElem]
          intro q p hq hp hqp
          rw [List.length_map] at hq hp
          have := (h p (Nat.zero_le _) hp).2 q hqp
          rw [rd24 l p hp, rd24 l q hq] at this
          simpa using this
      · rintro ⟨h2, h3⟩ p _ hp
        rw [List.nodup_iff_pairwise_ne, List.pairwise_iff_getElem] at h3
        refine ⟨h2 _ (mem24 l (p : Int) (by omega) (by omega)), fun q hqp => ?_⟩
        have := h3 q p (by rw [List.length_map]; omega) (by rw [List.length_map]; exact hp) hqp
        rw [rd24 l p hp, rd24 l q (by omega)]
        simpa using this
end Tb
end Go.Proofs.Ytfhaffpegncdiaa.PT
/-
The document's own writing of a number.
-/
namespace Go.Proofs.Ytfhaffpegncdiaa.Pure
open Go.RowKit Go.Proofs.Ytfhaffpegncdiaa.PT Go.Proofs.YtfhaffpegncdiaaW.PrintWords Go.Proofs.YtfhaffpegncdiaaW.PrintLast Go.Proofs.YtfhaffpegncdiaaW.PrintMore
set_option linter.unusedVariables false
set_option linter.unusedSimpArgs false
theorem Put_l0 (v : Int) : ∀ (j : Nat) (K : Nat) (x : List Int), j ≤ 8 → j < K → x.length + j < 140737488355328 → zfP.l0 K v x ((j : Int) - 1) = some (x ++ be j v) := by
  intro j
  induction j with
  | zero =>
    intro K x _ hK hx
    obtain ⟨K, rfl⟩ : ∃ m, K = m + 1 := ⟨K - 1, by omega⟩
    simp only [zfP.l0]
    rw [if_neg (by omega)]
    simp [be]
  | succ j ih =>
    intro K x hj hK hx
    obtain ⟨K, rfl⟩ : ∃ m, K = m + 1 := ⟨K - 1, by omega⟩
    have e1 : (((j + 1 : Nat) : Int) - 1) = (j : Int) := by omega
    have e2 : IntKind.u64.wrap (wrap64 (8 * (j : Int))) = (j : Int) * 8 := by
      rw [w64_id _ (by omega) (by omega), u64_id _ (by omega) (by omega)]; omega
    have e3 : shr .u64 v ((j : Int) * 8) = v / 256 ^ j := by
      unfold shr
      have a1 : ((j : Int) * 8).toNat = 8 * j := by omega
      have a2 : min (8 * j) IntKind.u64.bits = 8 * j := Nat.min_eq_left (by simp only [IntKind.bits]; omega)
      rw [a1, a2, Int.pow_mul]
      rfl
    simp only [zfP.l0]
    rw [e1, if_pos (by omega), e2, if_pos (by omega), if_pos (by omega), e3, w64_id _ (by omega) (by omega), ih K _ (by omega) (by omega) (by simp; omega)]
    simp [be]
theorem Put_f (k : Nat) (hk : 9 ≤ k) (l : List Int) (n : Nat) (v : Int) (hn : n ≤ 8) (hl : l.length + 8 < 140737488355328) : zfP.f k l (n : Int) v = some (l ++ be n v) := by
  unfold zfP.f
  rw [Option.bind_some, if_pos (by simp; omega), List.nil_append, w64_id _ (by omega) (by omega)]
  exact Put_l0 v n k l hn (by omega) (by omega)
end Go.Proofs.Ytfhaffpegncdiaa.Pure
/-
The document's octets of a table: the same as the program's, just where a table may be.
Conditions: fields that may be; fewer octets than any machine has room for.
-/
namespace Go.Proofs.Ytfhaffpegncdiaa.PT
open Go.RowKit Go.Proofs.Ytfhaffpegncdiaa.Pure Go.Proofs.YtfhaffpegncdiaaW.PrintWords Go.Proofs.YtfhaffpegncdiaaW.PrintLast Go.Proofs.YtfhaffpegncdiaaW.PrintMore
set_option linter.unusedVariables false
set_option linter.unusedSimpArgs false
namespace Tb
def refVal (W : List S24 → List Int) (x : S24) : List Int :=
  if x.f1 = 116 then be 1 x.f2 else if x.f1 = 73 then be 4 x.f2 else if x.f1 = 108 then be 8 x.f2
  else if x.f1 = 83 then be 4 (x.f3.size : Int) ++ bytesOf x.f3
  else if x.f1 = 70 then be 4 ((W x.f4).length : Int) ++ W x.f4 else []
def refRow (W : List S24 → List Int) (x : S24) : List Int := (be 1 (x.f0.size : Int) ++ bytesOf x.f0) ++ ([x.f1] ++ refVal W x)
/-- The document's octets of a table, n levels deep. -/
def refP : Nat → List S24 → List Int
  | 0, _ => []
  | n + 1, l => l.flatMap (refRow (refP n))
theorem be_congr (n : Nat) {a b : Int} (h : a % 256 ^ n = b % 256 ^ n) : be n a = be n b :=
  num_inj (by rw [be_len, be_len]) (be_oct n a) (be_oct n b) (by rw [num_be, num_be, h])
theorem be_wrap (n : Nat) (hn : n ≤ 8) (v : Int) : be n (IntKind.u64.wrap v) = be n v := be_congr n (u64_of v n hn)
theorem row_eq (W : List S24 → List Int) (x : S24) : rowP x (refVal W x) = refRow W x := by
  unfold rowP refRow
  rw [← be1]
  simp [List.append_assoc]
theorem refRow_len (W : List S24 → List Int) (x : S24) : (refRow W x).length = 2 + x.f0.size + (refVal W x).length := by
  rw [← row_eq, rowP_len]
theorem ref_ge (n : Nat) : ∀ l : List S24, l.length ≤ (l.flatMap (refRow (refP n))).length
  | [] => by simp
  | x :: l => by
    have := ref_ge n l
    rw [List.flatMap_cons, List.length_append, refRow_len, List.length_cons]
    omega
theorem ref_le (W : List S24 → List Int) {l : List S24} {x : S24} (hx : x ∈ l) : (refRow W x).length ≤ (l.flatMap (refRow W)).length := by
  induction l with
  | nil => simp at hx
  | cons y l ih =>
    rw [List.flatMap_cons, List.length_append]
    rcases List.mem_cons.1 hx with rfl | hx
    · omega
    · have := ih hx; omega
theorem val_eq (R : List S24 → List Int × Bool) (W : List S24 → List Int) (x : S24) (h : fOk x = true) (h7 : x.f1 = 70 → R x.f4 = (W x.f4, true)) (h8 : x.f1 = 83 → x.f3.size ≤ 2000) : valP R x = (refVal W x, true) := by
  unfold fOk kOk at h
  simp only [Bool.and_eq_true] at h
  obtain ⟨_, h⟩ := h
  unfold valP refVal
  by_cases c1 : x.f1 = 116
  · simp only [c1, if_true, Bool.and_eq_true] at h ⊢
    rw [h.1, h.2, be1]
    rfl
  · simp only [if_neg c1] at h ⊢
    by_cases c2 : x.f1 = 73
    · simp only [c2, if_true, Bool.and_eq_true] at h ⊢
      rw [h.1.1, h.1.2, h.2, be_wrap 4 (by omega)]
      rfl
    · simp only [if_neg c2] at h ⊢
      by_cases c3 : x.f1 = 108
      · simp only [c3, if_true] at h ⊢
        rw [h, be_wrap 8 (by omega)]
      · simp only [if_neg c3] at h ⊢
        by_cases c4 : x.f1 = 83
        · simp only [c4, if_true, Bool.and_eq_true] at h ⊢
          rw [h.1, h.2, decide_eq_true (h8 c4)]
          rfl
        · simp only [if_neg c4] at h ⊢
          by_cases c5 : x.f1 = 70
          · simp only [c5, if_true, Bool.and_eq_true] at h ⊢
            rw [h.1, h.2, h7 c5]
            rfl
          · simp only [if_neg c5] at h ⊢
            by_cases c6 : x.f1 = 86
            · simp only [c6, if_true, Bool.and_eq_true] at h ⊢
              rw [h.1, h.2]
              rfl
            · simp only [if_neg c6] at h
              simp at h
/-- What has a value may be. -/
theorem ok_of (R : List S24 → List Int × Bool) (x : S24) (h : good (valP R) x) : fOk x = true ∧ (x.f1 = 70 → (R x.f4).2 = true) ∧ (x.f1 = 83 → x.f3.size ≤ 2000) := by
  obtain ⟨h, g1, g2⟩ := h
  unfold fOk
  rw [decide_eq_true g1, decide_eq_true g2]
  unfold valP at h
  unfold kOk
  by_cases c1 : x.f1 = 116
  · simp only [c1, if_true, Bool.and_eq_true] at h ⊢
    simp [h.1, h.2]
  · simp only [if_neg c1] at h ⊢
    by_cases c2 : x.f1 = 73
    · simp only [c2, if_true, Bool.and_eq_true] at h ⊢
      simp [h.1, h.2.1, h.2.2]
    · simp only [if_neg c2] at h ⊢
      by_cases c3 : x.f1 = 108
      · simp only [c3, if_true] at h ⊢
        simp [h]
      · simp only [if_neg c3] at h ⊢
        by_cases c4 : x.f1 = 83
        · simp only [c4, if_true, Bool.and_eq_true, decide_eq_true_eq] at h ⊢
          simp [h.1, h.2.1, h.2.2]
        · simp only [if_neg c4] at h ⊢
          by_cases c5 : x.f1 = 70
          · simp only [c5, if_true, Bool.and_eq_true] at h ⊢
            simp [h.1, h.2.1, h.2.2]
          · simp only [if_neg c5] at h ⊢
            by_cases c6 : x.f1 = 86
            · simp only [c6, if_true, Bool.and_eq_true] at h ⊢
              simp [h.1, h.2]
            · simp only [if_neg c6] at h
              simp at h
theorem enc_eq (R : List S24 → List Int × Bool) (W : List S24 → List Int) : ∀ l : List S24, (∀ x ∈ l, valP R x = (refVal W x, true)) → encL (valP R) l = l.flatMap (refRow W)
  | [], _ => rfl
  | x :: l, h => by
    rw [encL_cons, List.flatMap_cons, h x (by simp), enc_eq R W l (fun y hy => h y (by simp [hy])), row_eq]
/-- What the program lets be, the document does, with the same octets; and the other way, up to the bound. -/
theorem rows_ref : ∀ (n : Nat), (∀ l, (rowsP n l).2 = true → FR n l ∧ rowsP n l = (refP n l, true)) ∧ (∀ l, FR n l → (refP n l).length ≤ 2000 → rowsP n l = (refP n l, true)) := by
  intro n
  induction n with
  | zero => exact ⟨fun l h => by simp [rowsP] at h, fun l h _ => h.elim⟩
  | succ n ih =>
    obtain ⟨ihP, ihQ⟩ := ih
    refine ⟨fun l h => ?_, fun l h hl => ?_⟩
    · have hf := fine_of n l h
      have hv : ∀ x ∈ l, valP (rowsP n) x = (refVal (refP n) x, true) := fun x hx => by
        obtain ⟨o1, o2, o3⟩ := ok_of _ x (hf.1 x hx)
        exact val_eq _ _ x o1 (fun h7 => (ihP _ (o2 h7)).2) o3
      refine ⟨⟨fun x hx => ?_, hf.2.1⟩, ?_⟩
      · obtain ⟨o1, o2, o3⟩ := ok_of _ x (hf.1 x hx)
        exact ⟨o1, fun h7 => (ihP _ (o2 h7)).1⟩
      · rw [rowsP_fine n l hf, enc_eq _ _ l hv]
        rfl
    · have hl : (l.flatMap (refRow (refP n))).length ≤ 2000 := hl
      have hv : ∀ x ∈ l, valP (rowsP n) x = (refVal (refP n) x, true) := fun x hx => by
        have h1 := h.1 x hx
        have h2 := ref_le (refP n) hx
        rw [refRow_len] at h2
        refine val_eq _ _ x h1.1 (fun h7 => ihQ _ (h1.2 h7) ?_) (fun h8 => ?_)
        · unfold refVal at h2
          rw [if_neg (by omega), if_neg (by omega), if_neg (by omega), if_neg (by omega), if_pos h7, List.length_append] at h2
          omega
        · unfold refVal at h2
          rw [if_neg (by omega), if_neg (by omega), if_neg (by omega), if_pos h8, List.length_append, bytesOf_len] at h2
          omega
      have he := enc_eq _ _ l hv
      have hg : ∀ x ∈ l, good (valP (rowsP n)) x := fun x hx => by
        have h1 := (h.1 x hx).1
        unfold fOk at h1
        simp only [Bool.and_eq_true, decide_eq_true_eq] at h1
        exact ⟨by rw [hv x hx], h1.1.1, h1.1.2⟩
      rw [rowsP_fine n l ⟨hg, h.2, by rw [he]; exact hl⟩, he]
      rfl
theorem rows_tells (n : Nat) (l : List S24) : rowsP n l = (refP n l, true) ∨ rowsP n l = ([], false) := by
  by_cases h : (rowsP n l).2 = true
  · exact .inl ((rows_ref n).1 l h).2
  · refine .inr ?_
    cases n with
    | zero => rfl
    | succ n => exact rowsP_bad n l (fun hf => h (by rw [rowsP_fine n l hf]))
theorem short_f1 (k : Nat) (hk : 9 ≤ k) (b : List Int) (s : ByteArray) (hb : b.length + s.size ≤ 2000000000) : waybillref1_Short.f k b s = some (b ++ (be 1 (s.size : Int) ++ bytesOf s)) := by
  unfold waybillref1_Short.f
  have h := be_len 1 (s.size : Int)
  have := Put_f k hk b 1 (IntKind.u64.wrap (s.size : Int)) (by omega) (by omega)
  rw [show ((1 : Nat) : Int) = 1 from rfl] at this
  rw [this, Option.bind_some, be_wrap 1 (by omega), if_pos (by rw [List.length_append, h]; omega), List.append_assoc]
theorem long_f1 (k : Nat) (hk : 9 ≤ k) (b s : List Int) (hb : b.length + s.length ≤ 4000000000) : waybillref1_Long.f k b s = some (b ++ (be 4 (s.length : Int) ++ s)) := by
  unfold waybillref1_Long.f
  have h := be_len 4 (s.length : Int)
  have := Put_f k hk b 4 (IntKind.u64.wrap (s.length : Int)) (by omega) (by omega)
  rw [show ((4 : Nat) : Int) = 4 from rfl] at this
  rw [this, Option.bind_some, be_wrap 4 (by omega), if_pos (by rw [List.length_append, h]; omega), List.append_assoc]
theorem rows_l0 (n : Nat) (l : List S24) (hl : (l.flatMap (refRow (refP n))).length ≤ 1000000000) (hs : ∀ x ∈ l, x.f1 = 70 → ∃ k, zfw.f k x.f4 = some (refP n x.f4)) :
    ∀ (d i : Nat) (acc : List Int), i + d = l.length → acc.length + ((l.drop i).flatMap (refRow (refP n))).length ≤ 1000000000 → ∃ k, zfw.l0 k l acc (i : Int) = some (acc ++ (l.drop i).flatMap (refRow (refP n))) := by
  intro d
  induction d with
  | zero =>
    intro i acc hi _
    refine ⟨1, ?_⟩
    simp only [zfw.l0]
    rw [if_neg (by omega), List.drop_eq_nil_of_le (by omega)]
    simp
  | succ d ih =>
    intro i acc hi ha
    have hx := mem24 l (i : Int) (by omega) (by omega)
    have hd := Tb.drop24 l i (by omega)
    rw [hd, List.flatMap_cons, List.length_append] at ha
    rw [hd, List.flatMap_cons, ← List.append_assoc]
    have hlr := refRow_len (refP n) (rd_T24 l (i : Int))
    have hge := ref_ge n l
    obtain ⟨k1, h1⟩ := ih (i + 1) (acc ++ refRow (refP n) (rd_T24 l (i : Int))) (by omega) (by rw [List.length_append]; omega)
    have hw : wrap64 ((i : Int) + 1) = ((i + 1 : Nat) : Int) := by unfold wrap64; omega
    obtain ⟨x, hxe⟩ : ∃ x_, rd_T24 l (i : Int) = x_ := ⟨_, rfl⟩
    rw [hxe] at hx hlr h1 ha ⊢
    have up1 : ∀ j, zfw.l0 (k1 + j) l (acc ++ refRow (refP n) x) ((i + 1 : Nat) : Int) = some ((acc ++ refRow (refP n) x) ++ (l.drop (i + 1)).flatMap (refRow (refP n))) := fun j => up (fun k => (zfw.mono_l k).2 _ _ _) h1 j
    have hS := fun k (hk : 9 ≤ k) => short_f1 k hk acc x.f0 (by omega)
    have hP : ∀ (k m : Nat) (b : List Int), 9 ≤ k → m ≤ 8 → b.length ≤ 2000000000 → zfP.f k b (m : Int) (IntKind.u64.wrap x.f2) = some (b ++ be m x.f2) := fun k m b h1 h2 h3 => by
      rw [Put_f k h1 b m _ h2 (by omega), be_wrap m h2]
    have hlb : ((acc ++ (be 1 (x.f0.size : Int) ++ bytesOf x.f0)) ++ [x.f1]).length ≤ 1000000000 := by simp [be_len, bytesOf_len]; omega
    have hrow : ∀ v : List Int, refVal (refP n) x = v → ((acc ++ (be 1 (x.f0.size : Int) ++ bytesOf x.f0)) ++ [x.f1]) ++ v = acc ++ refRow (refP n) x := fun v hv => by
      unfold refRow; rw [hv]; simp [List.append_assoc]
    have step : ∀ (k : Nat), 9 ≤ k → zfw.l0 (k + 1) l acc (i : Int) = (let b := (acc ++ (be 1 (x.f0.size : Int) ++ bytesOf x.f0)) ++ [x.f1]
        if x.f1 = 116 then ((zfP.f k b 1 (IntKind.u64.wrap x.f2)).bind fun t => zfw.l0 k l t ((i + 1 : Nat) : Int))
        else if x.f1 = 73 then ((zfP.f k b 4 (IntKind.u64.wrap x.f2)).bind fun t => zfw.l0 k l t ((i + 1 : Nat) : Int))
        else if x.f1 = 108 then ((zfP.f k b 8 (IntKind.u64.wrap x.f2)).bind fun t => zfw.l0 k l t ((i + 1 : Nat) : Int))
        else if x.f1 = 83 then (if x.f3.size ≤ 9223372036854775807 then ((waybillref1_Long.f k b (bytesOf x.f3)).bind fun t => zfw.l0 k l t ((i + 1 : Nat) : Int)) else none)
        else if x.f1 = 70 then ((zfw.f k x.f4).bind fun t => (waybillref1_Long.f k b t).bind fun t => zfw.l0 k l t ((i + 1 : Nat) : Int))
        else zfw.l0 k l b ((i + 1 : Nat) : Int)) := fun k hk => by
      simp only [zfw.l0]
      rw [if_pos (by omega), if_pos (by omega), hxe, hS k hk, Option.bind_some, Option.bind_some, if_pos (by simp [be_len, bytesOf_len]; omega), Option.bind_some, hw]
    by_cases c1 : x.f1 = 116
    · have hv : refVal (refP n) x = be 1 x.f2 := by unfold refVal; rw [if_pos c1]
      refine ⟨k1 + 9 + 1, ?_⟩
      rw [step _ (by omega)]
      simp only [if_pos c1]
      rw [show (1 : Int) = ((1 : Nat) : Int) from rfl, hP _ 1 _ (by omega) (by omega) (by omega), Option.bind_some, hrow _ hv, up1 9]
    · by_cases c2 : x.f1 = 73
      · have hv : refVal (refP n) x = be 4 x.f2 := by unfold refVal; rw [if_neg c1, if_pos c2]
        refine ⟨k1 + 9 + 1, ?_⟩
        rw [step _ (by omega)]
        simp only [if_neg c1, if_pos c2]
        rw [show (4 : Int) = ((4 : Nat) : Int) from rfl, hP _ 4 _ (by omega) (by omega) (by omega), Option.bind_some, hrow _ hv, up1 9]
      · by_cases c3 : x.f1 = 108
        · have hv : refVal (refP n) x = be 8 x.f2 := by unfold refVal; rw [if_neg c1, if_neg c2, if_pos c3]
          refine ⟨k1 + 9 + 1, ?_⟩
          rw [step _ (by omega)]
          simp only [if_neg c1, if_neg c2, if_pos c3]
          rw [show (8 : Int) = ((8 : Nat) : Int) from rfl, hP _ 8 _ (by omega) (by omega) (by omega), Option.bind_some, hrow _ hv, up1 9]
        · by_cases c4 : x.f1 = 83
          · have hv : refVal (refP n) x = be 4 ((bytesOf x.f3).length : Int) ++ bytesOf x.f3 := by unfold refVal; rw [if_neg c1, if_neg c2, if_neg c3, if_pos c4, bytesOf_len]
            have hvl : (bytesOf x.f3).length ≤ 1000000000 := by rw [hv, List.length_append] at hlr; omega
            refine ⟨k1 + 9 + 1, ?_⟩
            rw [step _ (by omega)]
            simp only [if_neg c1, if_neg c2, if_neg c3, if_pos c4]
            rw [if_pos (by rw [bytesOf_len] at hvl; omega), long_f1 _ (by omega) _ _ (by omega), Option.bind_some, hrow _ hv, up1 9]
          · by_cases c5 : x.f1 = 70
            · have hv : refVal (refP n) x = be 4 ((refP n x.f4).length : Int) ++ refP n x.f4 := by unfold refVal; rw [if_neg c1, if_neg c2, if_neg c3, if_neg c4, if_pos c5]
              have hvl : (refP n x.f4).length ≤ 1000000000 := by rw [hv, List.length_append] at hlr; omega
              obtain ⟨k2, h2⟩ := hs x hx c5
              refine ⟨k1 + (k2 + 9) + 1, ?_⟩
              have e2 := up (fun k => zfw.mono _ k) h2 (k1 + 9)
              rw [step _ (by omega)]
              simp only [if_neg c1, if_neg c2, if_neg c3, if_neg c4, if_pos c5]
              rw [show k1 + (k2 + 9) = k2 + (k1 + 9) by omega, e2, Option.bind_some, long_f1 _ (by omega) _ _ (by omega), Option.bind_some, hrow _ hv, show k2 + (k1 + 9) = k1 + (k2 + 9) by omega, up1 (k2 + 9)]
            · have hv : refVal (refP n) x = [] := by unfold refVal; rw [if_neg c1, if_neg c2, if_neg c3, if_neg c4, if_neg c5]
              refine ⟨k1 + 9 + 1, ?_⟩
              rw [step _ (by omega)]
              simp only [if_neg c1, if_neg c2, if_neg c3, if_neg c4, if_neg c5]
              have := hrow _ hv
              rw [List.append_nil] at this
              rw [this, up1 9]
theorem rows_f : ∀ (n : Nat) (l : List S24), FR n l → (refP n l).length ≤ 1000000000 → ∃ k, zfw.f k l = some (refP n l)
  | 0, _, h, _ => h.elim
  | n + 1, l, h, hl => by
    have hl : (l.flatMap (refRow (refP n))).length ≤ 1000000000 := hl
    obtain ⟨k, hk⟩ := rows_l0 n l hl (fun x hx h7 => rows_f n x.f4 ((h.1 x hx).2 h7) (by
      have h2 := ref_le (refP n) hx
      rw [refRow_len] at h2
      unfold refVal at h2
      rw [if_neg (by omega), if_neg (by omega), if_neg (by omega), if_neg (by omega), if_pos h7, List.length_append] at h2
      omega)) l.length 0 [] (by omega) (by simpa using hl)
    refine ⟨k + 1, ?_⟩
    simp only [zfw.f]
    exact hk
end Tb
end Go.Proofs.Ytfhaffpegncdiaa.PT
/-
The document's weight, TableOk and Table: they answer as the program's rows do.
Conditions: texts no longer than a bound; fewer octets than any machine has room for.
-/
namespace Go.Proofs.Ytfhaffpegncdiaa.PT
open Go.RowKit Go.Proofs.Ytfhaffpegncdiaa.Pure Go.Proofs.YtfhaffpegncdiaaW.PrintWords Go.Proofs.YtfhaffpegncdiaaW.PrintLast Go.Proofs.YtfhaffpegncdiaaW.PrintMore
set_option linter.unusedVariables false
set_option linter.unusedSimpArgs false
namespace Tb
theorem weight_l0 (n : Nat) (hn8 : n ≤ 8) (l : List S24) (a1 : Int) (ha : a1 ≤ 8) (hl : l.length ≤ 1000000) (hz : ∀ x ∈ l, x.f0.size ≤ 1000000000) (hs : ∀ x ∈ l, ∃ k w, zfg.f k x.f4 (wrap64 (a1 + 1)) = some w ∧ 0 ≤ w ∧ w ≤ (n : Int) * 2000000000 ∧ (w ≤ 1900 → FR n x.f4 → ((refP n x.f4).length : Int) ≤ w)) :
    ∀ (d i : Nat) (W : Int), i + d = l.length → 0 ≤ W → W ≤ ((n : Int) + 1) * 2000000000 → ∃ k w, zfg.l0 k l a1 W (i : Int) = some w ∧ W ≤ w ∧ w ≤ ((n : Int) + 1) * 2000000000 ∧ (w ≤ 1900 → FR (n + 1) l → W + (((l.drop i).flatMap (refRow (refP n))).length : Int) ≤ w) := by
  intro d
  induction d with
  | zero =>
    intro i W hi h0 hW
    refine ⟨1, W, ?_, Int.le_refl _, hW, fun _ _ => ?_⟩
    · simp only [zfg.l0]
      rw [if_neg (by omega)]
    · rw [List.drop_eq_nil_of_le (by omega)]; simp
  | succ d ih =>
    intro i W hi h0 hW
    have hx := mem24 l (i : Int) (by omega) (by omega)
    have hd := Tb.drop24 l i (by omega)
    have hw : wrap64 ((i : Int) + 1) = ((i + 1 : Nat) : Int) := by unfold wrap64; omega
    by_cases c1 : W ≤ 2000
    · obtain ⟨k1, v, h1, v0, v1, v2⟩ := hs _ hx
      have hz1 := hz _ hx
      have hlr := refRow_len (refP n) (rd_T24 l (i : Int))
      obtain ⟨x, hxe⟩ : ∃ x_, rd_T24 l (i : Int) = x_ := ⟨_, rfl⟩
      rw [hxe] at hx h1 v2 hz1 hlr hd
      obtain ⟨M, hM⟩ : ∃ M, mn (x.f3.size : Int) 4000 = M := ⟨_, rfl⟩
      have hM1 : 0 ≤ M ∧ M ≤ 4000 := by rw [← hM]; unfold mn; split <;> omega
      have hM2 : M ≤ 1900 → M = (x.f3.size : Int) := by rw [← hM]; unfold mn; split <;> omega
      have hW2 : wrap64 (wrap64 (wrap64 (wrap64 (W + 13) + (x.f0.size : Int)) + M) + v) = W + 13 + (x.f0.size : Int) + M + v := by
        rw [w64_id (W + 13) (by omega) (by omega), w64_id (W + 13 + (x.f0.size : Int)) (by omega) (by omega), w64_id (W + 13 + (x.f0.size : Int) + M) (by omega) (by omega), w64_id _ (by omega) (by omega)]
      obtain ⟨k2, w, h2, w1, w2, w3⟩ := ih (i + 1) (W + 13 + (x.f0.size : Int) + M + v) (by omega) (by omega) (by omega)
      refine ⟨k1 + k2 + 1, w, ?_, by omega, w2, fun hw9 hF => ?_⟩
      · have e1 := up (fun k => zfg.mono _ _ k) h1 k2
        have e2 := up (fun k => (zfg.mono_l k).2 _ _ _ _) h2 k1
        simp only [zfg.l0]
        rw [if_pos (by omega), if_pos c1, if_pos ha, if_pos (by omega), hxe, e1, Option.bind_some, hM, hW2, hw, show k1 + k2 = k2 + k1 by omega]
        exact e2
      · have h3 := w3 hw9 hF
        have hM3 := hM2 (by omega)
        rw [hd, List.flatMap_cons, List.length_append, hlr]
        have hv : ((refVal (refP n) x).length : Int) ≤ 11 + M + v := by
          unfold refVal
          by_cases c7 : x.f1 = 70
          · have h4 := v2 (by omega) ((hF.1 x hx).2 c7)
            rw [if_neg (by omega), if_neg (by omega), if_neg (by omega), if_neg (by omega), if_pos c7, List.length_append, be_len]
            omega
          · rw [if_neg c7]
            (repeat' split) <;> simp only [List.length_append, be_len, bytesOf_len, List.length_nil] <;> omega
        omega
    · refine ⟨1, W, ?_, Int.le_refl _, hW, fun h9 _ => by omega⟩
      simp only [zfg.l0]
      rw [if_pos (by omega), if_neg c1]
theorem weight_f : ∀ (n : Nat) (l : List S24) (a1 : Int), n ≤ 8 → 1 ≤ a1 → (9 - a1).toNat = n → short n l → ∃ k w, zfg.f k l a1 = some w ∧ 0 ≤ w ∧ w ≤ (n : Int) * 2000000000 ∧ (w ≤ 1900 → FR n l → ((refP n l).length : Int) ≤ w) := by
  intro n
  induction n with
  | zero =>
    intro l a1 _ h1 hn _
    refine ⟨2, 0, ?_, by omega, by omega, fun _ h => h.elim⟩
    simp only [zfg.f, zfg.l0]
    by_cases hl : (0 : Int) < (l.length : Int)
    · rw [if_pos hl, if_pos (by omega), if_neg (by omega)]
    · rw [if_neg hl]
  | succ n ih =>
    intro l a1 h8 h1 hn hs
    have hw : wrap64 (a1 + 1) = a1 + 1 := by unfold wrap64; omega
    obtain ⟨k, w, h2, h3, h4, h5⟩ := weight_l0 n (by omega) l a1 (by omega) hs.1 (fun x hx => (hs.2 x hx).1.1) (fun x hx => by rw [hw]; exact ih x.f4 (a1 + 1) (by omega) (by omega) (by omega) (hs.2 x hx).2) l.length 0 0 (by omega) (by omega) (by omega)
    refine ⟨k + 1, w, ?_, h3, by omega, fun h hF => ?_⟩
    · simp only [zfg.f]
      exact h2
    · have := h5 h hF
      rw [List.drop_zero] at this
      have e : refP (n + 1) l = l.flatMap (refRow (refP n)) := rfl
      rw [e]
      omega
theorem tableOk_f (l : List S24) (hs : short 8 l) (hb : FR 8 l → (refP 8 l).length ≤ 1000000000) : ∃ k, zfO.f k l = some (rowsP 8 l).2 := by
  obtain ⟨k1, b, h1, g1⟩ := formed_f 8 l 1 (by omega) (by omega) hs
  obtain ⟨k2, w, h2, w0, w1, w2⟩ := weight_f 8 l 1 (by omega) (by omega) (by omega) hs
  have hr := rows_ref 8
  cases b with
  | false =>
    refine ⟨k1, ?_⟩
    unfold zfO.f
    rw [h1, Option.bind_some, if_neg (by simp)]
    have : (rowsP 8 l).2 = false := by
      rw [Bool.eq_false_iff]
      intro h
      have := g1.2 (hr.1 l h).1
      simp at this
    rw [this]
  | true =>
    have hF := g1.1 rfl
    have e1 := up (fun k => zff.mono _ _ k) h1 k2
    have e2 := up (fun k => zfg.mono _ _ k) h2 k1
    by_cases hc : w ≤ 1900
    · refine ⟨k1 + k2, ?_⟩
      unfold zfO.f
      rw [e1, Option.bind_some, if_pos rfl, show k1 + k2 = k2 + k1 by omega, e2, Option.bind_some, if_pos hc, hr.2 l hF (by have := w2 hc hF; omega)]
    · obtain ⟨k3, h3⟩ := rows_f 8 l hF (hb hF)
      have e1 := up (fun k => zff.mono _ _ k) h1 (k2 + k3)
      have e2 := up (fun k => zfg.mono _ _ k) h2 (k1 + k3)
      have e3 := up (fun k => zfw.mono _ k) h3 (k1 + k2)
      refine ⟨k1 + (k2 + k3), ?_⟩
      unfold zfO.f
      rw [e1, Option.bind_some, if_pos rfl, show k1 + (k2 + k3) = k2 + (k1 + k3) by omega, e2, Option.bind_some, if_neg hc, show k2 + (k1 + k3) = k3 + (k1 + k2) by omega, e3, Option.bind_some]
      by_cases hl : (refP 8 l).length ≤ 2000
      · rw [hr.2 l hF hl, decide_eq_true (by omega)]
      · have : (rowsP 8 l).2 = false := by
          rw [Bool.eq_false_iff]
          intro h
          have h4 := (hr.1 l h).2
          have := rowsP_len 8 l
          rw [h4] at this
          exact hl this
        rw [this, decide_eq_false (by omega)]
theorem table_f (l : List S24) (hs : short 8 l) (hb : FR 8 l → (refP 8 l).length ≤ 1000000000) : ∃ k, waybillref1_Table.f k l = some (rowsP 8 l) := by
  obtain ⟨k1, h1⟩ := tableOk_f l hs hb
  rcases rows_tells 8 l with h | h
  · have hF := ((rows_ref 8).1 l (by rw [h])).1
    obtain ⟨k2, h2⟩ := rows_f 8 l hF (hb hF)
    have e1 := up (fun k => zfO.mono _ k) h1 k2
    have e2 := up (fun k => zfw.mono _ k) h2 k1
    refine ⟨k1 + k2, ?_⟩
    unfold waybillref1_Table.f
    rw [e1, Option.bind_some, h, if_pos rfl, show k1 + k2 = k2 + k1 by omega, e2]
    rfl
  · refine ⟨k1, ?_⟩
    unfold waybillref1_Table.f
    rw [h1, Option.bind_some, h, if_neg (by simp)]
end Tb
end Go.Proofs.Ytfhaffpegncdiaa.PT
/-
The document's own reading of a number, from a place on.
-/
namespace Go.Proofs.Ytfhaffpegncdiaa.Pure
open Go.RowKit Go.Proofs.Ytfhaffpegncdiaa.PT Go.Proofs.YtfhaffpegncdiaaW.PrintWords Go.Proofs.YtfhaffpegncdiaaW.PrintLast Go.Proofs.YtfhaffpegncdiaaW.PrintMore
set_option linter.unusedVariables false
set_option linter.unusedSimpArgs false
theorem Num_l0 (l : List Int) (a n : Nat) (ho : Oct l) (hn : n ≤ 8) (ha : a + n ≤ l.length) (hl : l.length < 140737488355328) : ∀ (d i K : Nat) (v : Int), n - i = d → i ≤ n → d < K → 0 ≤ v → v < 256 ^ i →
    zfN.l0 K l (a : Int) (n : Int) v (i : Int) = some (numA v ((l.drop (a + i)).take d), true) := by
  intro d
  induction d with
  | zero =>
    intro i K v hd hi hk h0 hv
    obtain ⟨K, rfl⟩ : ∃ j, K = j + 1 := ⟨K - 1, by omega⟩
    rw [zfN.l0, if_neg (by omega)]
    simp [numA]
  | succ d ih =>
    intro i K v hd hi hk h0 hv
    obtain ⟨K, rfl⟩ : ∃ j, K = j + 1 := ⟨K - 1, by omega⟩
    have hp : (256 : Int) ^ (i + 1) ≤ 18446744073709551616 := p256_le (i + 1) (by omega)
    have hps : (256 : Int) ^ (i + 1) = 256 ^ i * 256 := Int.pow_succ _ _
    rw [zfN.l0, if_pos (by omega), w64_id ((a : Int) + i) (by omega) (by omega), if_pos (by omega), if_pos (by omega)]
    rw [show (a : Int) + (i : Int) = ((a + i : Nat) : Int) by omega, rd_at]
    have hb := getD_oct ho (a + i)
    rw [or_byte v _ h0 (by omega) hb.1 hb.2, w64_id _ (by omega) (by omega), show (i : Int) + 1 = ((i + 1 : Nat) : Int) by omega]
    rw [ih (i + 1) K _ (by omega) (by omega) (by omega) (by omega) (by omega)]
    rw [drop_at l (a + i) (by omega), List.take_succ_cons, numA, show a + i + 1 = a + (i + 1) by omega]
theorem Num_f (k : Nat) (hk : 12 ≤ k) (l : List Int) (a n : Nat) (ho : Oct l) (hn : n ≤ 8) (hl : l.length < 140737488355328) (ha : a < 140737488355328) :
    zfN.f k l (a : Int) (n : Int) = some (if a + n ≤ l.length then (num ((l.drop a).take n), true) else (0, false)) := by
  obtain ⟨k, rfl⟩ : ∃ j, k = j + 1 := ⟨k - 1, by omega⟩
  unfold zfN.f
  rw [if_neg (by omega), w64_id _ (by omega) (by omega), zfN.j0]
  by_cases h : a + n ≤ l.length
  · rw [if_pos h, decide_eq_false (by omega), if_neg (by simp)]
    have := Num_l0 l a n ho hn h hl n 0 k 0 (by omega) (by omega) (by omega) (by omega) (by simp)
    simpa [num] using this
  · rw [if_neg h, decide_eq_true (by omega), if_pos rfl]
end Go.Proofs.Ytfhaffpegncdiaa.Pure
/-
The document's own reading of a text behind its length, from a place on; rests.
-/
namespace Go.Proofs.Ytfhaffpegncdiaa.Pure
open Go.RowKit Go.Proofs.Ytfhaffpegncdiaa.PT Go.Proofs.YtfhaffpegncdiaaW.PrintWords Go.Proofs.YtfhaffpegncdiaaW.PrintLast Go.Proofs.YtfhaffpegncdiaaW.PrintMore
set_option linter.unusedVariables false
set_option linter.unusedSimpArgs false
/-- What a text's octets are, and where what follows begins. -/
def rtxt (l : List Int) (a n : Nat) : List Int × Int × Bool := match txt (l.drop a) n with
  | none => ([], 0, false)
  | some (x, r) => (x, (a : Int) + n + x.length, true)
theorem txt_some {l : List Int} {n : Nat} {x r : List Int} (h : txt l n = some (x, r)) : n + x.length ≤ l.length ∧ x = (l.drop n).take x.length ∧ r = l.drop (n + x.length) := by
  unfold txt at h
  by_cases h1 : l.length < n
  · rw [if_pos h1] at h; cases h
  rw [if_neg h1] at h
  by_cases h2 : (l.length : Int) - n < num (l.take n)
  · rw [if_pos h2] at h; cases h
  rw [if_neg h2] at h
  simp only [Option.some.injEq, Prod.mk.injEq] at h
  obtain ⟨rfl, rfl⟩ := h
  have hl : ((l.drop n).take (num (l.take n)).toNat).length = (num (l.take n)).toNat := by rw [List.length_take, List.length_drop]; omega
  rw [hl]
  exact ⟨by omega, rfl, by rw [List.drop_drop]⟩
theorem rtxt_no {l : List Int} {a n : Nat} (h : txt (l.drop a) n = none) : rtxt l a n = ([], 0, false) := by unfold rtxt; rw [h]
theorem rtxt_yes {l : List Int} {a n : Nat} {x r : List Int} (h : txt (l.drop a) n = some (x, r)) : rtxt l a n = (x, (a : Int) + n + x.length, true) := by unfold rtxt; rw [h]
theorem txt_none1 {l : List Int} {n : Nat} (h : l.length < n) : txt l n = none := by unfold txt; rw [if_pos h]
theorem txt_none2 {l : List Int} {n : Nat} (h : ¬ l.length < n) (h2 : (l.length : Int) - n < num (l.take n)) : txt l n = none := by unfold txt; rw [if_neg h, if_pos h2]
theorem txt_yes {l : List Int} {n : Nat} (h : ¬ l.length < n) (h2 : ¬ (l.length : Int) - n < num (l.take n)) : txt l n = some ((l.drop n).take (num (l.take n)).toNat, (l.drop n).drop (num (l.take n)).toNat) := by unfold txt; rw [if_neg h, if_neg h2]
theorem w_left (a n l : Int) (h0 : 0 ≤ a) (h1 : 0 ≤ n) (h2 : a + n ≤ l) (h3 : l < 100000000) : IntKind.u64.wrap (wrap64 (wrap64 (l - a) - n)) = l - a - n := by
  rw [w64_id (l - a) (by omega) (by omega), w64_id (l - a - n) (by omega) (by omega), u64_id _ (by omega) (by omega)]
theorem w_sum (a n : Int) (h0 : 0 ≤ a) (h1 : 0 ≤ n) (h2 : a + n < 100000000) : wrap64 (a + n) = a + n := w64_id _ (by omega) (by omega)
theorem w_one (a : Int) (h0 : 0 ≤ a) (h2 : a < 100000000) : wrap64 a = a := w64_id _ (by omega) (by omega)
theorem cut_text (l : List Int) (a n X : Nat) : (l.take ((a : Int) + n + X).toNat).drop ((a : Int) + n).toNat = ((l.drop a).drop n).take (X : Int).toNat := by
  rw [show ((a : Int) + n + X).toNat = a + n + X by omega, show ((a : Int) + n).toNat = a + n by omega, List.drop_take, List.drop_drop, show a + n + X - (a + n) = (X : Int).toNat by omega]
theorem Text_f (k : Nat) (hk : 12 ≤ k) (l : List Int) (a n : Nat) (ho : Oct l) (hn : n ≤ 8) (hl : l.length < 100000000) (ha : a ≤ l.length) :
    waybillref1_Text.f k l (a : Int) (n : Int) = some (rtxt l a n) := by
  unfold waybillref1_Text.f
  rw [Num_f k hk l a n ho hn (by omega) (by omega), Option.bind_some]
  have hdl : (l.drop a).length = l.length - a := List.length_drop
  by_cases h : a + n ≤ l.length
  · have hlt : ((l.drop a).take n).length = n := by rw [List.length_take]; omega
    have hb := (num_bound _ (oct_take (oct_drop ho a) n)).1
    have hn1 : ¬ (l.drop a).length < n := by omega
    have hsub : ((l.drop a).length : Int) - n = (l.length : Int) - a - n := by omega
    have e1 := w_left (a : Int) n l.length (by omega) (by omega) (by omega) (by omega)
    have e2 := w_sum (a : Int) n (by omega) (by omega) (by omega)
    by_cases h2 : num ((l.drop a).take n) > (l.length : Int) - a - n
    · rw [rtxt_no (txt_none2 hn1 (by rw [hsub]; exact h2)), if_pos h]
      simp only [if_true]
      rw [e1, e2, if_pos h2]
    · have hy := txt_yes hn1 (by rw [hsub]; exact h2)
      obtain ⟨X, hX⟩ : ∃ X, num ((l.drop a).take n) = X := ⟨_, rfl⟩
      rw [hX] at hb hy h2
      clear e1 e2 hsub
      obtain ⟨x, rfl⟩ : ∃ x : Nat, X = x := ⟨X.toNat, by omega⟩
      have q1 : (0 : Int) ≤ (a : Int) + n := by omega
      have q2 : (a : Int) + n ≤ (a : Int) + n + x := by omega
      have q3 : (a : Int) + n + x ≤ (l.length : Int) := by omega
      have e7 : (((l.drop a).drop n).take (x : Int).toNat).length = x := by rw [List.length_take, List.length_drop]; omega
      have z0 : (0 : Int) ≤ (a : Int) := by omega
      have z1 : (0 : Int) ≤ (n : Int) := by omega
      have z2 : (0 : Int) ≤ (x : Int) := by omega
      have z3 : (a : Int) + n ≤ (l.length : Int) := by omega
      have z4 : (l.length : Int) < 100000000 := by omega
      have z5 : (a : Int) + n < 100000000 := by omega
      have z6 : (x : Int) < 100000000 := by omega
      have z7 : (a : Int) + n + x < 100000000 := by omega
      have e1 := w_left (a : Int) n l.length z0 z1 z3 z4
      have e2 := w_sum (a : Int) n z0 z1 z5
      have e4 := w_one (x : Int) z2 z6
      have e5 := w_sum ((a : Int) + n) x q1 z2 z7
      rw [rtxt_yes hy, if_pos h]
      simp only [if_true]
      rw [e1, e2, hX, if_neg h2, if_pos q1, e4, e5, if_pos q2, if_pos q3, cut_text, e7]
  · rw [if_neg h, rtxt_no (txt_none1 (by omega))]
    rfl
end Go.Proofs.Ytfhaffpegncdiaa.Pure
/-
The document's reading of a table, as a total function; it comes to what the program reads, where that may be a table.
Conditions: octets that are octets, no more than a bound.
-/
namespace Go.Proofs.Ytfhaffpegncdiaa.PT
open Go.RowKit Go.Proofs.Ytfhaffpegncdiaa.Pure Go.Proofs.YtfhaffpegncdiaaW.PrintWords Go.Proofs.YtfhaffpegncdiaaW.PrintLast Go.Proofs.YtfhaffpegncdiaaW.PrintMore
set_option linter.unusedVariables false
set_option linter.unusedSimpArgs false
namespace Tb
def known (k : Int) : Bool := decide (k = 116) || decide (k = 73) || decide (k = 108) || decide (k = 83) || decide (k = 70) || decide (k = 86)
def rrL (Q : List Int → List S24 × Bool) : Nat → List Int → List S24 → List S24 × Bool
  | 0, _, _ => ([], false)
  | m + 1, b, out =>
    if b = [] then (out, true)
    else
      let a := tx 1 (b, false)
      let k := nm 1 a.2
      let v := readP Q k.1 k.2
      if known k.1 = true ∧ v.1.2.2.2 = true ∧ v.2.2 = false then rrL Q m v.2.1 (out ++ [⟨strOfNums a.1, k.1, v.1.1, v.1.2.1, v.1.2.2.1⟩]) else ([], false)
/-- The document's reading, n levels deep. -/
def rr : Nat → List Int → List S24 × Bool
  | 0, b => if b = [] then ([], true) else ([], false)
  | n + 1, b => rrL (rr n) (b.length + 1) b []
theorem rrL_nil (Q : List Int → List S24 × Bool) (m : Nat) (out : List S24) : rrL Q (m + 1) [] out = (out, true) := rfl
theorem rrL_step (Q : List Int → List S24 × Bool) (m : Nat) (b : List Int) (out : List S24) (hb : b ≠ []) {nl r : List Int} {z : Bool} {kv : Int} {r2 : List Int} {z2 : Bool} {n3 : Int} {s3 : ByteArray} {t3 : List S24} {o3 : Bool} {r3 : List Int} {z3 : Bool}
    (h1 : tx 1 (b, false) = (nl, r, z)) (h2 : nm 1 (r, z) = (kv, r2, z2)) (h3 : readP Q kv (r2, z2) = ((n3, s3, t3, o3), (r3, z3))) :
    rrL Q (m + 1) b out = if known kv = true ∧ o3 = true ∧ z3 = false then rrL Q m r3 (out ++ [⟨strOfNums nl, kv, n3, s3, t3⟩]) else ([], false) := by
  have e : rrL Q (m + 1) b out = if known (nm 1 (tx 1 (b, false)).2).1 = true ∧ (readP Q (nm 1 (tx 1 (b, false)).2).1 (nm 1 (tx 1 (b, false)).2).2).1.2.2.2 = true ∧ (readP Q (nm 1 (tx 1 (b, false)).2).1 (nm 1 (tx 1 (b, false)).2).2).2.2 = false then rrL Q m (readP Q (nm 1 (tx 1 (b, false)).2).1 (nm 1 (tx 1 (b, false)).2).2).2.1 (out ++ [⟨strOfNums (tx 1 (b, false)).1, (nm 1 (tx 1 (b, false)).2).1, (readP Q (nm 1 (tx 1 (b, false)).2).1 (nm 1 (tx 1 (b, false)).2).2).1.1, (readP Q (nm 1 (tx 1 (b, false)).2).1 (nm 1 (tx 1 (b, false)).2).2).1.2.1, (readP Q (nm 1 (tx 1 (b, false)).2).1 (nm 1 (tx 1 (b, false)).2).2).1.2.2.1⟩]) else ([], false) := (if_neg hb : (if b = [] then _ else _) = _)
  rw [e]
  simp only [h1, h2, h3]
theorem rrL_bad (Q : List Int → List S24 × Bool) (m : Nat) (b : List Int) (out : List S24) (hb : b ≠ []) {nl r : List Int} {z : Bool} {kv : Int} {r2 : List Int} {z2 : Bool} (h1 : tx 1 (b, false) = (nl, r, z)) (h2 : nm 1 (r, z) = (kv, r2, z2)) (hk : known kv = false) : rrL Q (m + 1) b out = ([], false) := by
  rw [rrL_step Q m b out hb h1 h2 rfl, if_neg (fun h => by rw [hk] at h; simp at h)]
theorem j3_0 (x0 : List Int) (a1 : Int) (k : Nat) (out : List S24) (hou : out.length ≤ 1000000) (p : Int) (nmv : ByteArray) (kd v : Int) (s : ByteArray) (t : List S24) :
    zfR.j3 (k + 1) x0 a1 out p 0 nmv kd v s t = zfR.l0 k x0 a1 (out ++ [⟨nmv, kd, v, s, t⟩]) p := by
  simp only [zfR.j3]
  rw [if_neg (by omega), if_pos (by omega)]
section
variable (x0 : List Int) (a1 : Int) (ho : Oct x0) (hl : x0.length ≤ 100000)
include ho hl
theorem j3_n (k : Nat) (hk : 12 ≤ k) (n : Nat) (hn1 : 1 ≤ n) (hn : n ≤ 8) (out : List S24) (hou : out.length ≤ 1000000) (p : Nat) (hp : p ≤ x0.length) (nmv : ByteArray) (kd : Int) :
    zfR.j3 (k + 1) x0 a1 out (p : Int) (n : Int) nmv kd 0 ⟨#[]⟩ [] = if p + n ≤ x0.length then zfR.l0 k x0 a1 (out ++ [⟨nmv, kd, (if n = 4 then wrap64 (wrap32 (num ((x0.drop p).take n))) else wrap64 (num ((x0.drop p).take n))), ⟨#[]⟩, []⟩]) ((p + n : Nat) : Int) else some ([], false) := by
  simp only [zfR.j3]
  rw [if_pos (by omega), Num_f k hk x0 p n ho hn (by omega) (by omega), Option.bind_some]
  have hw : wrap64 ((p : Int) + (n : Int)) = ((p + n : Nat) : Int) := by unfold wrap64; omega
  by_cases h : p + n ≤ x0.length
  · rw [if_pos h, if_pos rfl, if_pos h]
    have hb := num_bound _ (oct_take (oct_drop ho p) n)
    have hlen : ((x0.drop p).take n).length = n := by rw [List.length_take, List.length_drop]; omega
    rw [hlen] at hb
    by_cases h4 : n = 4
    · subst h4
      have : num ((x0.drop p).take 4) % 4294967296 = num ((x0.drop p).take 4) := Int.emod_eq_of_lt hb.1 (by have := hb.2; omega)
      rw [if_pos (show ((4 : Nat) : Int) = 4 from rfl), if_pos (by omega : out.length < 1954687338268), if_pos (rfl : (4 : Nat) = 4), hw]
      simp only [this]
    · rw [if_neg (by omega), if_pos (by omega), if_neg h4, hw]
  · rw [if_neg h, if_neg (by simp), if_neg h]
end
theorem num_one (c : Int) : num [c] = c := by simp [num, numA]
theorem take_one (l : List Int) (p : Nat) (h : p < l.length) : (l.drop p).take 1 = [rd l (p : Int)] := by
  rw [drop_at l p h, rd_at]; rfl
/-- Up to the kind. -/
theorem l0_kind (k : Nat) (hk : 12 ≤ k) (x0 : List Int) (a1 : Int) (h8 : a1 ≤ 8) (ho : Oct x0) (hl : x0.length ≤ 100000) (p p2 : Nat) (out : List S24) (nl : List Int) (kd : Int) (hp : p < x0.length) (hY : rtxt x0 p 1 = (nl, (p2 : Int), true)) (hq : p2 < x0.length) (hkd : rd x0 (p2 : Int) = kd) :
    zfR.l0 (k + 2) x0 a1 out (p : Int) = (if kd = 116 then zfR.j3 k x0 a1 out ((p2 + 1 : Nat) : Int) 1 (strOfNums nl) kd 0 ⟨#[]⟩ []
              else if kd = 73 then zfR.j3 k x0 a1 out ((p2 + 1 : Nat) : Int) 4 (strOfNums nl) kd 0 ⟨#[]⟩ []
              else if kd = 108 then zfR.j3 k x0 a1 out ((p2 + 1 : Nat) : Int) 8 (strOfNums nl) kd 0 ⟨#[]⟩ []
              else if kd = 83 then zfR.j2 k x0 a1 out ((p2 + 1 : Nat) : Int) 0 kd (kd == 83) (strOfNums nl) kd 0 ⟨#[]⟩
              else zfR.j2 k x0 a1 out ((p2 + 1 : Nat) : Int) 0 kd (kd == 70) (strOfNums nl) kd 0 ⟨#[]⟩) := by
  have hT := Text_f (k + 1) (by omega) x0 p 1 ho (by omega) (by omega) (by omega)
  rw [show ((1 : Nat) : Int) = 1 from rfl, hY] at hT
  have hw1 : wrap64 ((p2 : Int) + 1) = ((p2 + 1 : Nat) : Int) := by clear hT hY hkd; unfold wrap64; omega
  have hj : zfR.j1 (k + 1) x0 a1 out nl (p2 : Int) false = (if kd = 116 then zfR.j3 k x0 a1 out ((p2 + 1 : Nat) : Int) 1 (strOfNums nl) kd 0 ⟨#[]⟩ []
              else if kd = 73 then zfR.j3 k x0 a1 out ((p2 + 1 : Nat) : Int) 4 (strOfNums nl) kd 0 ⟨#[]⟩ []
              else if kd = 108 then zfR.j3 k x0 a1 out ((p2 + 1 : Nat) : Int) 8 (strOfNums nl) kd 0 ⟨#[]⟩ []
              else if kd = 83 then zfR.j2 k x0 a1 out ((p2 + 1 : Nat) : Int) 0 kd (kd == 83) (strOfNums nl) kd 0 ⟨#[]⟩
              else zfR.j2 k x0 a1 out ((p2 + 1 : Nat) : Int) 0 kd (kd == 70) (strOfNums nl) kd 0 ⟨#[]⟩) := by
    rw [zfR.j1.eq_2, if_neg (by simp), if_pos (by clear hT hY hkd; omega), if_pos (by clear hT hY hkd; omega), hkd, hw1]
  have hd : decide (a1 > 8) = false := decide_eq_false (by clear hT hY hkd hj; omega)
  rw [zfR.l0.eq_2, if_pos (by clear hT hY hkd hj; omega), hT, Option.bind_some]
  show (if true = true then (if (p2 : Int) ≥ (x0.length : Int) then zfR.j1 (k + 1) x0 a1 out nl (p2 : Int) true else zfR.j1 (k + 1) x0 a1 out nl (p2 : Int) (decide (a1 > 8))) else zfR.j1 (k + 1) x0 a1 out nl (p2 : Int) true) = _
  rw [if_pos rfl, if_neg (by clear hT hY hkd hj; omega), hd, hj]
theorem l0_no (x0 : List Int) (a1 : Int) (ho : Oct x0) (hl : x0.length ≤ 100000) (p : Nat) (out : List S24) (hp : p < x0.length) (h : rtxt x0 p 1 = ([], 0, false) ∨ ∃ nl, ∃ p2 : Nat, rtxt x0 p 1 = (nl, (p2 : Int), true) ∧ x0.length ≤ p2) :
    zfR.l0 14 x0 a1 out (p : Int) = some ([], false) := by
  have hT := Text_f 13 (by omega) x0 p 1 ho (by omega) (by omega) (by omega)
  rw [show ((1 : Nat) : Int) = 1 from rfl] at hT
  have hj : ∀ (x8 : List Int) (x9 : Int), zfR.j1 13 x0 a1 out x8 x9 true = some ([], false) := fun x8 x9 => by
    rw [zfR.j1.eq_2, if_pos rfl]
  rw [zfR.l0.eq_2, if_pos (by omega), hT, Option.bind_some]
  rcases h with h | ⟨nl, p2, h, h2⟩
  · rw [h, if_neg (by simp), hj]
  · rw [h]
    show (if true = true then (if (p2 : Int) ≥ (x0.length : Int) then zfR.j1 13 x0 a1 out nl (p2 : Int) true else zfR.j1 13 x0 a1 out nl (p2 : Int) (decide (a1 > 8))) else zfR.j1 13 x0 a1 out nl (p2 : Int) true) = _
    rw [if_pos rfl, if_pos (by omega), hj]
section
variable {n m p p2 : Nat} {x0 : List Int} {a1 : Int} {out : List S24} {nl r : List Int} {kd : Int}
variable (ho : Oct x0) (hl : x0.length ≤ 100000) (hm : x0.length - p < m + 1) (hpp : p + 1 ≤ p2) (hq : p2 < x0.length) (hou : out.length ≤ p)
variable (ih : ∀ (p' : Nat) (out' : List S24), p' ≤ x0.length → x0.length - p' < m → out'.length ≤ p' → ∃ k, zfR.l0 k x0 a1 out' (p' : Int) = some (rrL (rr n) m (x0.drop p') out'))
variable (hb : x0.drop p ≠ []) (hx : tx 1 (x0.drop p, false) = (nl, r, false)) (hk2 : nm 1 (r, false) = (kd, x0.drop (p2 + 1), false))
include ho hl hm hpp hq hou ih hb hx hk2
theorem case_num (w : Nat) (val : Int → Int) (w1 : 1 ≤ w) (w2 : w ≤ 8) (hkn : known kd = true) (hval : ∀ v : Int, val v = if w = 4 then wrap64 (wrap32 v) else wrap64 v)
    (hrd : ∀ s : List Int × Bool, readP (rr n) kd s = ((val (nm w s).1, ⟨#[]⟩, [], true), (nm w s).2))
    (hj : ∀ k, 12 ≤ k → zfR.l0 (k + 2) x0 a1 out (p : Int) = zfR.j3 k x0 a1 out ((p2 + 1 : Nat) : Int) (w : Int) (strOfNums nl) kd 0 ⟨#[]⟩ []) :
    ∃ k, zfR.l0 k x0 a1 out (p : Int) = some (rrL (rr n) (m + 1) (x0.drop p) out) := by
  by_cases hfit : p2 + 1 + w ≤ x0.length
  · obtain ⟨k, hk⟩ := ih (p2 + 1 + w) (out ++ [⟨strOfNums nl, kd, val (num ((x0.drop (p2 + 1)).take w)), ⟨#[]⟩, []⟩]) (by omega) (by omega) (by simp; omega)
    have hk' := up (fun k => (zfR.mono_l k).2.1 _ _ _ _) hk 12
    refine ⟨k + 12 + 1 + 2, ?_⟩
    have hnm : nm w (x0.drop (p2 + 1), false) = (num ((x0.drop (p2 + 1)).take w), x0.drop (p2 + 1 + w), false) := by
      unfold nm
      rw [if_neg (by simp), if_neg (by simp only [List.length_drop]; omega), List.drop_drop]
    have h3 := hrd (x0.drop (p2 + 1), false)
    rw [hnm] at h3
    rw [hj _ (by omega), j3_n x0 a1 ho hl _ (by omega) w w1 w2 out (by omega) (p2 + 1) (by omega), if_pos hfit, ← hval, rrL_step (rr n) m _ out hb hx hk2 h3, if_pos ⟨hkn, rfl, rfl⟩]
    exact hk'
  · refine ⟨13 + 2, ?_⟩
    have hnm : nm w (x0.drop (p2 + 1), false) = (0, [], true) := by
      unfold nm
      rw [if_neg (by simp), if_pos (by simp only [List.length_drop]; omega)]
    have h3 := hrd (x0.drop (p2 + 1), false)
    rw [hnm] at h3
    rw [hj _ (by omega), j3_n x0 a1 ho hl _ (by omega) w w1 w2 out (by omega) (p2 + 1) (by omega), if_neg hfit, rrL_step (rr n) m _ out hb hx hk2 h3, if_neg (by simp)]
theorem case_text (hkn : known kd = true) (F : List Int → List S24 × Bool) (V : List Int → ByteArray)
    (hrd : ∀ s : List Int × Bool, readP (rr n) kd s = ((0, V (tx 4 s).1, (F (tx 4 s).1).1, (F (tx 4 s).1).2), (tx 4 s).2))
    (hj : ∀ s, Oct s → s.length ≤ 100000 → ∃ k0, ∀ k, k0 ≤ k → ∀ e : Int, rtxt x0 (p2 + 1) 4 = (s, e, true) → zfR.l0 (k + 3) x0 a1 out (p : Int) = if (F s).2 = true then zfR.j3 k x0 a1 out e 0 (strOfNums nl) kd 0 (V s) (F s).1 else some ([], false))
    (hno : rtxt x0 (p2 + 1) 4 = ([], 0, false) → zfR.l0 16 x0 a1 out (p : Int) = some ([], false)) :
    ∃ k, zfR.l0 k x0 a1 out (p : Int) = some (rrL (rr n) (m + 1) (x0.drop p) out) := by
  have htx4 := told_tx 4 (x0.drop (p2 + 1))
  have h3 := hrd (x0.drop (p2 + 1), false)
  cases ht4 : txt (x0.drop (p2 + 1)) 4 with
  | none =>
    rw [ht4] at htx4
    have hx4 : tx 4 (x0.drop (p2 + 1), false) = ([], [], true) := htx4.symm
    rw [hx4] at h3
    refine ⟨16, ?_⟩
    rw [hno (rtxt_no ht4), rrL_step (rr n) m _ out hb hx hk2 h3, if_neg (by simp)]
  | some q =>
    obtain ⟨s4, r4⟩ := q
    rw [ht4] at htx4
    have hx4 : tx 4 (x0.drop (p2 + 1), false) = (s4, r4, false) := htx4.symm
    rw [hx4] at h3
    obtain ⟨u1, u2, u3⟩ := txt_some ht4
    rw [List.length_drop] at u1
    have hos : Oct s4 := by rw [u2]; exact oct_take (oct_drop (oct_drop ho _) _) _
    rw [List.drop_drop] at u3
    have hpe : ((p2 + 1 : Nat) : Int) + (4 : Nat) + (s4.length : Int) = ((p2 + 1 + (4 + s4.length) : Nat) : Int) := by omega
    have hY4 := rtxt_yes (l := x0) (a := p2 + 1) (n := 4) ht4
    rw [hpe] at hY4
    obtain ⟨k0, hk0⟩ := hj s4 hos (by omega)
    cases ho5 : (F s4).2 with
    | false =>
      refine ⟨k0 + 3, ?_⟩
      have h3' : readP (rr n) kd (x0.drop (p2 + 1), false) = ((0, V s4, (F s4).1, false), (r4, false)) := by rw [h3, ← ho5]
      rw [hk0 k0 (Nat.le_refl _) _ hY4, ho5, if_neg (by simp), rrL_step (rr n) m _ out hb hx hk2 h3', if_neg (by simp)]
    | true =>
      obtain ⟨k, hk⟩ := ih (p2 + 1 + (4 + s4.length)) (out ++ [⟨strOfNums nl, kd, 0, V s4, (F s4).1⟩]) (by omega) (by omega) (by simp; omega)
      have hk' := up (fun k => (zfR.mono_l k).2.1 _ _ _ _) hk k0
      refine ⟨k + k0 + 1 + 3, ?_⟩
      have h3' : readP (rr n) kd (x0.drop (p2 + 1), false) = ((0, V s4, (F s4).1, true), (r4, false)) := by rw [h3, ← ho5]
      rw [hk0 (k + k0 + 1) (by omega) _ hY4, ho5, if_pos rfl, j3_0 x0 a1 _ out (by omega), rrL_step (rr n) m _ out hb hx hk2 h3', if_pos ⟨hkn, rfl, rfl⟩, u3]
      exact hk'
theorem case_V (c6 : kd = 86) (hst : ∀ k, 12 ≤ k → zfR.l0 (k + 3) x0 a1 out (p : Int) = zfR.j3 k x0 a1 out ((p2 + 1 : Nat) : Int) 0 (strOfNums nl) kd 0 ⟨#[]⟩ []) :
    ∃ k, zfR.l0 k x0 a1 out (p : Int) = some (rrL (rr n) (m + 1) (x0.drop p) out) := by
  have _ := ho
  have hkn : known kd = true := by rw [c6]; decide
  have hrd : readP (rr n) kd (x0.drop (p2 + 1), false) = ((0, ⟨#[]⟩, [], true), (x0.drop (p2 + 1), false)) := by unfold readP; rw [if_neg (by omega), if_neg (by omega), if_neg (by omega), if_neg (by omega), if_neg (by omega)]
  obtain ⟨k, hk⟩ := ih (p2 + 1) (out ++ [⟨strOfNums nl, kd, 0, ⟨#[]⟩, []⟩]) (by omega) (by omega) (by simp; omega)
  have hk' := up (fun k => (zfR.mono_l k).2.1 _ _ _ _) hk 12
  refine ⟨k + 12 + 1 + 3, ?_⟩
  rw [hst _ (by omega), rrL_step (rr n) m _ out hb hx hk2 hrd, if_pos ⟨hkn, rfl, rfl⟩, j3_0 x0 a1 _ out (by omega)]
  exact hk'
end
/-- A round of the document's loop, where the kind is there. -/
theorem read_kind {n m p p2 : Nat} {x0 : List Int} {a1 : Int} {out : List S24} {nl r : List Int} {kd : Int} (h1 : 1 ≤ a1) (h8 : a1 ≤ 8) (ho : Oct x0) (hl : x0.length ≤ 100000) (hs : ∀ s : List Int, Oct s → s.length ≤ 100000 → ∃ k, zfR.f k s (wrap64 (a1 + 1)) = some (rr n s))
    (hm : x0.length - p < m + 1) (hpp : p + 1 ≤ p2) (hq : p2 < x0.length) (hou : out.length ≤ p)
    (ih : ∀ (p' : Nat) (out' : List S24), p' ≤ x0.length → x0.length - p' < m → out'.length ≤ p' → ∃ k, zfR.l0 k x0 a1 out' (p' : Int) = some (rrL (rr n) m (x0.drop p') out'))
    (hb : x0.drop p ≠ []) (hx : tx 1 (x0.drop p, false) = (nl, r, false)) (hk2 : nm 1 (r, false) = (kd, x0.drop (p2 + 1), false)) (hY : rtxt x0 p 1 = (nl, (p2 : Int), true)) (hkd : rd x0 (p2 : Int) = kd) :
    ∃ k, zfR.l0 k x0 a1 out (p : Int) = some (rrL (rr n) (m + 1) (x0.drop p) out) := by
  have hstep := fun k (hk : 12 ≤ k) => l0_kind k hk x0 a1 h8 ho hl p p2 out nl kd (by omega) hY hq hkd
  have hT4 := fun k (hk : 12 ≤ k) => Text_f k hk x0 (p2 + 1) 4 ho (by omega) (by omega) (by omega)
  rw [show ((4 : Nat) : Int) = 4 from rfl] at hT4
  by_cases c1 : kd = 116
  · refine case_num ho hl hm hpp hq hou ih hb hx hk2 1 wrap64 (by omega) (by omega) (by rw [c1]; decide) (fun v => rfl) (fun s => by unfold readP; rw [if_pos c1]) (fun k hk => ?_)
    rw [hstep k hk, if_pos c1]; rfl
  · by_cases c2 : kd = 73
    · refine case_num ho hl hm hpp hq hou ih hb hx hk2 4 (fun v => wrap64 (wrap32 v)) (by omega) (by omega) (by rw [c2]; decide) (fun v => rfl) (fun s => by unfold readP; rw [if_neg c1, if_pos c2]) (fun k hk => ?_)
      rw [hstep k hk, if_neg c1, if_pos c2]; rfl
    · by_cases c3 : kd = 108
      · refine case_num ho hl hm hpp hq hou ih hb hx hk2 8 wrap64 (by omega) (by omega) (by rw [c3]; decide) (fun v => rfl) (fun s => by unfold readP; rw [if_neg c1, if_neg c2, if_pos c3]) (fun k hk => ?_)
        rw [hstep k hk, if_neg c1, if_neg c2, if_pos c3]; rfl
      · by_cases c4 : kd = 83
        · have hst : ∀ k, 12 ≤ k → zfR.l0 (k + 3) x0 a1 out (p : Int) = (if (rtxt x0 (p2 + 1) 4).2.2 = true then zfR.j3 k x0 a1 out (rtxt x0 (p2 + 1) 4).2.1 0 (strOfNums nl) kd 0 (strOfNums (rtxt x0 (p2 + 1) 4).1) [] else some ([], false)) := fun k hk => by
            rw [show k + 3 = (k + 1) + 2 by omega, hstep (k + 1) (by omega), if_neg c1, if_neg c2, if_neg c3, if_pos c4, zfR.j2.eq_2, if_pos (by simp [c4]), hT4 k hk, Option.bind_some]
            simp only [if_pos c4]
          refine case_text ho hl hm hpp hq hou ih hb hx hk2 (by rw [c4]; decide) (fun _ => ([], true)) strOfNums (fun s => by unfold readP; rw [if_neg c1, if_neg c2, if_neg c3, if_pos c4]) (fun s _ _ => ⟨12, fun k hk e he => ?_⟩) (fun he => ?_)
          · rw [hst k hk, he]
          · rw [hst 13 (by omega), he, if_neg (by simp)]
        · by_cases c5 : kd = 70
          · have hst : ∀ k, 12 ≤ k → zfR.l0 (k + 3) x0 a1 out (p : Int) = (if (rtxt x0 (p2 + 1) 4).2.2 = true then ((zfR.f k (rtxt x0 (p2 + 1) 4).1 (wrap64 (a1 + 1))).bind fun t => if t.2 = true then zfR.j3 k x0 a1 out (rtxt x0 (p2 + 1) 4).2.1 0 (strOfNums nl) kd 0 ⟨#[]⟩ t.1 else some ([], false)) else some ([], false)) := fun k hk => by
              rw [show k + 3 = (k + 1) + 2 by omega, hstep (k + 1) (by omega), if_neg c1, if_neg c2, if_neg c3, if_neg c4, zfR.j2.eq_2, if_pos (by simp [c5]), hT4 k hk, Option.bind_some]
              simp only [if_neg c4]
            refine case_text ho hl hm hpp hq hou ih hb hx hk2 (by rw [c5]; decide) (rr n) (fun _ => ⟨#[]⟩) (fun s => by unfold readP; rw [if_neg c1, if_neg c2, if_neg c3, if_neg c4, if_pos c5]) (fun s hs1 hs2 => ?_) (fun he => ?_)
            · obtain ⟨k5, h5⟩ := hs s hs1 hs2
              refine ⟨k5 + 12, fun k hk e he => ?_⟩
              have e5 := up (fun k => zfR.mono _ _ k) h5 (k - k5)
              rw [show k5 + (k - k5) = k by omega] at e5
              rw [hst k (by omega), he, if_pos rfl, e5, Option.bind_some]
            · rw [hst 13 (by omega), he, if_neg (by simp)]
          · have hst : ∀ k, 12 ≤ k → zfR.l0 (k + 3) x0 a1 out (p : Int) = if kd = 86 then zfR.j3 k x0 a1 out ((p2 + 1 : Nat) : Int) 0 (strOfNums nl) kd 0 ⟨#[]⟩ [] else some ([], false) := fun k hk => by
              rw [show k + 3 = (k + 1) + 2 by omega, hstep (k + 1) (by omega), if_neg c1, if_neg c2, if_neg c3, if_neg c4, zfR.j2.eq_2, if_neg (by simp [c5])]
            by_cases c6 : kd = 86
            · exact case_V ho hl hm hpp hq hou ih hb hx hk2 c6 (fun k hk => by rw [hst k hk, if_pos c6])
            · refine ⟨13 + 3, ?_⟩
              rw [hst _ (by omega), if_neg c6, rrL_bad (rr n) m _ out hb hx hk2 (by unfold known; simp [c1, c2, c3, c4, c5, c6])]
/-- A round of the document's loop. -/
theorem read_l0 (n : Nat) (x0 : List Int) (a1 : Int) (h1 : 1 ≤ a1) (h8 : a1 ≤ 8) (ho : Oct x0) (hl : x0.length ≤ 100000) (hs : ∀ s : List Int, Oct s → s.length ≤ 100000 → ∃ k, zfR.f k s (wrap64 (a1 + 1)) = some (rr n s)) :
    ∀ (m p : Nat) (out : List S24), p ≤ x0.length → x0.length - p < m → out.length ≤ p → ∃ k, zfR.l0 k x0 a1 out (p : Int) = some (rrL (rr n) m (x0.drop p) out) := by
  intro m
  induction m with
  | zero => intro p out _ h _; omega
  | succ m ih =>
    intro p out hp hm hou
    by_cases hc : p < x0.length
    · have hb : x0.drop p ≠ [] := by intro h; have := congrArg List.length h; rw [List.length_drop] at this; simp at this; omega
      have htx := told_tx 1 (x0.drop p)
      cases ht : txt (x0.drop p) 1 with
      | none =>
        rw [ht] at htx
        have hx : tx 1 (x0.drop p, false) = ([], [], true) := htx.symm
        exact ⟨14, by rw [rrL_bad (rr n) m _ out hb hx (show nm 1 ([], true) = (0, [], true) from rfl) (by decide), l0_no x0 a1 ho hl p out hc (.inl (rtxt_no ht))]⟩
      | some q =>
        obtain ⟨nl, r⟩ := q
        rw [ht] at htx
        have hx : tx 1 (x0.drop p, false) = (nl, r, false) := htx.symm
        obtain ⟨t1, t2, t3⟩ := txt_some ht
        rw [List.length_drop] at t1
        rw [List.drop_drop] at t3
        obtain ⟨p2, hp2⟩ : ∃ p2, p + (1 + nl.length) = p2 := ⟨_, rfl⟩
        rw [hp2] at t3
        have hpi : (p : Int) + (1 : Nat) + (nl.length : Int) = (p2 : Int) := by omega
        have hY := rtxt_yes (l := x0) (a := p) (n := 1) ht
        rw [hpi] at hY
        by_cases hq : p2 < x0.length
        · have hk2 : nm 1 (r, false) = (rd x0 (p2 : Int), x0.drop (p2 + 1), false) := by
            unfold nm
            rw [if_neg (by simp), t3, if_neg (by simp only [List.length_drop]; omega), take_one x0 p2 hq, num_one, List.drop_drop]
          exact read_kind h1 h8 ho hl hs hm (by omega) hq hou ih hb hx hk2 hY rfl
        · have hk2 : nm 1 (r, false) = (0, [], true) := by
            unfold nm
            rw [if_neg (by simp), t3, if_pos (by simp only [List.length_drop]; omega)]
          exact ⟨14, by rw [rrL_bad (rr n) m _ out hb hx hk2 (by decide), l0_no x0 a1 ho hl p out hc (.inr ⟨nl, p2, hY, by omega⟩)]⟩
    · refine ⟨1, ?_⟩
      rw [zfR.l0.eq_2, if_neg (by omega), List.drop_eq_nil_of_le (by omega), rrL_nil]
theorem read_f : ∀ (n : Nat) (b : List Int) (a1 : Int), 1 ≤ a1 → a1 ≤ 9 → (9 - a1).toNat = n → Oct b → b.length ≤ 100000 → ∃ k, zfR.f k b a1 = some (rr n b) := by
  intro n
  induction n with
  | zero =>
    intro b a1 h1 h9 hn ho hl
    by_cases hb : b = []
    · subst hb
      refine ⟨2, ?_⟩
      simp only [zfR.f, zfR.l0]
      rw [if_neg (by simp)]
      rfl
    · have hlen := List.length_pos_iff.2 hb
      have hT := Text_f 13 (by omega) b 0 1 ho (by omega) (by omega) (by omega)
      rw [show ((1 : Nat) : Int) = 1 from rfl, show ((0 : Nat) : Int) = 0 from rfl] at hT
      refine ⟨15, ?_⟩
      have e : rr 0 b = ([], false) := if_neg hb
      rw [e]
      simp only [zfR.f, zfR.l0]
      rw [if_pos (by omega), hT, Option.bind_some]
      have hd : decide (a1 > 8) = true := decide_eq_true (by omega)
      have hj : ∀ (x8 : List Int) (x9 : Int), zfR.j1 13 b a1 [] x8 x9 true = some ([], false) := fun x8 x9 => by
        simp only [zfR.j1]
        rw [if_pos trivial]
      rw [hd, hj]
      split
      · split <;> rfl
      · rfl
  | succ n ih =>
    intro b a1 h1 h9 hn ho hl
    have hw : wrap64 (a1 + 1) = a1 + 1 := by unfold wrap64; omega
    obtain ⟨k, hk⟩ := read_l0 n b a1 h1 (by omega) ho hl (fun s hs1 hs2 => by rw [hw]; exact ih s (a1 + 1) (by omega) (by omega) (by omega) hs1 hs2) (b.length + 1) 0 [] (by omega) (by omega) (by simp)
    refine ⟨k + 1, ?_⟩
    simp only [zfR.f]
    exact hk
end Tb
end Go.Proofs.Ytfhaffpegncdiaa.PT
/-
The document's ReadTable and the program's Parse answer the same.
Conditions: octets that are octets, no more than a bound.
-/
namespace Go.Proofs.Ytfhaffpegncdiaa.PT
open Go.RowKit Go.Proofs.Ytfhaffpegncdiaa.Pure Go.Proofs.YtfhaffpegncdiaaW.PrintWords Go.Proofs.YtfhaffpegncdiaaW.PrintLast Go.Proofs.YtfhaffpegncdiaaW.PrintMore
set_option linter.unusedVariables false
set_option linter.unusedSimpArgs false
namespace Tb
theorem rrL_eq (Q : List Int → List S24 × Bool) (m : Nat) (b : List Int) (out : List S24) (hb : b ≠ []) : ∃ nl r z kv r2 z2 n3 s3 t3 o3 r3 z3, tx 1 (b, false) = (nl, r, z) ∧ nm 1 (r, z) = (kv, r2, z2) ∧ readP Q kv (r2, z2) = ((n3, s3, t3, o3), (r3, z3)) ∧
    rrL Q (m + 1) b out = if known kv = true ∧ o3 = true ∧ z3 = false then rrL Q m r3 (out ++ [⟨strOfNums nl, kv, n3, s3, t3⟩]) else ([], false) :=
  ⟨_, _, _, _, _, _, _, _, _, _, _, _, rfl, rfl, rfl, rrL_step Q m b out hb rfl rfl rfl⟩
theorem parseL_step (Q : List Int → List S24 × Bool) (m : Nat) (b : List Int) (out : List S24) (hb : b ≠ []) {nl r : List Int} {z : Bool} {kv : Int} {r2 : List Int} {z2 : Bool} {n3 : Int} {s3 : ByteArray} {t3 : List S24} {o3 : Bool} {r3 : List Int} {z3 : Bool}
    (h1 : tx 1 (b, false) = (nl, r, z)) (h2 : nm 1 (r, z) = (kv, r2, z2)) (h3 : readP Q kv (r2, z2) = ((n3, s3, t3, o3), (r3, z3))) :
    parseL Q (m + 1) b out = if o3 = true ∧ z3 = false then parseL Q m r3 (out ++ [⟨strOfNums nl, kv, n3, s3, t3⟩]) else ([], false) := by
  have e : parseL Q (m + 1) b out = if (readP Q (nm 1 (tx 1 (b, false)).2).1 (nm 1 (tx 1 (b, false)).2).2).1.2.2.2 = true ∧ (readP Q (nm 1 (tx 1 (b, false)).2).1 (nm 1 (tx 1 (b, false)).2).2).2.2 = false then parseL Q m (readP Q (nm 1 (tx 1 (b, false)).2).1 (nm 1 (tx 1 (b, false)).2).2).2.1 (out ++ [⟨strOfNums (tx 1 (b, false)).1, (nm 1 (tx 1 (b, false)).2).1, (readP Q (nm 1 (tx 1 (b, false)).2).1 (nm 1 (tx 1 (b, false)).2).2).1.1, (readP Q (nm 1 (tx 1 (b, false)).2).1 (nm 1 (tx 1 (b, false)).2).2).1.2.1, (readP Q (nm 1 (tx 1 (b, false)).2).1 (nm 1 (tx 1 (b, false)).2).2).1.2.2.1⟩]) else ([], false) := (if_neg hb : (if b = [] then _ else _) = _)
  rw [e]
  simp only [h1, h2, h3]
theorem rrL_pre (Q : List Int → List S24 × Bool) : ∀ (m : Nat) (b : List Int) (out l : List S24), rrL Q m b out = (l, true) → ∃ r, l = out ++ r
  | 0, _, _, _, h => by simp [rrL] at h
  | m + 1, b, out, l, h => by
    by_cases hb : b = []
    · subst hb
      rw [rrL_nil] at h
      exact ⟨[], by simpa [eq_comm] using h⟩
    · obtain ⟨nl, r, z, kv, r2, z2, n3, s3, t3, o3, r3, z3, h1, h2, h3, h4⟩ := rrL_eq Q m b out hb
      rw [h4] at h
      split at h
      · obtain ⟨q, hq⟩ := rrL_pre Q m _ _ _ h
        exact ⟨_, by rw [hq, List.append_assoc]⟩
      · simp at h
theorem parseL_nil (Q : List Int → List S24 × Bool) (m : Nat) (out : List S24) : parseL Q (m + 1) [] out = (out, true) := rfl
theorem parseL_pre (Q : List Int → List S24 × Bool) : ∀ (m : Nat) (b : List Int) (out l : List S24), parseL Q m b out = (l, true) → ∃ r, l = out ++ r
  | 0, _, _, _, h => by simp [parseL] at h
  | m + 1, b, out, l, h => by
    by_cases hb : b = []
    · subst hb
      rw [parseL_nil] at h
      exact ⟨[], by simpa [eq_comm] using h⟩
    · obtain ⟨nl, r, z, kv, r2, z2, n3, s3, t3, o3, r3, z3, h1, h2, h3, _⟩ := rrL_eq Q m b out hb
      rw [parseL_step Q m b out hb h1 h2 h3] at h
      split at h
      · obtain ⟨q, hq⟩ := parseL_pre Q m _ _ _ h
        exact ⟨_, by rw [hq, List.append_assoc]⟩
      · simp at h
theorem read_other (Q Q' : List Int → List S24 × Bool) (k : Int) (s : List Int × Bool) (h : k ≠ 70) : readP Q k s = readP Q' k s := by
  unfold readP
  (repeat' split) <;> first | rfl | contradiction
theorem read_70 (Q : List Int → List S24 × Bool) (s : List Int × Bool) : readP Q 70 s = ((0, ⟨#[]⟩, (Q (tx 4 s).1).1, (Q (tx 4 s).1).2), (tx 4 s).2) := by
  unfold readP
  simp
theorem good_70 (R : List S24 → List Int × Bool) (x : S24) (h : good (valP R) x) (h7 : x.f1 = 70) : (R x.f4).2 = true := (ok_of R x h).2.1 h7
theorem good_known (R : List S24 → List Int × Bool) (x : S24) (h : good (valP R) x) : known x.f1 = true := by
  have h := h.1
  unfold valP at h
  unfold known
  (repeat' split at h) <;> first | (simp_all; done) | simp at h
theorem sub_len {b nl r : List Int} {z : Bool} {kv : Int} {r2 : List Int} {z2 : Bool} (h1 : tx 1 (b, false) = (nl, r, z)) (h2 : nm 1 (r, z) = (kv, r2, z2)) : r2.length ≤ b.length := by
  have e1 := tx_len 1 (b, false)
  have e2 := nm_len 1 (r, z)
  rw [h1] at e1
  rw [h2] at e2
  simp only at e1 e2
  omega
theorem to_parse (n : Nat) (hQ : ∀ s t, s.length ≤ 2000 → rr n s = (t, true) → (rowsP n t).2 = true → parseP n s = (t, true)) : ∀ (m : Nat) (b : List Int) (out l : List S24), b.length ≤ 2000 → rrL (rr n) m b out = (l, true) → (∀ x ∈ l, good (valP (rowsP n)) x) → parseL (parseP n) m b out = (l, true)
  | 0, _, _, _, _, h, _ => by simp [rrL] at h
  | m + 1, b, out, l, hbl, h, hg => by
    by_cases hb : b = []
    · subst hb
      rw [rrL_nil] at h
      rw [parseL_nil]
      exact h
    · obtain ⟨nl, r, z, kv, r2, z2, n3, s3, t3, o3, r3, z3, h1, h2, h3, h4⟩ := rrL_eq (rr n) m b out hb
      rw [h4] at h
      split at h
      · rename_i hc
        obtain ⟨hk, ho, hz⟩ := hc
        obtain ⟨q, hq⟩ := rrL_pre (rr n) m _ _ _ h
        have hx := hg ⟨strOfNums nl, kv, n3, s3, t3⟩ (by rw [hq]; simp)
        have hl2 := sub_len h1 h2
        have hl3 := read_len (rr n) kv (r2, z2)
        rw [h3] at hl3
        have h5 : readP (parseP n) kv (r2, z2) = ((n3, s3, t3, o3), (r3, z3)) := by
          by_cases h7 : kv = 70
          · subst h7
            rw [read_70] at h3 ⊢
            simp only [Prod.mk.injEq] at h3
            obtain ⟨⟨a1, a2, a3, a4⟩, a5⟩ := h3
            have h8 := good_70 (rowsP n) _ hx rfl
            have h9 := tx_len 4 (r2, z2)
            simp only at h9
            have := hQ (tx 4 (r2, z2)).1 t3 (by omega) (by rw [← a3, ← ho, ← a4]) h8
            rw [this, a1, a2, ← a5, ho]
          · rw [read_other (parseP n) (rr n) kv _ h7, h3]
        rw [parseL_step (parseP n) m b out hb h1 h2 h5, if_pos ⟨ho, hz⟩]
        exact to_parse n hQ m r3 _ l (by simp only at hl3; omega) h hg
      · simp at h
theorem to_rr (n : Nat) (hQ : ∀ s t, s.length ≤ 2000 → parseP n s = (t, true) → (rowsP n t).2 = true → rr n s = (t, true)) : ∀ (m : Nat) (b : List Int) (out l : List S24), b.length ≤ 2000 → parseL (parseP n) m b out = (l, true) → (∀ x ∈ l, good (valP (rowsP n)) x) → rrL (rr n) m b out = (l, true)
  | 0, _, _, _, _, h, _ => by simp [parseL] at h
  | m + 1, b, out, l, hbl, h, hg => by
    by_cases hb : b = []
    · subst hb
      rw [parseL_nil] at h
      rw [rrL_nil]
      exact h
    · obtain ⟨nl, r, z, kv, r2, z2, n3, s3, t3, o3, r3, z3, h1, h2, h3, _⟩ := rrL_eq (parseP n) m b out hb
      rw [parseL_step (parseP n) m b out hb h1 h2 h3] at h
      split at h
      · rename_i hc
        obtain ⟨ho, hz⟩ := hc
        obtain ⟨q, hq⟩ := parseL_pre (parseP n) m _ _ _ h
        have hx := hg ⟨strOfNums nl, kv, n3, s3, t3⟩ (by rw [hq]; simp)
        have hl2 := sub_len h1 h2
        have hl3 := read_len (parseP n) kv (r2, z2)
        rw [h3] at hl3
        have h5 : readP (rr n) kv (r2, z2) = ((n3, s3, t3, o3), (r3, z3)) := by
          by_cases h7 : kv = 70
          · subst h7
            rw [read_70] at h3 ⊢
            simp only [Prod.mk.injEq] at h3
            obtain ⟨⟨a1, a2, a3, a4⟩, a5⟩ := h3
            have h8 := good_70 (rowsP n) _ hx rfl
            have h9 := tx_len 4 (r2, z2)
            simp only at h9
            have := hQ (tx 4 (r2, z2)).1 t3 (by omega) (by rw [← a3, ← ho, ← a4]) h8
            rw [this, a1, a2, ← a5, ho]
          · rw [read_other (rr n) (parseP n) kv _ h7, h3]
        rw [rrL_step (rr n) m b out hb h1 h2 h5, if_pos ⟨good_known _ _ hx, ho, hz⟩]
        exact to_rr n hQ m r3 _ l (by simp only at hl3; omega) h hg
      · simp at h
/-- Where it may be a table, the document reads what the program reads. -/
theorem alike : ∀ (n : Nat) (b : List Int) (l : List S24), b.length ≤ 2000 → (rowsP n l).2 = true → (rr n b = (l, true) ↔ parseP n b = (l, true)) := by
  intro n
  induction n with
  | zero => intro b l _ h; simp [rowsP] at h
  | succ n ih =>
    intro b l hb h
    have hf := fine_of n l h
    have e : parseP (n + 1) b = parseL (parseP n) (b.length + 1) b [] := if_pos hb
    have e2 : rr (n + 1) b = rrL (rr n) (b.length + 1) b [] := rfl
    rw [e, e2]
    exact ⟨fun h => to_parse n (fun s t h1 h2 h3 => (ih s t h1 h3).1 h2) _ b [] l hb h hf.1, fun h => to_rr n (fun s t h1 h2 h3 => (ih s t h1 h3).2 h2) _ b [] l hb h hf.1⟩
theorem tx_eq {n : Nat} {s : List Int} {a r : List Int} (h : tx n (s, false) = (a, r, false)) : n + a.length + r.length = s.length := by
  unfold tx at h
  rw [if_neg (by simp)] at h
  split at h
  · simp at h
  · split at h
    · simp at h
    · rename_i h1 h2
      simp only [Prod.mk.injEq, and_true] at h
      obtain ⟨rfl, rfl⟩ := h
      simp only [List.length_take, List.length_drop]
      simp only at h1 h2
      omega
theorem tx_bad {n : Nat} {s : List Int} {z z2 : Bool} {a r : List Int} (h : tx n (s, z) = (a, r, z2)) (hz : z2 = false) : z = false := by
  cases z with
  | false => rfl
  | true => simp [tx] at h; rw [hz] at h; simp at h
theorem nm_eq {n : Nat} {s : List Int} {v : Int} {r : List Int} {z : Bool} (h : nm n (s, z) = (v, r, false)) : z = false ∧ n + r.length = s.length := by
  cases z with
  | true => simp [nm] at h
  | false =>
    unfold nm at h
    rw [if_neg (by simp)] at h
    split at h
    · simp at h
    · rename_i h1
      simp only [Prod.mk.injEq, and_true] at h
      obtain ⟨_, rfl⟩ := h
      simp only at h1
      simp only [List.length_drop]
      exact ⟨by first | rfl | trivial, by omega⟩
/-- What a field's value has consumed. -/
theorem read_eats (n : Nat) (hW : ∀ s t, rr n s = (t, true) → (refP n t).length ≤ s.length) (kv : Int) (hk : known kv = true) (nmv : ByteArray) (r2 : List Int) (z2 : Bool) {n3 : Int} {s3 : ByteArray} {t3 : List S24} {r3 : List Int}
    (h : readP (rr n) kv (r2, z2) = ((n3, s3, t3, true), (r3, false))) : z2 = false ∧ (refVal (refP n) ⟨nmv, kv, n3, s3, t3⟩).length + r3.length ≤ r2.length := by
  unfold readP at h
  unfold refVal
  by_cases c1 : kv = 116
  · rw [if_pos c1] at h
    simp only [Prod.mk.injEq] at h
    obtain ⟨_, h⟩ := h
    have := nm_eq (n := 1) (v := (nm 1 (r2, z2)).1) (r := r3) (s := r2) (z := z2) (by rw [← h])
    rw [if_pos c1, be_len]
    exact ⟨this.1, by omega⟩
  · rw [if_neg c1] at h ⊢
    by_cases c2 : kv = 73
    · rw [if_pos c2] at h
      simp only [Prod.mk.injEq] at h
      obtain ⟨_, h⟩ := h
      have := nm_eq (n := 4) (v := (nm 4 (r2, z2)).1) (r := r3) (s := r2) (z := z2) (by rw [← h])
      rw [if_pos c2, be_len]
      exact ⟨this.1, by omega⟩
    · rw [if_neg c2] at h ⊢
      by_cases c3 : kv = 108
      · rw [if_pos c3] at h
        simp only [Prod.mk.injEq] at h
        obtain ⟨_, h⟩ := h
        have := nm_eq (n := 8) (v := (nm 8 (r2, z2)).1) (r := r3) (s := r2) (z := z2) (by rw [← h])
        rw [if_pos c3, be_len]
        exact ⟨this.1, by omega⟩
      · rw [if_neg c3] at h ⊢
        by_cases c4 : kv = 83
        · rw [if_pos c4] at h
          simp only [Prod.mk.injEq] at h
          obtain ⟨⟨_, h5, _, _⟩, h⟩ := h
          have hz := tx_bad (n := 4) (s := r2) (z := z2) (a := (tx 4 (r2, z2)).1) (r := r3) (z2 := false) (by rw [← h]) rfl
          subst hz
          have := tx_eq (n := 4) (s := r2) (a := (tx 4 (r2, false)).1) (r := r3) (by rw [← h])
          rw [if_pos c4, List.length_append, be_len, bytesOf_len]
          simp only
          rw [← h5, str_size]
          exact ⟨by first | rfl | trivial, by omega⟩
        · rw [if_neg c4] at h ⊢
          by_cases c5 : kv = 70
          · rw [if_pos c5] at h
            simp only [Prod.mk.injEq] at h
            obtain ⟨⟨_, _, h5, h6⟩, h⟩ := h
            have hz := tx_bad (n := 4) (s := r2) (z := z2) (a := (tx 4 (r2, z2)).1) (r := r3) (z2 := false) (by rw [← h]) rfl
            subst hz
            have := tx_eq (n := 4) (s := r2) (a := (tx 4 (r2, false)).1) (r := r3) (by rw [← h])
            have hw := hW (tx 4 (r2, false)).1 t3 (by rw [← h5, ← h6])
            rw [if_pos c5, List.length_append, be_len]
            simp only
            exact ⟨by first | rfl | trivial, by omega⟩
          · rw [if_neg c5] at h ⊢
            simp only [Prod.mk.injEq] at h
            obtain ⟨_, rfl, rfl⟩ := h
            exact ⟨rfl, by simp⟩
theorem rrL_len (n : Nat) (hW : ∀ s t, rr n s = (t, true) → (refP n t).length ≤ s.length) : ∀ (m : Nat) (b : List Int) (out l : List S24), rrL (rr n) m b out = (l, true) → (l.flatMap (refRow (refP n))).length ≤ (out.flatMap (refRow (refP n))).length + b.length
  | 0, _, _, _, h => by simp [rrL] at h
  | m + 1, b, out, l, h => by
    by_cases hb : b = []
    · subst hb
      rw [rrL_nil] at h
      simp only [Prod.mk.injEq, and_true] at h
      rw [h]
      simp
    · obtain ⟨nl, r, z, kv, r2, z2, n3, s3, t3, o3, r3, z3, h1, h2, h3, h4⟩ := rrL_eq (rr n) m b out hb
      rw [h4] at h
      split at h
      · rename_i hc
        obtain ⟨hk, rfl, rfl⟩ := hc
        obtain ⟨hz, he⟩ := read_eats n hW kv hk (strOfNums nl) r2 z2 h3
        subst hz
        obtain ⟨hz, he2⟩ := nm_eq h2
        subst hz
        have he3 := tx_eq h1
        have := rrL_len n hW m r3 _ l h
        rw [List.flatMap_append, List.flatMap_cons, List.flatMap_nil, List.append_nil, List.length_append, refRow_len] at this
        simp only at this
        rw [str_size] at this
        omega
      · simp at h
theorem rr_len : ∀ (n : Nat) (b : List Int) (l : List S24), rr n b = (l, true) → (refP n l).length ≤ b.length
  | 0, b, l, h => by simp [refP]
  | n + 1, b, l, h => by
    have h : rrL (rr n) (b.length + 1) b [] = (l, true) := h
    have := rrL_len n (rr_len n) _ b [] l h
    simpa [refP] using this
def short1 (n : Nat) (x : S24) : Prop := (x.f0.size ≤ 1000000000 ∧ x.f3.size ≤ 1000000000) ∧ short n x.f4
theorem read_short1 (Q : List Int → List S24 × Bool) (n : Nat) (hQ : ∀ b, b.length ≤ 100000 → short n (Q b).1) (k : Int) (s : List Int × Bool) (hl : s.1.length ≤ 100000) : (readP Q k s).1.2.1.size ≤ 1000000000 ∧ short n (readP Q k s).1.2.2.1 := by
  have h0 : short n [] := by cases n <;> simp [short]
  have hz : (⟨#[]⟩ : ByteArray).size = 0 := rfl
  have h4 := tx_len 4 s
  unfold readP
  (repeat' split) <;> first | exact ⟨by rw [hz]; omega, h0⟩ | exact ⟨by rw [hz]; omega, hQ _ (by omega)⟩ | exact ⟨by rw [str_size]; omega, h0⟩
theorem rrL_short (Q : List Int → List S24 × Bool) (n : Nat) (hQ : ∀ b, b.length ≤ 100000 → short n (Q b).1) : ∀ (m : Nat) (b : List Int) (out : List S24), b.length ≤ 100000 → (∀ x ∈ out, short1 n x) → (∀ x ∈ (rrL Q m b out).1, short1 n x) ∧ (rrL Q m b out).1.length ≤ out.length + b.length
  | 0, _, _, _, _ => by simp [rrL]
  | m + 1, b, out, hb, ho => by
    by_cases hbn : b = []
    · subst hbn
      rw [rrL_nil]
      exact ⟨ho, by simp⟩
    · obtain ⟨nl, r, z, kv, r2, z2, n3, s3, t3, o3, r3, z3, h1, h2, h3, h4⟩ := rrL_eq Q m b out hbn
      rw [h4]
      split
      · have e1 := tx_len 1 (b, false)
        have e0 := tx_less 1 (b, false) (by omega) (List.length_pos_iff.2 hbn)
        have e2 := nm_len 1 (r, z)
        have e3 := read_len Q kv (r2, z2)
        have e4 := read_short1 Q n hQ kv (r2, z2) (by have := sub_len h1 h2; simp only; omega)
        rw [h1] at e1 e0
        rw [h2] at e2
        rw [h3] at e3 e4
        simp only at e0 e1 e2 e3 e4
        have := rrL_short Q n hQ m r3 (out ++ [⟨strOfNums nl, kv, n3, s3, t3⟩]) (by omega) (fun y hy => by
          rcases List.mem_append.1 hy with hy | hy
          · exact ho y hy
          · rw [List.mem_singleton.1 hy]
            exact ⟨⟨by rw [str_size]; omega, e4.1⟩, e4.2⟩)
        refine ⟨this.1, ?_⟩
        have h5 := this.2
        rw [List.length_append, List.length_singleton] at h5
        omega
      · exact ⟨by simp, by simp⟩
theorem rr_short : ∀ (n : Nat) (b : List Int), b.length ≤ 100000 → short n (rr n b).1
  | 0, b, _ => trivial
  | n + 1, b, hb => by
    have h := rrL_short (rr n) n (rr_short n) (b.length + 1) b [] hb (by simp)
    exact ⟨by have := h.2; simp only [List.length_nil] at this; show (rrL (rr n) (b.length + 1) b []).1.length ≤ _; omega, h.1⟩
/-- What Parse answers. -/
def PA (b : List Int) : List S24 × Bool := if (parseP 8 b).2 = true ∧ (rowsP 8 (parseP 8 b).1).2 = true then ((parseP 8 b).1, true) else ([], false)
theorem readTable_f (b : List Int) (ho : Oct b) (hl : b.length ≤ 100000) : ∃ k, zfD.f k b = some (PA b) := by
  by_cases hc : b.length ≤ 2000
  · obtain ⟨k1, h1⟩ := read_f 8 b 1 (by omega) (by omega) (by omega) ho hl
    obtain ⟨l, o, hr⟩ : ∃ l o, rr 8 b = (l, o) := ⟨_, _, rfl⟩
    rw [hr] at h1
    cases o with
    | false =>
      refine ⟨k1, ?_⟩
      unfold zfD.f
      rw [if_neg (by omega), h1, Option.bind_some, if_neg (by simp)]
      unfold PA
      rw [if_neg]
      rintro ⟨h2, h3⟩
      have := (alike 8 b (parseP 8 b).1 hc h3).2 (by rw [← h2])
      rw [hr] at this
      simp at this
    | true =>
      have hlen := rr_len 8 b l hr
      have hsh := rr_short 8 b hl
      rw [hr] at hsh
      obtain ⟨k2, h2⟩ := tableOk_f l hsh (fun _ => by omega)
      have e1 := up (fun k => zfR.mono _ _ k) h1 k2
      have e2 := up (fun k => zfO.mono _ k) h2 k1
      refine ⟨k1 + k2, ?_⟩
      unfold zfD.f
      rw [if_neg (by omega), e1, Option.bind_some, if_pos rfl, show k1 + k2 = k2 + k1 by omega, e2, Option.bind_some]
      unfold PA
      by_cases h3 : (rowsP 8 l).2 = true
      · have h4 := (alike 8 b l hc h3).1 hr
        rw [if_pos h3, h4, if_pos ⟨rfl, h3⟩]
      · rw [if_neg h3, if_neg]
        rintro ⟨h5, h6⟩
        have := (alike 8 b (parseP 8 b).1 hc h6).2 (by rw [← h5])
        rw [hr] at this
        simp only [Prod.mk.injEq, and_true] at this
        rw [← this] at h6
        exact h3 h6
  · refine ⟨0, ?_⟩
    unfold zfD.f
    rw [if_pos (by omega)]
    unfold PA
    have hp : (parseP 8 b).2 = false := by
      show (if b.length ≤ 2000 then _ else (([] : List S24), false)).2 = false
      rw [if_neg hc]
    rw [if_neg (fun h => by rw [hp] at h; simp at h)]
end Tb
end Go.Proofs.Ytfhaffpegncdiaa.PT
/-
What comes in as a table of fields, opened at whatever depth.
-/
namespace Go.Proofs.Ytfhaffpegncdiaa.PT
open Go.RowKit Go.Proofs.YtfhaffpegncdiaaW.PrintWords Go.Proofs.YtfhaffpegncdiaaW.PrintLast
set_option linter.unusedVariables false
/-- What is known of a field that came in. -/
inductive ok24 : S24 → Prop
  | mk (x : S24) : x.f0.size ≤ maxLen → (Lit.int .u8 x.f1).wf = true → (Lit.int .i64 x.f2).wf = true → x.f3.size ≤ maxLen → x.f4.length ≤ maxLen → (∀ y, y ∈ x.f4 → ok24 y) → ok24 x
end Go.Proofs.Ytfhaffpegncdiaa.PT
/-
Small of the statements of tables: it answers, and what it lets in has short texts; numbers of what came in.
-/
namespace Go.Proofs.Ytfhaffpegncdiaa.PT
open Go.RowKit Go.Proofs.Ytfhaffpegncdiaa.Pure Go.Proofs.YtfhaffpegncdiaaW.PrintWords Go.Proofs.YtfhaffpegncdiaaW.PrintLast Go.Proofs.YtfhaffpegncdiaaW.PrintMore
set_option linter.unusedVariables false
set_option linter.unusedSimpArgs false
namespace Tb
/-- Small enough, n levels deep. -/
def Sm : Nat → List S24 → Prop
  | 0, _ => False
  | n + 1, l => l.length ≤ 30 ∧ ∀ x ∈ l, x.f0.size ≤ 300 ∧ x.f3.size ≤ 3000 ∧ Sm n x.f4
theorem tame_Sm : ∀ (m n : Nat) (l : List S24), Sm n l → tame m l = true
  | 0, _, _, _ => by simp [tame]
  | m + 1, 0, _, h => h.elim
  | m + 1, n + 1, l, h => tame_of (fun x hx => by
    obtain ⟨h1, h2, h3⟩ := h.2 x hx
    exact ⟨⟨by omega, by omega⟩, tame_Sm m n x.f4 h3⟩)
theorem small_l0 (n : Nat) (l : List S24) (a1 : Int) (hl : l.length ≤ 30) (hs : ∀ x ∈ l, ∃ k b, zfS.f k x.f4 (wrap64 (a1 + 1)) = some b ∧ (b = true → Sm n x.f4)) :
    ∀ (d i : Nat), i + d = l.length → ∃ k b, zfS.l0 k l a1 (i : Int) = some b ∧ (b = true → ∀ x ∈ l.drop i, x.f0.size ≤ 300 ∧ x.f3.size ≤ 3000 ∧ Sm n x.f4) := by
  intro d
  induction d with
  | zero =>
    intro i hi
    refine ⟨1, true, ?_, fun _ => ?_⟩
    · simp only [zfS.l0]
      rw [if_neg (by omega)]
    · rw [List.drop_eq_nil_of_le (by omega)]; simp
  | succ d ih =>
    intro i hi
    have hx := mem24 l (i : Int) (by omega) (by omega)
    have hd := Tb.drop24 l i (by omega)
    have hw : wrap64 ((i : Int) + 1) = ((i + 1 : Nat) : Int) := by unfold wrap64; omega
    obtain ⟨k1, b1, h1, g1⟩ := hs _ hx
    obtain ⟨k2, b2, h2, g2⟩ := ih (i + 1) (by omega)
    have e1 := Tb.up (fun k => zfS.mono _ _ k) h1 k2
    have e2 := Tb.up (fun k => (zfS.mono_l k).2.2 l a1 ((i + 1 : Nat) : Int)) h2 k1
    rw [Nat.add_comm k2 k1] at e2
    have hx0 : rd_T24 l (i : Int) ∈ l.drop i := by rw [hd]; simp
    by_cases c1 : ((rd_T24 l (i : Int)).f0.size : Int) > 300
    · refine ⟨1, false, ?_, by simp⟩
      simp only [zfS.l0]
      rw [if_pos (by omega), if_pos (by omega), if_pos c1]
    · by_cases c2 : ((rd_T24 l (i : Int)).f3.size : Int) > 3000
      · refine ⟨1, false, ?_, by simp⟩
        simp only [zfS.l0]
        rw [if_pos (by omega), if_pos (by omega), if_neg c1, if_pos c2]
      · cases b1 with
        | false =>
          refine ⟨k1 + k2 + 1, false, ?_, by simp⟩
          simp only [zfS.l0]
          rw [if_pos (by omega), if_pos (by omega), if_neg c1, if_neg c2, e1, Option.bind_some, if_neg (by simp)]
        | true =>
          refine ⟨k1 + k2 + 1, b2, ?_, fun h y hy => ?_⟩
          · simp only [zfS.l0]
            rw [if_pos (by omega), if_pos (by omega), if_neg c1, if_neg c2, e1, Option.bind_some, if_pos rfl, hw]
            exact e2
          · rw [hd] at hy
            rcases List.mem_cons.1 hy with rfl | hy
            · exact ⟨by omega, by omega, g1 rfl⟩
            · exact g2 h y hy
theorem small_f : ∀ (n : Nat) (l : List S24) (a1 : Int), 1 ≤ a1 → (13 - a1).toNat = n → ∃ k b, zfS.f k l a1 = some b ∧ (b = true → Sm n l) := by
  intro n
  induction n with
  | zero =>
    intro l a1 h1 hn
    refine ⟨2, false, ?_, by simp⟩
    simp only [zfS.f, zfS.j0]
    rw [decide_eq_true (by omega : a1 > 12)]
    split <;> rfl
  | succ n ih =>
    intro l a1 h1 hn
    by_cases hl : l.length ≤ 30
    · have hw : wrap64 (a1 + 1) = a1 + 1 := by unfold wrap64; omega
      obtain ⟨k, b, hk, hb⟩ := small_l0 n l a1 hl (fun x _ => by rw [hw]; exact ih x.f4 (a1 + 1) (by omega) (by omega)) l.length 0 (by omega)
      refine ⟨k + 2, b, ?_, fun h => ⟨hl, by have := hb h; rwa [List.drop_zero] at this⟩⟩
      simp only [zfS.f, zfS.j0]
      rw [if_neg (by omega), decide_eq_false (by omega : ¬ a1 > 12), if_neg (by simp)]
      exact hk
    · refine ⟨2, false, ?_, by simp⟩
      simp only [zfS.f, zfS.j0]
      rw [if_pos (by omega)]
      simp
end Tb
end Go.Proofs.Ytfhaffpegncdiaa.PT
/-
A table of fields that came in: its fields' bulk is not above the reading's.
-/
namespace Go.Proofs.Ytfhaffpegncdiaa.PT
open Go.RowKit Go.Proofs.Ytfhaffpegncdiaa.Pure Go.Proofs.YtfhaffpegncdiaaW.PrintWords Go.Proofs.YtfhaffpegncdiaaW.PrintLast
set_option linter.unusedVariables false
set_option linter.unusedSimpArgs false
namespace Tb
/-- A field's bulk, n levels deep. -/
def bkF : Nat → S24 → Nat
  | 0, _ => 0
  | n + 1, x => 6 + x.f0.size + x.f3.size + (x.f4.map (bkF n)).sum
theorem ref_bulk : ∀ (n : Nat) (l : List S24), (refP n l).length ≤ 2 * (l.map (bkF n)).sum
  | 0, l => by simp [refP]
  | n + 1, l => by
    show (l.flatMap (refRow (refP n))).length ≤ _
    induction l with
    | nil => simp
    | cons x l ih =>
      have h := ref_bulk n x.f4
      have hv : (refVal (refP n) x).length ≤ 8 + x.f3.size + 2 * (x.f4.map (bkF n)).sum := by
        unfold refVal
        (repeat' split) <;> simp only [List.length_append, be_len, bytesOf_len, List.length_nil] <;> omega
      have hb : bkF (n + 1) x = 6 + x.f0.size + x.f3.size + (x.f4.map (bkF n)).sum := rfl
      rw [List.flatMap_cons, List.length_append, refRow_len, List.map_cons, List.sum_cons, hb]
      omega
/-- A row's elements opened, each with what is known of it and of its reading. -/
theorem row_at2 {P : Program} {e : TypeId} {α : Type} {d : Kd α} {H : Type} {ok : α → DataW H → Prop} (enc : TypeId × Value → H) (w : World) (a : Addr) (m : Nat) (hs : d.sz = P.cellsOf e) (h : ∀ cs x, DataW.trod enc P w 0 (fun _ => true) true m e cs = some x → ∃ a, d.K w a cs ∧ ok a x.1) :
    ∀ (len : Nat) (elems : List (DataW H × List MemPlace)), elems.length = len →
      (∀ i, i < len → (w.cells? 0 (a.add (i * P.cellsOf e)) (P.cellsOf e)).bind (DataW.trod enc P w 0 (fun _ => true) true m e) = elems[i]?) →
      ∃ xs : List α, xs.length = len ∧ (∀ (j : Nat) (p : α) (x : DataW H × List MemPlace), xs[j]? = some p → elems[j]? = some x → ok p x.1) ∧ ∀ j p, xs[j]? = some p → ∃ c, c.length = d.sz ∧ d.K w p c ∧ ∀ i u, c[i]? = some u → w.cell? ((a.add (j * d.sz)).add i) = some u := by
  intro len
  induction len with
  | zero => intro elems _ _; exact ⟨[], rfl, by simp, by simp⟩
  | succ len ih =>
    intro elems hl he
    obtain ⟨xs, hx, hok, hc⟩ := ih (elems.take len) (by rw [List.length_take]; omega) (fun i hi => by
      rw [he i (by omega), List.getElem?_take, if_pos hi])
    have h1 := he len (by omega)
    rw [List.getElem?_eq_getElem (by omega)] at h1
    obtain ⟨cs, h2, h3⟩ := Option.bind_eq_some_iff.1 h1
    obtain ⟨y, hK, hy⟩ := h cs _ h3
    obtain ⟨hcl, hcc⟩ := Opens.cells_of h2
    refine ⟨xs ++ [y], by simp [hx], ?_, ?_⟩
    · intro j p x hj he2
      by_cases hjl : j < xs.length
      · rw [List.getElem?_append_left hjl] at hj
        exact hok j p x hj (by rw [List.getElem?_take, if_pos (by omega)]; exact he2)
      · have hj2 : j = len := by
          have := (List.getElem?_eq_some_iff.1 hj).1
          simp at this; omega
        subst hj2
        have e1 : p = y := by
          rw [List.getElem?_append_right (by omega), hx] at hj
          simpa using hj.symm
        rw [List.getElem?_eq_getElem (by omega)] at he2
        have e2 := Option.some.inj he2
        rw [e1, ← e2]
        exact hy
    · intro j p hj
      by_cases hjl : j < xs.length
      · rw [List.getElem?_append_left hjl] at hj
        exact hc j p hj
      · have hj2 : j = len := by
          have := (List.getElem?_eq_some_iff.1 hj).1
          simp at this; omega
        subst hj2
        have : p = y := by
          rw [List.getElem?_append_right (by omega), hx] at hj
          simpa using hj.symm
        subst this
        exact ⟨cs, by rw [hcl, hs], hK, fun i u hi => by rw [hs]; exact hcc i u hi⟩
theorem sum_le {α H : Type} (f : α → Nat) : ∀ (xs : List α) (es : List (DataW H × List MemPlace)), xs.length = es.length → (∀ (j : Nat) (p : α) (x : DataW H × List MemPlace), xs[j]? = some p → es[j]? = some x → f p ≤ Rows.uptoBulk x.1) → (xs.map f).sum ≤ Rows.uptoBulkAll (es.map (·.1))
  | [], [], _, _ => by simp [Rows.uptoBulkAll]
  | [], _ :: _, h, _ => by simp at h
  | _ :: _, [], h, _ => by simp at h
  | x :: xs, y :: es, hl, h => by
    have h0 := h 0 x y rfl rfl
    have := sum_le f xs es (by simpa using hl) (fun j p z h1 h2 => h (j + 1) p z (by simpa using h1) (by simpa using h2))
    simp only [List.map_cons, List.sum_cons, Rows.uptoBulkAll]
    omega
/-- A field that came in, with its bulk. -/
theorem field_at {H : Type} (enc : TypeId × Value → H) (w : World) : ∀ (fuel : Nat) (cs : List Value) (x : DataW H × List MemPlace), DataW.trod enc Try.prog w 0 (fun _ => true) true fuel 24 cs = some x → ∃ a : S24, k24.K w a cs ∧ ok24 a ∧ ∀ n, bkF n a ≤ Rows.uptoBulk x.1 := by
  intro fuel
  induction fuel using Nat.strongRecOn with
  | _ fuel ih =>
  intro cs x hx
  obtain ⟨xs, n, hn, hxx, hl, hxl, hf⟩ := DataW.trod_struct Try.underlying24 hx
  have c9 : Try.prog.cellsOf 9 = 1 := by kernel_rfl
  have c5 : Try.prog.cellsOf 5 = 1 := by kernel_rfl
  have c2 : Try.prog.cellsOf 2 = 1 := by kernel_rfl
  have c22 : Try.prog.cellsOf 22 = 1 := by kernel_rfl
  have c24 : Try.prog.cellsOf 24 = 5 := by kernel_rfl
  rw [c24] at hl
  obtain ⟨v0, v1, v2, v3, v4, rfl⟩ : ∃ v0 v1 v2 v3 v4, cs = [v0, v1, v2, v3, v4] := by
    match cs, hl with
    | [v0, v1, v2, v3, v4], _ => exact ⟨v0, v1, v2, v3, v4, rfl⟩
  have hxl : xs.length = 5 := hxl
  obtain ⟨x0, x1, x2, x3, x4, rfl⟩ : ∃ x0 x1 x2 x3 x4, xs = [x0, x1, x2, x3, x4] := by
    match xs, hxl with
    | [x0, x1, x2, x3, x4], _ => exact ⟨x0, x1, x2, x3, x4, rfl⟩
  have f0 : DataW.trod enc Try.prog w 0 (fun _ => true) true n 9 (([v0, v1, v2, v3, v4].drop 0).take (Try.prog.cellsOf 9)) = some x0 := hf 0 _ rfl
  have f1 : DataW.trod enc Try.prog w 0 (fun _ => true) true n 5 (([v0, v1, v2, v3, v4].drop 1).take (Try.prog.cellsOf 5)) = some x1 := hf 1 _ rfl
  have f2 : DataW.trod enc Try.prog w 0 (fun _ => true) true n 2 (([v0, v1, v2, v3, v4].drop 2).take (Try.prog.cellsOf 2)) = some x2 := hf 2 _ rfl
  have f3 : DataW.trod enc Try.prog w 0 (fun _ => true) true n 9 (([v0, v1, v2, v3, v4].drop 3).take (Try.prog.cellsOf 9)) = some x3 := hf 3 _ rfl
  have f4 : DataW.trod enc Try.prog w 0 (fun _ => true) true n 22 (([v0, v1, v2, v3, v4].drop 4).take (Try.prog.cellsOf 22)) = some x4 := hf 4 _ rfl
  simp only [c9, c5, c2, c22, List.drop_zero, List.drop_succ_cons, List.take_succ_cons, List.take_zero] at f0 f1 f2 f3 f4
  obtain ⟨s0, h0, e0, o0⟩ := DataW.trod_string Try.underlying9 f0
  obtain ⟨s1, h1, e1, o1⟩ := DataW.trod_int Try.underlying5 f1
  obtain ⟨s2, h2, e2, o2⟩ := DataW.trod_int Try.underlying2 f2
  obtain ⟨s3, h3, e3, o3⟩ := DataW.trod_string Try.underlying9 f3
  simp only [List.cons.injEq, and_true] at h0 h1 h2 h3
  subst h0 h1 h2 h3
  have hsz : ∀ s : ByteArray, s.data.toList.length = s.size := fun s => by rw [Array.length_toList]; rfl
  rcases DataW.trod_slice Try.underlying22 f4 with ⟨he, e4⟩ | ⟨a, len, cap, elems, rest, m, hm, he, e4, _, hlc, hcm, hel, hee, _⟩
  · simp only [List.cons.injEq, and_true] at he
    subst he
    refine ⟨⟨s0, s1, s2, s3, []⟩, k24_mk w ⟨s0, s1, s2, s3, []⟩ (A4 := none) (c4 := 0) (Nat.le_refl _) (Kd.C_nil k24 w), ok24.mk _ o0 o1 o2 o3 (Nat.zero_le _) (by simp), fun j => ?_⟩
    cases j with
    | zero => exact Nat.zero_le _
    | succ j =>
      rw [hxx]
      simp only [bkF, e0, e1, e2, e3, e4, List.map_cons, List.map_nil, Rows.uptoBulk, Rows.uptoBulkAll, hsz, List.sum_nil]
      omega
  · simp only [List.cons.injEq, and_true] at he
    subst he
    obtain ⟨ys, hyl, hok, hcell⟩ := row_at2 enc w a m (d := k24) (e := 24) (ok := fun y dy => ok24 y ∧ ∀ n, bkF n y ≤ Rows.uptoBulk dy) c24.symm (fun cs x h => ih m (by omega) cs x h) len elems hel hee
    have hC : k24.C w (some a) ys.length ys := by
      refine ⟨rfl, by simp only [maxLen] at hcm; omega, fun hn => ⟨a, rfl, fun j p hj => ?_⟩⟩
      obtain ⟨c, q1, q2, q3⟩ := hcell j p hj
      exact ⟨c, q1, q2, fun i u hi => by
        have := q3 i u hi
        rwa [add_add] at this⟩
    have hok24 : ∀ y ∈ ys, ok24 y := fun y hy => by
      obtain ⟨j, hj, rfl⟩ := List.getElem_of_mem hy
      exact (hok j ys[j] elems[j] (List.getElem?_eq_getElem hj) (List.getElem?_eq_getElem (by omega))).1
    subst hyl
    refine ⟨⟨s0, s1, s2, s3, ys⟩, k24_mk w ⟨s0, s1, s2, s3, ys⟩ (by omega) hC, ok24.mk _ o0 o1 o2 o3 (by show ys.length ≤ maxLen; omega) hok24, fun j => ?_⟩
    cases j with
    | zero => exact Nat.zero_le _
    | succ j =>
      have hsum := sum_le (bkF j) ys elems hel.symm (fun i p x h1 h2 => (hok i p x h1 h2).2 j)
      rw [hxx]
      simp only [bkF, e0, e1, e2, e3, e4, List.map_cons, List.map_nil, Rows.uptoBulk, Rows.uptoBulkAll, hsz]
      omega
/-- A table that came in, with its bulk. -/
theorem table_at {H : Type} (enc : TypeId × Value → H) (w : World) (fuel : Nat) (A : Option Addr) (len cap : Nat) (x : DataW H × List MemPlace) (hx : DataW.trod enc Try.prog w 0 (fun _ => true) true fuel 22 [.slice A len cap] = some x) :
    ∃ l : List S24, len = l.length ∧ l.length ≤ cap ∧ Kd.C k24 w A l.length l ∧ (l.length ≤ maxLen ∧ ∀ x_ ∈ l, ok24 x_) ∧ ∀ n, (l.map (bkF n)).sum ≤ Rows.uptoBulk x.1 := by
  have c24 : Try.prog.cellsOf 24 = 5 := by kernel_rfl
  rcases DataW.trod_slice Try.underlying22 hx with ⟨he, e4⟩ | ⟨a, len', cap', elems, rest, m, hm, he, e4, _, hlc, hcm, hel, hee, _⟩
  · simp only [List.cons.injEq, and_true, Value.slice.injEq] at he
    obtain ⟨rfl, rfl, rfl⟩ := he
    exact ⟨[], rfl, Nat.le_refl _, Kd.C_nil k24 w, ⟨Nat.zero_le _, by simp⟩, fun n => by simp⟩
  · simp only [List.cons.injEq, and_true, Value.slice.injEq] at he
    obtain ⟨rfl, rfl, rfl⟩ := he
    obtain ⟨ys, hyl, hok, hcell⟩ := row_at2 enc w a m (d := k24) (e := 24) (ok := fun y dy => ok24 y ∧ ∀ n, bkF n y ≤ Rows.uptoBulk dy) c24.symm (fun cs x h => field_at enc w m cs x h) len elems hel hee
    subst hyl
    refine ⟨ys, rfl, hlc, ⟨rfl, by simp only [maxLen] at hcm; omega, fun hn => ⟨a, rfl, fun j p hj => ?_⟩⟩, ⟨by omega, fun y hy => ?_⟩, fun n => ?_⟩
    · obtain ⟨c, q1, q2, q3⟩ := hcell j p hj
      exact ⟨c, q1, q2, fun i u hi => by
        have := q3 i u hi
        rwa [add_add] at this⟩
    · obtain ⟨j, hj, rfl⟩ := List.getElem_of_mem hy
      exact (hok j ys[j] elems[j] (List.getElem?_eq_getElem hj) (List.getElem?_eq_getElem (by omega))).1
    · have hsum := sum_le (bkF n) ys elems hel.symm (fun i p x h1 h2 => (hok i p x h1 h2).2 n)
      rw [e4]
      simp only [Rows.uptoBulk]
      omega
end Tb
end Go.Proofs.Ytfhaffpegncdiaa.PT
/-
Masks of whole numbers, and what a rest comes to.
-/
namespace Go.Proofs.Ytfhaffpegncdiaa.Pure
open Go.RowKit Go.Proofs.Ytfhaffpegncdiaa.PT Go.Proofs.YtfhaffpegncdiaaW.PrintWords Go.Proofs.YtfhaffpegncdiaaW.PrintLast Go.Proofs.YtfhaffpegncdiaaW.PrintMore
set_option linter.unusedVariables false
set_option linter.unusedSimpArgs false
theorem and16 (x : Int) : 0 ≤ Go.bits .and .i64 x 65535 ∧ Go.bits .and .i64 x 65535 < 65536 := by
  unfold Go.bits
  have h1 : (BitVec.ofInt (IntKind.i64.bits) x &&& BitVec.ofInt (IntKind.i64.bits) 65535).toNat ≤ 65535 := by
    rw [BitVec.toNat_and]
    have : (BitVec.ofInt (IntKind.i64.bits) 65535).toNat = 65535 := by decide
    rw [this]
    exact Nat.and_le_right
  simp only []
  rw [IntKind.wrap_i64]
  omega
theorem tmod_in (x m : Int) (hx : 0 ≤ x) (hm : 0 < m) : 0 ≤ Int.tmod x m ∧ Int.tmod x m < m := ⟨Int.tmod_nonneg m hx, Int.tmod_lt_of_pos x hm⟩
end Go.Proofs.Ytfhaffpegncdiaa.Pure
