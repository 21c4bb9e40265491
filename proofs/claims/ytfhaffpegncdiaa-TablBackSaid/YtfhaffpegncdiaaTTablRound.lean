/-
What a table's octets are, in plain Lean; a table that may be is read as it was told.
Conditions: numbers as the machine has them.
-/
import Derived.Test.YtfhaffpegncdiaaTTablCount
import Derived.Test.YtfhaffpegncdiaaTTablOct
import Derived.Test.YtfhaffpegncdiaaTOctsTxt
namespace Go.Proofs.Ytfhaffpegncdiaa.PT
open Go.RowKit Go.Proofs.Ytfhaffpegncdiaa.Pure Go.Proofs.YtfhaffpegncdiaaW.PrintWords Go.Proofs.YtfhaffpegncdiaaW.PrintLast Go.Proofs.YtfhaffpegncdiaaW.PrintMore
set_option linter.unusedVariables false
set_option linter.unusedSimpArgs false
namespace Tb
/-- All rows' octets. -/
def encL (V : S24 → List Int × Bool) (l : List S24) : List Int := l.flatMap fun x => rowP x (V x).1
def key (x : S24) : List UInt8 := x.f0.data.toList
/-- A field that may be, but for those beside it. -/
def good (V : S24 → List Int × Bool) (x : S24) : Prop := (V x).2 = true ∧ 1 ≤ x.f0.size ∧ x.f0.size ≤ 128
/-- Fields that may be a table's. -/
def fine (V : S24 → List Int × Bool) (l : List S24) : Prop := (∀ x ∈ l, good V x) ∧ (l.map key).Nodup ∧ (encL V l).length ≤ 2000
theorem encL_cons (V : S24 → List Int × Bool) (x : S24) (l : List S24) : encL V (x :: l) = rowP x (V x).1 ++ encL V l := rfl
theorem encL_app (V : S24 → List Int × Bool) (l m : List S24) : encL V (l ++ m) = encL V l ++ encL V m := by unfold encL; rw [List.flatMap_append]
theorem rowsL_true (V : S24 → List Int × Bool) : ∀ (l : List S24) (out : List Int) (seen : List (List UInt8)), (∀ x ∈ l, good V x) → (l.map key).Nodup → (∀ x ∈ l, key x ∉ seen) → (out ++ encL V l).length ≤ 2000 → rowsL V l out seen = (out ++ encL V l, true)
  | [], out, seen, _, _, _, _ => by simp [rowsL, encL]
  | x :: l, out, seen, hg, hn, hs, hl => by
    obtain ⟨g1, g2, g3⟩ := hg x (by simp)
    have hl' : (out ++ rowP x (V x).1 ++ encL V l).length ≤ 2000 := by rw [List.append_assoc, ← encL_cons]; exact hl
    simp only [List.map_cons, List.nodup_cons] at hn
    unfold rowsL
    rw [if_pos ⟨g1, hs x (by simp), g2, g3⟩, if_pos (by rw [List.length_append] at hl'; omega)]
    rw [rowsL_true V l _ _ (fun y hy => hg y (by simp [hy])) hn.2 (fun y hy hm => ?_) hl', encL_cons, List.append_assoc]
    rcases List.mem_cons.1 hm with h | h
    · exact hn.1 (by rw [show key x = key y from h.symm]; exact List.mem_map_of_mem hy)
    · exact hs y (by simp [hy]) h
theorem rowsL_told (V : S24 → List Int × Bool) : ∀ (l : List S24) (out : List Int) (seen : List (List UInt8)), out.length ≤ 2000 → (rowsL V l out seen).2 = true → (∀ x ∈ l, good V x) ∧ (l.map key).Nodup ∧ (∀ x ∈ l, key x ∉ seen) ∧ (out ++ encL V l).length ≤ 2000
  | [], out, seen, ho, _ => by simp [encL]; exact ho
  | x :: l, out, seen, ho, h => by
    unfold rowsL at h
    by_cases hc : (V x).2 = true ∧ x.f0.data.toList ∉ seen ∧ 1 ≤ x.f0.size ∧ x.f0.size ≤ 128
    · rw [if_pos hc] at h
      by_cases hl : (out ++ rowP x (V x).1).length ≤ 2000
      · rw [if_pos hl] at h
        obtain ⟨h1, h2, h3, h4⟩ := rowsL_told V l _ _ hl h
        refine ⟨?_, ?_, ?_, ?_⟩
        · intro y hy
          rcases List.mem_cons.1 hy with rfl | hy
          · exact ⟨hc.1, hc.2.2⟩
          · exact h1 y hy
        · rw [List.map_cons, List.nodup_cons]
          refine ⟨fun hm => ?_, h2⟩
          obtain ⟨y, hy, e⟩ := List.mem_map.1 hm
          exact h3 y hy (by rw [e]; exact List.mem_cons.2 (.inl rfl))
        · intro y hy
          rcases List.mem_cons.1 hy with rfl | hy
          · exact hc.2.1
          · exact fun hm => h3 y hy (List.mem_cons_of_mem _ hm)
        · rw [encL_cons, ← List.append_assoc]; exact h4
      · rw [if_neg hl] at h; simp at h
    · rw [if_neg hc] at h; simp at h
theorem rowsL_fst (V : S24 → List Int × Bool) : ∀ (l : List S24) (out : List Int) (seen : List (List UInt8)), (rowsL V l out seen).2 = false → (rowsL V l out seen).1 = []
  | [], out, seen, h => by simp [rowsL] at h
  | x :: l, out, seen, h => by
    unfold rowsL at h ⊢
    split at h
    · rename_i hc
      rw [if_pos hc]
      split at h
      · rename_i hl
        rw [if_pos hl]
        exact rowsL_fst V l _ _ h
      · rename_i hl
        rw [if_neg hl]
    · rename_i hc
      rw [if_neg hc]
theorem rowP_len (x : S24) (v : List Int) : (rowP x v).length = 2 + x.f0.size + v.length := by
  unfold rowP
  simp [bytesOf_len]
  omega
theorem encL_ge (V : S24 → List Int × Bool) : ∀ l : List S24, 2 * l.length ≤ (encL V l).length
  | [] => by simp
  | x :: l => by
    have := encL_ge V l
    rw [encL_cons, List.length_append, rowP_len, List.length_cons]
    omega
/-- rows, told: just what is fine has octets. -/
theorem rowsP_fine (n : Nat) (l : List S24) (h : fine (valP (rowsP n)) l) : rowsP (n + 1) l = (encL (valP (rowsP n)) l, true) := by
  unfold rowsP
  have := encL_ge (valP (rowsP n)) l
  rw [if_pos (by have := h.2.2; omega), rowsL_true _ l [] [] h.1 h.2.1 (by simp) (by simpa using h.2.2)]
  rfl
theorem fine_of (n : Nat) (l : List S24) (h : (rowsP (n + 1) l).2 = true) : fine (valP (rowsP n)) l := by
  unfold rowsP at h
  split at h
  · obtain ⟨h1, h2, _, h4⟩ := rowsL_told _ l [] [] (by simp) h
    exact ⟨h1, h2, by simpa using h4⟩
  · simp at h
theorem rowsP_bad (n : Nat) (l : List S24) (h : ¬ fine (valP (rowsP n)) l) : rowsP (n + 1) l = ([], false) := by
  have h2 : (rowsP (n + 1) l).2 = false := by
    rw [Bool.eq_false_iff]
    exact fun e => h (fine_of n l e)
  refine Prod.ext ?_ h2
  unfold rowsP at h2 ⊢
  split at h2
  · rename_i hc
    rw [if_pos hc]
    exact rowsL_fst _ l _ _ h2
  · rename_i hc
    rw [if_neg hc]
/-- Numbers as the machine has them, n levels deep. -/
def rng : Nat → List S24 → Prop
  | 0, _ => True
  | n + 1, l => ∀ x ∈ l, (-9223372036854775808 ≤ x.f2 ∧ x.f2 ≤ 9223372036854775807) ∧ rng n x.f4
theorem nm_be (n : Nat) (v : Int) (rest : List Int) : nm n (be n v ++ rest, false) = (v % 256 ^ n, rest, false) := by
  have h := be_len n v
  unfold nm
  rw [if_neg (by simp), if_neg (by simp [h])]
  simp [List.take_append, List.drop_append, h, num_be]
theorem tx_be (n : Nat) (a rest : List Int) (hm : (a.length : Int) < 256 ^ n) : tx n (be n (a.length : Int) ++ (a ++ rest), false) = (a, rest, false) := by
  rw [← told_tx, txt_be n a.length a rest rfl hm]
  rfl
theorem be1 (v : Int) : [v % 256] = be 1 v := by simp [be]
theorem empty_of {s : ByteArray} (h : s.toList.isEmpty = true) : s = ⟨#[]⟩ := by
  have h1 : s.size = 0 := (nil_iff s).1 (List.isEmpty_iff.1 h)
  cases s with
  | mk d =>
    have : d.size = 0 := h1
    simp [Array.eq_empty_of_size_eq_zero this]
theorem bare_of {x : S24} (h : bare x = true) : x.f3 = ⟨#[]⟩ ∧ x.f4 = [] := by
  unfold bare at h
  simp only [Bool.and_eq_true, decide_eq_true_eq] at h
  exact ⟨empty_of h.1, List.length_eq_zero_iff.1 h.2⟩
theorem u64_of (v : Int) (n : Nat) (hn : n ≤ 8) : IntKind.u64.wrap v % 256 ^ n = v % 256 ^ n := by
  rw [IntKind.wrap_u64]
  have h : (18446744073709551616 : Int) = 256 ^ n * 256 ^ (8 - n) := by rw [← Int.pow_add, show n + (8 - n) = 8 by omega]; rfl
  rw [h, Int.emod_emod_of_dvd _ (Int.dvd_mul_right _ _)]
/-- A field's value is read as it was told. -/
theorem read_val (R : List S24 → List Int × Bool) (Q : List Int → List S24 × Bool) (x : S24) (rest : List Int) (hr : -9223372036854775808 ≤ x.f2 ∧ x.f2 ≤ 9223372036854775807) (h : (valP R x).2 = true) (hl : (valP R x).1.length ≤ 2000) (hQ : (R x.f4).2 = true → Q (R x.f4).1 = (x.f4, true)) :
    readP Q x.f1 ((valP R x).1 ++ rest, false) = ((x.f2, x.f3, x.f4, true), (rest, false)) := by
  unfold valP at h hl ⊢
  unfold readP
  by_cases c1 : x.f1 = 116
  · simp only [c1, if_true, Bool.and_eq_true, Bool.or_eq_true, decide_eq_true_eq] at h hl ⊢
    obtain ⟨e3, e4⟩ := bare_of h.1
    rw [be1, nm_be, e3, e4]
    have : wrap64 (x.f2 % 256 ^ 1) = x.f2 := by unfold wrap64; rcases h.2 with h | h <;> rw [h] <;> decide
    rw [this]
  · rw [if_neg c1] at h hl
    simp only [if_neg c1]
    by_cases c2 : x.f1 = 73
    · simp only [c2, if_true, Bool.and_eq_true, decide_eq_true_eq] at h hl ⊢
      obtain ⟨e3, e4⟩ := bare_of h.1
      rw [nm_be, e3, e4, u64_of _ 4 (by omega)]
      have : wrap64 (wrap32 (x.f2 % 256 ^ 4)) = x.f2 := by unfold wrap64 wrap32; have := h.2; omega
      rw [this]
    · rw [if_neg c2] at h hl
      simp only [if_neg c2]
      by_cases c3 : x.f1 = 108
      · simp only [c3, if_true] at h hl ⊢
        obtain ⟨e3, e4⟩ := bare_of h
        rw [nm_be, e3, e4, u64_of _ 8 (by omega)]
        have : wrap64 (x.f2 % 256 ^ 8) = x.f2 := by unfold wrap64; omega
        rw [this]
      · rw [if_neg c3] at h hl
        simp only [if_neg c3]
        by_cases c4 : x.f1 = 83
        · simp only [c4, if_true, Bool.and_eq_true, decide_eq_true_eq] at h hl ⊢
          have h2 : x.f4 = [] := List.length_eq_zero_iff.1 h.2.1
          have h3 := tx_be 4 (bytesOf x.f3) rest (by rw [bytesOf_len]; have := h.2.2; omega)
          rw [bytesOf_len] at h3
          rw [List.append_assoc, h3, str_bytesOf, h2, h.1]
        · rw [if_neg c4] at h hl
          simp only [if_neg c4]
          by_cases c5 : x.f1 = 70
          · simp only [c5, if_true, Bool.and_eq_true, decide_eq_true_eq] at h hl ⊢
            have h3 := tx_be 4 (R x.f4).1 rest (by rw [List.length_append, be_len] at hl; omega)
            rw [List.append_assoc, h3, hQ h.1, empty_of h.2.2, h.2.1]
          · rw [if_neg c5] at h hl
            simp only [if_neg c5]
            by_cases c6 : x.f1 = 86
            · simp only [c6, if_true, Bool.and_eq_true, decide_eq_true_eq] at h hl ⊢
              obtain ⟨e3, e4⟩ := bare_of h.2
              rw [e3, e4, h.1]
              rfl
            · rw [if_neg c6] at h
              simp at h
theorem kind_oct (R : List S24 → List Int × Bool) (x : S24) (h : (valP R x).2 = true) : 0 ≤ x.f1 ∧ x.f1 < 256 := by
  unfold valP at h
  (repeat' split at h) <;> first | omega | simp at h
/-- A row is read as it was told. -/
theorem parse_row (R : List S24 → List Int × Bool) (Q : List Int → List S24 × Bool) (x : S24) (rest : List Int) (out : List S24) (m : Nat) (hr : -9223372036854775808 ≤ x.f2 ∧ x.f2 ≤ 9223372036854775807) (h : good (valP R) x) (hl : (valP R x).1.length ≤ 2000) (hQ : (R x.f4).2 = true → Q (R x.f4).1 = (x.f4, true)) :
    parseL Q (m + 1) (rowP x (valP R x).1 ++ rest) out = parseL Q m rest (out ++ [x]) := by
  obtain ⟨g1, g2, g3⟩ := h
  have hk := kind_oct R x g1
  have e1 : rowP x (valP R x).1 ++ rest = be 1 ((bytesOf x.f0).length : Int) ++ (bytesOf x.f0 ++ (be 1 x.f1 ++ ((valP R x).1 ++ rest))) := by
    unfold rowP
    rw [bytesOf_len, ← be1, ← be1, show x.f1 % 256 = x.f1 by omega]
    simp [List.append_assoc]
  have e2 := tx_be 1 (bytesOf x.f0) (be 1 x.f1 ++ ((valP R x).1 ++ rest)) (by rw [bytesOf_len]; omega)
  have e3 := nm_be 1 x.f1 ((valP R x).1 ++ rest)
  rw [show x.f1 % 256 ^ 1 = x.f1 by omega] at e3
  have e4 := read_val R Q x rest hr g1 hl hQ
  have e5 : ∀ B : List Int, B ≠ [] → parseL Q (m + 1) B out = if (readP Q (nm 1 (tx 1 (B, false)).2).1 (nm 1 (tx 1 (B, false)).2).2).1.2.2.2 = true ∧ (readP Q (nm 1 (tx 1 (B, false)).2).1 (nm 1 (tx 1 (B, false)).2).2).2.2 = false then parseL Q m (readP Q (nm 1 (tx 1 (B, false)).2).1 (nm 1 (tx 1 (B, false)).2).2).2.1 (out ++ [⟨strOfNums (tx 1 (B, false)).1, (nm 1 (tx 1 (B, false)).2).1, (readP Q (nm 1 (tx 1 (B, false)).2).1 (nm 1 (tx 1 (B, false)).2).2).1.1, (readP Q (nm 1 (tx 1 (B, false)).2).1 (nm 1 (tx 1 (B, false)).2).2).1.2.1, (readP Q (nm 1 (tx 1 (B, false)).2).1 (nm 1 (tx 1 (B, false)).2).2).1.2.2.1⟩]) else ([], false) := fun B hB => (if_neg hB : (if B = [] then _ else _) = _)
  rw [e1, e5 _ (by simp [be])]
  simp only [e2, e3, e4]
  rw [if_pos (by simp), str_bytesOf]
  have ex : (⟨x.f0, x.f1, x.f2, x.f3, x.f4⟩ : S24) = x := by cases x; rfl
  rw [ex]
theorem val_le (V : S24 → List Int × Bool) {l : List S24} {x : S24} (hx : x ∈ l) : (V x).1.length ≤ (encL V l).length := by
  induction l with
  | nil => simp at hx
  | cons y l ih =>
    rw [encL_cons, List.length_append, rowP_len]
    rcases List.mem_cons.1 hx with rfl | hx
    · omega
    · have := ih hx; omega
theorem parse_rows (R : List S24 → List Int × Bool) (Q : List Int → List S24 × Bool) : ∀ (l : List S24) (out : List S24) (m : Nat), l.length < m → (∀ x ∈ l, -9223372036854775808 ≤ x.f2 ∧ x.f2 ≤ 9223372036854775807) → (∀ x ∈ l, good (valP R) x) → (encL (valP R) l).length ≤ 2000 → (∀ x ∈ l, (R x.f4).2 = true → Q (R x.f4).1 = (x.f4, true)) → parseL Q m (encL (valP R) l) out = (out ++ l, true)
  | [], out, m, hm, _, _, _, _ => by
    obtain ⟨m, rfl⟩ : ∃ k, m = k + 1 := ⟨m - 1, by simp at hm; omega⟩
    unfold parseL
    rw [if_pos (by simp [encL])]
    simp
  | x :: l, out, m, hm, hr, hg, hl, hQ => by
    obtain ⟨m, rfl⟩ : ∃ k, m = k + 1 := ⟨m - 1, by simp at hm; omega⟩
    have hx := val_le (valP R) (l := x :: l) (x := x) (by simp)
    rw [encL_cons, parse_row R Q x _ out m (hr x (by simp)) (hg x (by simp)) (by omega) (hQ x (by simp))]
    rw [parse_rows R Q l _ m (by simp at hm; omega) (fun y hy => hr y (by simp [hy])) (fun y hy => hg y (by simp [hy])) (by rw [encL_cons, List.length_append] at hl; omega) (fun y hy => hQ y (by simp [hy])), List.append_assoc]
    rfl
/-- A table that may be is read as it was told. -/
theorem round : ∀ (n : Nat) (l : List S24), rng n l → (rowsP n l).2 = true → parseP n (rowsP n l).1 = (l, true)
  | 0, l, _, h => by simp [rowsP] at h
  | n + 1, l, hr, h => by
    have hf := fine_of n l h
    rw [rowsP_fine n l hf]
    unfold parseP
    have h1 := encL_ge (valP (rowsP n)) l
    rw [if_pos hf.2.2, parse_rows (rowsP n) (parseP n) l [] _ (by simp; omega) (fun x hx => (hr x hx).1) hf.1 hf.2.2 (fun x hx h2 => round n x.f4 (hr x hx).2 h2)]
    rfl
theorem val_oct (R : List S24 → List Int × Bool) (x : S24) (hR : Oct (R x.f4).1) : Oct (valP R x).1 := by
  unfold valP
  (repeat' split) <;> first | exact be_oct _ _ | exact oct_nil | (rw [be1]; exact be_oct _ _) | exact oct_app (be_oct _ _) (oct_bytesOf _) | exact oct_app (be_oct _ _) hR
theorem encL_oct (R : List S24 → List Int × Bool) (hR : ∀ l, Oct (R l).1) : ∀ l : List S24, (∀ x ∈ l, good (valP R) x) → Oct (encL (valP R) l)
  | [], _ => oct_nil
  | x :: l, hg => by
    rw [encL_cons]
    refine oct_app ?_ (encL_oct R hR l (fun y hy => hg y (by simp [hy])))
    have hk := kind_oct R x (hg x (by simp)).1
    unfold rowP
    refine oct_app (oct_app ?_ ?_) (val_oct R x (hR _))
    · intro y hy
      rcases List.mem_cons.1 hy with rfl | hy
      · omega
      · exact oct_bytesOf _ y hy
    · intro y hy
      have : y = x.f1 := by simpa using hy
      omega
theorem rowsP_oct : ∀ (n : Nat) (l : List S24), Oct (rowsP n l).1
  | 0, _ => by simp [rowsP]; exact oct_nil
  | n + 1, l => by
    by_cases hf : fine (valP (rowsP n)) l
    · rw [rowsP_fine n l hf]; exact encL_oct _ (rowsP_oct n) l hf.1
    · rw [rowsP_bad n l hf]; exact oct_nil
end Tb
end Go.Proofs.Ytfhaffpegncdiaa.PT
