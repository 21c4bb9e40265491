/-
What the functions rows, parse of the package tabl and SameTable come to, in plain Lean: total functions on fields and octets.
Conditions: texts no longer than a bound (tame), octets that are octets, depths from one to nine.
-/
import Derived.Test.YtfhaffpegncdiaaTTablLib
namespace Go.Proofs.Ytfhaffpegncdiaa.PT
open Go.RowKit Go.Proofs.Ytfhaffpegncdiaa.Pure Go.Proofs.YtfhaffpegncdiaaW.PrintWords Go.Proofs.YtfhaffpegncdiaaW.PrintLast Go.Proofs.YtfhaffpegncdiaaW.PrintMore
set_option linter.unusedVariables false
set_option linter.unusedSimpArgs false
namespace Tb
/-- Neither a text nor a table. -/
def bare (x : S24) : Bool := x.f3.toList.isEmpty && decide (x.f4.length = 0)
/-- A field's octets behind its kind; R: a table's. -/
def valP (R : List S24 → List Int × Bool) (x : S24) : List Int × Bool :=
  if x.f1 = 116 then ([x.f2 % 256], bare x && (decide (x.f2 = 0) || decide (x.f2 = 1)))
  else if x.f1 = 73 then (be 4 (IntKind.u64.wrap x.f2), bare x && (decide (-2147483648 ≤ x.f2) && decide (x.f2 ≤ 2147483647)))
  else if x.f1 = 108 then (be 8 (IntKind.u64.wrap x.f2), bare x)
  else if x.f1 = 83 then (be 4 (x.f3.size : Int) ++ bytesOf x.f3, decide (x.f2 = 0) && (decide (x.f4.length = 0) && decide (x.f3.size ≤ 2000)))
  else if x.f1 = 70 then (be 4 ((R x.f4).1.length : Int) ++ (R x.f4).1, (R x.f4).2 && (decide (x.f2 = 0) && x.f3.toList.isEmpty))
  else if x.f1 = 86 then ([], decide (x.f2 = 0) && bare x)
  else ([], false)
/-- A row: the name behind its length, the kind, the value. -/
def rowP (x : S24) (v : List Int) : List Int := (((x.f0.size : Int) % 256 :: bytesOf x.f0) ++ [x.f1]) ++ v
/-- The rows behind what stands already; seen: the names ahead. -/
def rowsL (V : S24 → List Int × Bool) : List S24 → List Int → List (List UInt8) → List Int × Bool
  | [], out, _ => (out, true)
  | x :: l, out, seen =>
    if (V x).2 = true ∧ x.f0.data.toList ∉ seen ∧ 1 ≤ x.f0.size ∧ x.f0.size ≤ 128 then
      (if (out ++ rowP x (V x).1).length ≤ 2000 then rowsL V l (out ++ rowP x (V x).1) (x.f0.data.toList :: seen) else ([], false))
    else ([], false)
/-- A table's octets, n levels deep at most. -/
def rowsP : Nat → List S24 → List Int × Bool
  | 0, _ => ([], false)
  | n + 1, l => if l.length ≤ 2000 then rowsL (valP (rowsP n)) l [] [] else ([], false)
/-- No text is longer than any machine has room for, n levels deep. -/
def tame : Nat → List S24 → Bool
  | 0, _ => true
  | n + 1, l => l.all fun x => (decide (x.f0.size ≤ 1000000000) && decide (x.f3.size ≤ 1000000000)) && tame n x.f4
/-- A number of n octets off the reader; a text behind its length of n octets. -/
def nm (n : Nat) (s : List Int × Bool) : Int × List Int × Bool := if s.2 = true then (0, [], true) else if s.1.length < n then (0, [], true) else (num (s.1.take n), s.1.drop n, false)
def tx (n : Nat) (s : List Int × Bool) : List Int × List Int × Bool :=
  if s.2 = true then ([], [], true) else if s.1.length < n then ([], [], true) else if (s.1.length : Int) - n < num (s.1.take n) then ([], [], true)
  else ((s.1.drop n).take (num (s.1.take n)).toNat, (s.1.drop n).drop (num (s.1.take n)).toNat, false)
/-- A field's value off the reader: the number, the text, the table, whether it is one; the reader. -/
def readP (Q : List Int → List S24 × Bool) (k : Int) (s : List Int × Bool) : (Int × ByteArray × List S24 × Bool) × List Int × Bool :=
  if k = 116 then ((wrap64 (nm 1 s).1, ⟨#[]⟩, [], true), (nm 1 s).2)
  else if k = 73 then ((wrap64 (wrap32 (nm 4 s).1), ⟨#[]⟩, [], true), (nm 4 s).2)
  else if k = 108 then ((wrap64 (nm 8 s).1, ⟨#[]⟩, [], true), (nm 8 s).2)
  else if k = 83 then ((0, strOfNums (tx 4 s).1, [], true), (tx 4 s).2)
  else if k = 70 then ((0, ⟨#[]⟩, (Q (tx 4 s).1).1, (Q (tx 4 s).1).2), (tx 4 s).2)
  else ((0, ⟨#[]⟩, [], true), s)
/-- A table's rows off octets, behind those that are read; m: as many rounds at most. -/
def parseL (Q : List Int → List S24 × Bool) : Nat → List Int → List S24 → List S24 × Bool
  | 0, _, _ => ([], false)
  | m + 1, b, out =>
    if b = [] then (out, true)
    else
      let a := tx 1 (b, false)
      let k := nm 1 a.2
      let v := readP Q k.1 k.2
      if v.1.2.2.2 = true ∧ v.2.2 = false then parseL Q m v.2.1 (out ++ [⟨strOfNums a.1, k.1, v.1.1, v.1.2.1, v.1.2.2.1⟩]) else ([], false)
/-- A table off octets, n levels deep at most. -/
def parseP : Nat → List Int → List S24 × Bool
  | 0, _ => ([], false)
  | n + 1, b => if b.length ≤ 2000 then parseL (parseP n) (b.length + 1) b [] else ([], false)
/-! Two tables are the same. -/
mutual
def sameF : S24 → S24 → Bool
  | ⟨a, b, c, d, l⟩, ⟨a', b', c', d', l'⟩ => decide (a = a') && (decide (b = b') && (decide (c = c') && (decide (d = d') && sameL l l')))
def sameL : List S24 → List S24 → Bool
  | [], [] => true
  | x :: l, y :: m => sameF x y && sameL l m
  | _, _ => false
end
mutual
theorem sameF_iff : ∀ x y, sameF x y = true ↔ x = y
  | ⟨a, b, c, d, l⟩, ⟨a', b', c', d', l'⟩ => by
    simp only [sameF, Bool.and_eq_true, decide_eq_true_eq, S24.mk.injEq, sameL_iff l l']
theorem sameL_iff : ∀ l m, sameL l m = true ↔ l = m
  | [], [] => by simp [sameL]
  | x :: l, y :: m => by simp only [sameL, Bool.and_eq_true, sameF_iff x y, sameL_iff l m, List.cons.injEq]
  | [], _ :: _ => by simp [sameL]
  | _ :: _, [] => by simp [sameL]
end
end Tb
instance (l : List Int) : Decidable (Oct l) := inferInstanceAs (Decidable (∀ x ∈ l, 0 ≤ x ∧ x < 256))
def tabl_rows.f (l : List S24) (a : Int) : Option (List Int × Bool) := if 1 ≤ a ∧ a ≤ 9 ∧ Tb.tame (9 - a).toNat l = true then some (Tb.rowsP (9 - a).toNat l) else none
def tabl_parse.f (b : List Int) (a : Int) : Option (List S24 × Bool) := if 1 ≤ a ∧ a ≤ 9 ∧ Oct b then some (Tb.parseP (9 - a).toNat b) else none
def zfm.f (l m : List S24) : Option Bool := some (Tb.sameL l m)
/-- The contract of rows at a depth. -/
def RowsCalls (a1 : Int) : Prop := ∀ (A0 : Option Addr) (c0 : Nat) (l0 : List S24) (r1 : List Int) (r2 : Bool) (w : World), Kd.C k24 w A0 l0.length l0 → l0.length ≤ c0 → tabl_rows.f l0 a1 = some (r1, r2) →
  Calls Try.prog 32 #[.slice A0 l0.length c0, .int .i64 a1] w fun e w' => ∃ v0_ : Value, e = .returned (.tuple #[v0_, .bool r2]) ∧ Kd.R (Kd.int .u8) 5 w' w.heap.size (fun _ => True) v0_ r1 ∧ Below w.heap.size w w'
/-- The contract of parse at a depth. -/
def ParseCalls (a1 : Int) : Prop := ∀ (A0 : Option Addr) (c0 : Nat) (l0 : List Int) (r1 : List S24) (r2 : Bool) (w : World), Kd.C (Kd.int .u8) w A0 l0.length l0 → l0.length ≤ c0 → tabl_parse.f l0 a1 = some (r1, r2) →
  Calls Try.prog 34 #[.slice A0 l0.length c0, .int .i64 a1] w fun e w' => ∃ v0_ : Value, e = .returned (.tuple #[v0_, .bool r2]) ∧ Kd.R k24 24 w' w.heap.size (fun _ => True) v0_ r1 ∧ Below w.heap.size w w'
end Go.Proofs.Ytfhaffpegncdiaa.PT
