/- Long names of the core and of the kit, once more under short ones. -/
import Derived.WalkKit
namespace Go.Proofs.Ytfhaffpegncdiaa
open Go
theorem zq1 {α : Type _} (l : List α) (i : Nat) (a : α) : l.toArray.setIfInBounds i a = (l.set i a).toArray := List.setIfInBounds_toArray l i a
theorem zq2 {α : Type _} {a : α} {as : List α} {b : α} : (a :: as).set 0 b = b :: as := rfl
theorem zq3 {α : Type _} {a : α} {as : List α} {n : Nat} {b : α} : (a :: as).set (n + 1) b = a :: as.set n b := rfl
theorem zq4 (w : World) (p : Addr) {v : Value} (h : w.cell? p = some v) : p.block < w.heap.size := World.block_lt_of_cell? w p h
theorem zq5 {a b c : Nat} (h : a < b) (k : b ≤ c) : a < c := Nat.lt_of_lt_of_le h k
theorem zq6 {a b : Nat} (h : a < b) : a ≠ b := Nat.ne_of_lt h
end Go.Proofs.Ytfhaffpegncdiaa
