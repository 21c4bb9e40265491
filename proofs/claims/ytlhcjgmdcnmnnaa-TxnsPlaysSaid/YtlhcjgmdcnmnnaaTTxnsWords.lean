/-
What waits for a commit, as a block and a row of steps: how it goes from world to world.
-/
import Derived.Test.YtlhcjgmdcnmnnaaPTx1
import Derived.WalkSpells
namespace Go.Proofs.Ytlhcjgmdcnmnnaa.PT
open Go.RowKit Go.Proofs.YtlhcjgmdcnmnnaaW.PrintWords Go.Proofs.YtlhcjgmdcnmnnaaW.PrintLast Go.Proofs.YtlhcjgmdcnmnnaaW.PrintMore
set_option linter.unusedVariables false
set_option linter.unusedSimpArgs false
namespace Tx
/-- Block g is a Tx: on, and the row of steps that wait; all that it leads to was made behind it. -/
def At (w : World) (g : Nat) (on : Bool) (xs : List S37) : Prop := ∃ A c, w.heap[g]? = some (.cells #[.bool on, .slice A xs.length c] 85 (0, 0)) ∧ Kd.N k37 37 w (g + 1) (fun k => g < k) (.slice A xs.length c) xs
/-- The steps behind one more, where it is on. -/
def next (on : Bool) (xs : List S37) (s : S37) : List S37 := if on = true then xs ++ [s] else xs
/-- The step that a settling is. -/
def stepOf (back : Bool) (l : List Int) : S37 := ⟨if back = true then 3 else 2, z30, l⟩
section
variable {w w1 : World} {g : Nat} {on : Bool} {xs : List S37}
theorem lt (h : At w g on xs) : g < w.heap.size := by
  obtain ⟨A, c, hb, _⟩ := h
  exact blk_lt hb
theorem step (h : At w g on xs) (hm : ∀ k, g ≤ k → k < w.heap.size → w1.heap[k]? = w.heap[k]?) : At w1 g on xs := by
  have hl := lt h
  obtain ⟨A, c, hb, hn⟩ := h
  exact ⟨A, c, (hm g (Nat.le_refl _) hl).trans hb, Kd.N_step hn (fun k hk hlt => hm k (Nat.le_of_lt hk) hlt)⟩
theorem below (h : At w g on xs) (hb : Below w.heap.size w w1) : At w1 g on xs := step h (fun k _ hlt => hb.block k hlt)
theorem is_alloc (h : At w g on xs) (o : Obj) : At (w.alloc o) g on xs := below h (below_alloc (Below.refl _ _) o)
theorem is_drewN (h : At w g on xs) (m : Nat) : At (w.drewN m) g on xs := below h (pw_below_drewN (Below.refl _ _) m)
theorem is_drew (h : At w g on xs) : At w.drew g on xs := below h (below_drew1 (Below.refl _ _))
end
end Tx
theorem info37_ : (Try.prog.info? 37).map (fun i => (i.zero, i.size, i.bytes)) = some (some (.agg #[.int .i64 0, .string ⟨#[]⟩, .string ⟨#[]⟩, .string ⟨#[]⟩, .string ⟨#[]⟩, .int .i64 0, .slice none 0 0, .bool false, .slice none 0 0]), 9, 136) := by kernel_rfl
end Go.Proofs.Ytlhcjgmdcnmnnaa.PT
