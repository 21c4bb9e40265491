/-
A step that the printed words lack: a string turned into octets makes a row that is only read.
Conditions: the row's types as the program's tables have them; the string no longer than an int tells.
-/
import Derived.Test.YtlhcjgmdcnmnnaaWMore
import Derived.Lib.ConvBytes
set_option linter.unusedVariables false
set_option linter.unusedSimpArgs false
namespace Go.Proofs.YtlhcjgmdcnmnnaaW.PrintWords
open Go.RowKit
namespace Kd
section
variable {P : Program} {ops : Array Oper} {rest : List Oper} {o : Oper} {a : Act} {Q : Exit → Act → World → Prop}
theorem conv_cell (W : World) (e : TypeId) (s : ByteArray) (j : Nat) (p : Int) (hj : (bytesOf s)[j]? = some p) (W' : World) (h : W'.heap[W.heap.size]? = (Lib.bytesWorld W e s).heap[W.heap.size]?) :
    W'.cell? ⟨W.heap.size, j, none⟩ = some (.int .u8 p) := by
  have hl : j < s.size := by
    have h0 := (List.getElem?_eq_some_iff.1 hj).1
    have h1 : (bytesOf s).length = s.size := by unfold bytesOf; rw [List.length_map, Array.length_toList]; rfl
    omega
  have h1 := Lib.bytesWorld_cell W e s j hl
  have h2 : W'.cell? ⟨W.heap.size, j, none⟩ = (Lib.bytesWorld W e s).cell? ⟨W.heap.size, j, none⟩ := by
    unfold World.cell?
    simp only [h]
  rw [h2, h1]
  have h3 : p = ((s.data.toList.getD j 0).toNat : Int) := by
    unfold bytesOf at hj
    rw [List.getElem?_map] at hj
    have hl' : j < s.data.toList.length := by rw [Array.length_toList]; exact hl
    rw [List.getElem?_eq_getElem hl'] at hj
    rw [List.getD_eq_getElem?_getD, List.getElem?_eq_getElem hl']
    simpa using hj.symm
  rw [h3]
theorem V_conv {w0 W : World} (base e src dst : Nat) {u : TypeDesc} (hgd : o.guard = none) {N : Tmp} (_hd : o.dst = some N) (s : ByteArray) (x : Operand) (ho : o.op = .convert src dst x) (hx : a.eval x = .string s)
    (hs : P.underlying src = some u) (hd : P.underlying dst = some (.slice e)) (he : P.underlying e = some (.int .u8)) (HB : Below base w0 W) (hbase : base ≤ W.heap.size) (hm : s.size ≤ 9223372036854775807)
    (h : ∀ v1 w1, Kd.V (Kd.int .u8) e w1 base (fun k_ => W.heap.size ≤ k_) v1 (bytesOf s) → Below base w0 w1 → W.grownBy w1 none → (∃ b, v1.ownBlock = some b ∧ W.heap.size ≤ b) → wpList P ops Q rest (a.put o.dst v1) w1) :
    wpList P ops Q (o :: rest) a W := by
  have hrun : (execOp a.eval o).run P W = .ok (.value (.slice (some ⟨W.heap.size, 0, none⟩) s.size (grownCap W s.size 0 e))) (Lib.bytesWorld W e s) := by
    unfold execOp
    simp only [ho, hx]
    simp [Lib.run_convert_string_bytes W src dst e s hs hd he]
  have hlen : (bytesOf s).length = s.size := by unfold bytesOf; rw [List.length_map, Array.length_toList]; rfl
  have hcap : s.size ≤ grownCap W s.size 0 e := grownCap_ge W s.size 0 e
  refine event_run hgd hrun (h _ _ ⟨some ⟨W.heap.size, 0, none⟩, grownCap W s.size 0 e, by rw [hlen], by rw [hlen]; exact hcap, ?_⟩ ⟨HB.os, HB.tape, HB.output, ?_, ?_⟩ ?_ ⟨W.heap.size, by simp [Value.ownBlock], Nat.le_refl _⟩)
  · intro W' hW
    refine ⟨rfl, by rw [hlen]; exact hm, fun hn => ⟨⟨W.heap.size, 0, none⟩, rfl, fun j p hj => ⟨[.int .u8 p], rfl, rfl, fun i v hi => ?_⟩⟩⟩
    have hi0 : i = 0 := by
      have := (List.getElem?_eq_some_iff.1 hi).1
      simpa using this
    subst hi0
    have hv : v = .int .u8 p := by simpa using hi.symm
    subst hv
    have hadd : (⟨W.heap.size, 0, none⟩ : Addr).add (j * (Kd.int .u8).sz + 0) = ⟨W.heap.size, j, none⟩ := by
      show (⟨W.heap.size, 0, none⟩ : Addr).add (j * 1 + 0) = _
      unfold Addr.add
      by_cases hj0 : j = 0
      · subst hj0; rfl
      · simp [hj0]
    rw [hadd]
    exact conv_cell W e s j p hj W' (hW _ (Nat.le_refl _) (by rw [Lib.bytesWorld_size]; omega))
  · rw [Lib.bytesWorld_size]; have := HB.size; omega
  · intro k hk
    rw [Lib.bytesWorld_at_old W e s k (by omega)]
    exact HB.block k hk
  · exact ⟨rfl, rfl, rfl, by rw [Lib.bytesWorld_size]; omega, fun k hk _ => Lib.bytesWorld_at_old W e s k hk⟩
end
end Kd
end Go.Proofs.YtlhcjgmdcnmnnaaW.PrintWords
