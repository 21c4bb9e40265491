/-
'[]byte("..")' of a constant, where a guard stands before the conversion: a row that is only read.
Conditions: the row's types as the program's tables have them; the guard lets the conversion through.
-/
import Derived.Test.YtpjkaodbcclecaaXWords
import Derived.Test.YtpjkaodbcclecaaWGuard
import Derived.Lib.SlBytesConst
set_option linter.unusedVariables false
set_option linter.unusedSimpArgs false
namespace Go.Proofs.YtpjkaodbcclecaaW.PrintWords
open Go.RowKit
section
variable {P : Program} {ops : Array Oper} {rest : List Oper} {o : Oper} {a : Act} {Q : Exit → Act → World → Prop}
namespace Kd
theorem V_constG {w0 W : World} (base e t : Nat) (hgd : o.guard = none) {N : Tmp} (hd : o.dst = some N) {xs : List Int} {inner : List Value} {o2 : Oper} {N2 : Tmp} (hw2 : ∀ v, Region.wanted o2 (yielded ops (a.put o.dst v).tmps) = true) (hd2 : o2.dst = some N2) (ho2 : o2.op = .convert t t (.tmp N))
    (hi : inner = xs.map fun x => Value.int .u8 x)
    (hrun : (execOp a.eval o).run P W = .ok (.value (.slice (some ⟨W.heap.size, 0, none⟩) xs.length xs.length)) (W.alloc (.cells inner.toArray e)))
    (hp : ∀ v, (a.put o.dst v).eval (.tmp N) = v) (ht : P.underlying t = some (.slice e)) (he : P.underlying e = some (.int .u8)) (HB : Below base w0 W) (hbase : base ≤ W.heap.size) (hm : xs.length ≤ 9223372036854775807)
    (h : ∀ v1 w1, Kd.V (Kd.int .u8) e w1 base (fun k_ => W.heap.size ≤ k_) v1 xs → Below base w0 w1 → W.grownBy w1 none → (∃ b, v1.ownBlock = some b ∧ W.heap.size ≤ b) → wpList P ops Q rest ((a.put o.dst v1).put o2.dst v1) w1) :
    wpList P ops Q (o :: o2 :: rest) a W := by
  subst hi
  refine event_run hgd hrun ?_
  have hrun2 : (execOp (a.put o.dst (.slice (some ⟨W.heap.size, 0, none⟩) xs.length xs.length)).eval o2).run P (W.alloc (.cells (xs.map fun x => Value.int .u8 x).toArray e)) =
      .ok (.value (.slice (some ⟨W.heap.size, 0, none⟩) xs.length xs.length)) (W.alloc (.cells (xs.map fun x => Value.int .u8 x).toArray e ((xs.map fun x => Value.int .u8 x).toArray.size, (xs.map fun x => Value.int .u8 x).toArray.size + 1))) := by
    unfold execOp
    simp only [ho2, hp]
    simp [Lib.run_convert_bytes_const W t e (xs.map fun x => Value.int .u8 x).toArray xs.length xs.length ht he]
  generalize ((xs.map fun x => Value.int .u8 x).toArray.size, (xs.map fun x => Value.int .u8 x).toArray.size + 1) = fr at hrun2
  have hnew : (W.alloc (.cells (xs.map fun x => Value.int .u8 x).toArray e fr)).heap[W.heap.size]? = some (.cells (xs.map fun x => Value.int .u8 x).toArray e fr) := heap_alloc_new W _
  refine gate_guard (hw2 _) ?_
  refine event_run rfl (show (execOp (a.put o.dst (.slice (some ⟨W.heap.size, 0, none⟩) xs.length xs.length)).eval { o2 with guard := none }).run P _ = _ from hrun2) (h _ _ ⟨some ⟨W.heap.size, 0, none⟩, xs.length, rfl, Nat.le_refl _, ?_⟩ (HB.alloc hbase _) (World.grownBy_alloc W _ none) ⟨W.heap.size, by simp [Value.ownBlock], Nat.le_refl _⟩)
  intro W' hW
  refine ⟨rfl, hm, fun hn => ⟨⟨W.heap.size, 0, none⟩, rfl, fun j p hj => ⟨[.int .u8 p], rfl, rfl, fun i v hi => ?_⟩⟩⟩
  have hi0 : i = 0 := by
    have := (List.getElem?_eq_some_iff.1 hi).1
    simpa using this
  subst hi0
  have hv : v = .int .u8 p := by simpa using hi.symm
  subst hv
  have hadd : (⟨W.heap.size, 0, none⟩ : Addr).add (j * (Kd.int .u8).sz + 0) = ⟨W.heap.size, j, none⟩ := by
    show (⟨W.heap.size, 0, none⟩ : Addr).add (j * 1 + 0) = _
    unfold Addr.add
    by_cases hj0 : j = 0
    · subst hj0; rfl
    · simp [hj0]
  rw [hadd]
  have h2 := (hW W.heap.size (Nat.le_refl _) (by simp)).trans hnew
  simp only [World.cell?, h2]
  simp only [List.getElem?_toArray, List.getElem?_map, hj, Option.map_some]
  rfl
end Kd
end
end Go.Proofs.YtpjkaodbcclecaaW.PrintWords
