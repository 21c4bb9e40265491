/-
A step that the printed words lack: a string turned into octets makes a row that is only read.
Conditions: the row's types as the program's tables have them; the string no longer than an int tells.
-/
import Derived.Test.YtfhaffpegncdiaaWMore
import Derived.Test.YtfhaffpegncdiaaWFootNe
import Derived.Lib.ConvBytes
import Derived.WalkKit
import Derived.Lib.AppendStr
import Derived.Lib.SlBytesConst
set_option linter.unusedVariables false
set_option linter.unusedSimpArgs false
namespace Go.Proofs.YtfhaffpegncdiaaW.PrintWords
open Go.RowKit
namespace Kd
section
variable {P : Program} {ops : Array Oper} {rest : List Oper} {o : Oper} {a : Act} {Q : Exit → Act → World → Prop}
theorem conv_cell (W : World) (e : TypeId) (s : ByteArray) (j : Nat) (p : Int) (hj : (bytesOf s)[j]? = some p) (W' : World) (h : W'.heap[W.heap.size]? = (Lib.bytesWorld W e s).heap[W.heap.size]?) :
    W'.cell? ⟨W.heap.size, j, none⟩ = some (.int .u8 p) := by
  have hl : j < s.size := by
    have h0 := (List.getElem?_eq_some_iff.1 hj).1
    have h1 : (bytesOf s).length = s.size := by unfold bytesOf; rw [List.length_map, Array.length_toList]; rfl
    omega
  have h1 := Lib.bytesWorld_cell W e s j hl
  have h2 : W'.cell? ⟨W.heap.size, j, none⟩ = (Lib.bytesWorld W e s).cell? ⟨W.heap.size, j, none⟩ := by
    unfold World.cell?
    simp only [h]
  rw [h2, h1]
  have h3 : p = ((s.data.toList.getD j 0).toNat : Int) := by
    unfold bytesOf at hj
    rw [List.getElem?_map] at hj
    have hl' : j < s.data.toList.length := by rw [Array.length_toList]; exact hl
    rw [List.getElem?_eq_getElem hl'] at hj
    rw [List.getD_eq_getElem?_getD, List.getElem?_eq_getElem hl']
    simpa using hj.symm
  rw [h3]
theorem V_conv {w0 W : World} (base e src dst : Nat) {u : TypeDesc} (hgd : o.guard = none) {N : Tmp} (_hd : o.dst = some N) (s : ByteArray) (x : Operand) (ho : o.op = .convert src dst x) (hx : a.eval x = .string s)
    (hs : P.underlying src = some u) (hd : P.underlying dst = some (.slice e)) (he : P.underlying e = some (.int .u8)) (HB : Below base w0 W) (hbase : base ≤ W.heap.size) (hm : s.size ≤ 9223372036854775807)
    (h : ∀ v1 w1, Kd.V (Kd.int .u8) e w1 base (fun k_ => W.heap.size ≤ k_) v1 (bytesOf s) → Below base w0 w1 → W.grownBy w1 none → (∃ b, v1.ownBlock = some b ∧ W.heap.size ≤ b) → wpList P ops Q rest (a.put o.dst v1) w1) :
    wpList P ops Q (o :: rest) a W := by
  have hrun : (execOp a.eval o).run P W = .ok (.value (.slice (some ⟨W.heap.size, 0, none⟩) s.size (grownCap W s.size 0 e))) (Lib.bytesWorld W e s) := by
    unfold execOp
    simp only [ho, hx]
    simp [Lib.run_convert_string_bytes W src dst e s hs hd he]
  have hlen : (bytesOf s).length = s.size := by unfold bytesOf; rw [List.length_map, Array.length_toList]; rfl
  have hcap : s.size ≤ grownCap W s.size 0 e := grownCap_ge W s.size 0 e
  refine event_run hgd hrun (h _ _ ⟨some ⟨W.heap.size, 0, none⟩, grownCap W s.size 0 e, by rw [hlen], by rw [hlen]; exact hcap, ?_⟩ ⟨HB.os, HB.tape, HB.output, ?_, ?_⟩ ?_ ⟨W.heap.size, by simp [Value.ownBlock], Nat.le_refl _⟩)
  · intro W' hW
    refine ⟨rfl, by rw [hlen]; exact hm, fun hn => ⟨⟨W.heap.size, 0, none⟩, rfl, fun j p hj => ⟨[.int .u8 p], rfl, rfl, fun i v hi => ?_⟩⟩⟩
    have hi0 : i = 0 := by
      have := (List.getElem?_eq_some_iff.1 hi).1
      simpa using this
    subst hi0
    have hv : v = .int .u8 p := by simpa using hi.symm
    subst hv
    have hadd : (⟨W.heap.size, 0, none⟩ : Addr).add (j * (Kd.int .u8).sz + 0) = ⟨W.heap.size, j, none⟩ := by
      show (⟨W.heap.size, 0, none⟩ : Addr).add (j * 1 + 0) = _
      unfold Addr.add
      by_cases hj0 : j = 0
      · subst hj0; rfl
      · simp [hj0]
    rw [hadd]
    exact conv_cell W e s j p hj W' (hW _ (Nat.le_refl _) (by rw [Lib.bytesWorld_size]; omega))
  · rw [Lib.bytesWorld_size]; have := HB.size; omega
  · intro k hk
    rw [Lib.bytesWorld_at_old W e s k (by omega)]
    exact HB.block k hk
  · exact ⟨rfl, rfl, rfl, by rw [Lib.bytesWorld_size]; omega, fun k hk _ => Lib.bytesWorld_at_old W e s k hk⟩
theorem V_conv_step {Kc : Act → World → Prop} {w0 W : World} (base e src dst : Nat) {u : TypeDesc} (hw : Region.wanted o (yielded ops a.tmps) = true) {N : Tmp} (_hd : o.dst = some N) (s : ByteArray) (x : Operand) (ho : o.op = .convert src dst x) (hx : a.eval x = .string s)
    (hs : P.underlying src = some u) (hd : P.underlying dst = some (.slice e)) (he : P.underlying e = some (.int .u8)) (HB : Below base w0 W) (hbase : base ≤ W.heap.size) (hm : s.size ≤ 9223372036854775807)
    (h : ∀ v1 w1, Kd.V (Kd.int .u8) e w1 base (fun k_ => W.heap.size ≤ k_) v1 (bytesOf s) → Below base w0 w1 → W.grownBy w1 none → (∃ b, v1.ownBlock = some b ∧ W.heap.size ≤ b) → Kc (a.put o.dst v1) w1) :
    if Region.wanted o (yielded ops a.tmps) = true then Oper.wp P o a W Kc Q else Kc (a.put o.dst undef) W := by
  have hrun : (execOp a.eval o).run P W = .ok (.value (.slice (some ⟨W.heap.size, 0, none⟩) s.size (grownCap W s.size 0 e))) (Lib.bytesWorld W e s) := by
    unfold execOp
    simp only [ho, hx]
    simp [Lib.run_convert_string_bytes W src dst e s hs hd he]
  have hlen : (bytesOf s).length = s.size := by unfold bytesOf; rw [List.length_map, Array.length_toList]; rfl
  have hcap : s.size ≤ grownCap W s.size 0 e := grownCap_ge W s.size 0 e
  refine event_step hw hrun (h _ _ ⟨some ⟨W.heap.size, 0, none⟩, grownCap W s.size 0 e, by rw [hlen], by rw [hlen]; exact hcap, ?_⟩ ⟨HB.os, HB.tape, HB.output, ?_, ?_⟩ ?_ ⟨W.heap.size, by simp [Value.ownBlock], Nat.le_refl _⟩)
  · intro W' hW
    refine ⟨rfl, by rw [hlen]; exact hm, fun hn => ⟨⟨W.heap.size, 0, none⟩, rfl, fun j p hj => ⟨[.int .u8 p], rfl, rfl, fun i v hi => ?_⟩⟩⟩
    have hi0 : i = 0 := by
      have := (List.getElem?_eq_some_iff.1 hi).1
      simpa using this
    subst hi0
    have hv : v = .int .u8 p := by simpa using hi.symm
    subst hv
    have hadd : (⟨W.heap.size, 0, none⟩ : Addr).add (j * (Kd.int .u8).sz + 0) = ⟨W.heap.size, j, none⟩ := by
      show (⟨W.heap.size, 0, none⟩ : Addr).add (j * 1 + 0) = _
      unfold Addr.add
      by_cases hj0 : j = 0
      · subst hj0; rfl
      · simp [hj0]
    rw [hadd]
    exact conv_cell W e s j p hj W' (hW _ (Nat.le_refl _) (by rw [Lib.bytesWorld_size]; omega))
  · rw [Lib.bytesWorld_size]; have := HB.size; omega
  · intro k hk
    rw [Lib.bytesWorld_at_old W e s k (by omega)]
    exact HB.block k hk
  · exact ⟨rfl, rfl, rfl, by rw [Lib.bytesWorld_size]; omega, fun k hk _ => Lib.bytesWorld_at_old W e s k hk⟩
/-- append(b, s...): a string's octets behind a row of the call's own; the row is told apart from others as ever. -/
theorem R_append_str {w0 W : World} (base : Nat) (hgd : o.guard = none) (sl x : Operand) (t u e : TypeId)
    (ho : o.op = .call { callee := .builtin .append, args := #[sl, x], argTypes := #[t, u] })
    (ht : P.underlying t = some (.slice e)) (hu : P.underlying u = some .string) (hinfo : (P.info? e).map (fun i => (i.zero, i.size, i.bytes)) = some (some (.int .u8 0), 1, 1))
    (v : Value) (xs : List Int) (y : ByteArray) (ok : Nat → Prop) (hs : a.eval sl = v) (hx : a.eval x = .string y)
    (HO : (Kd.int .u8).R e W base ok v xs) (hfresh : ∀ k, W.heap.size ≤ k → ok k) (HB : Below base w0 W) (hbase : base ≤ W.heap.size) (hl : xs.length + y.size ≤ 140737488355328)
    (h : ∀ v1 w1, (Kd.int .u8).R e w1 base ok v1 (xs ++ bytesOf y) → Below base w0 w1 → W.grownBy w1 v.ownBlock → (v1.ownBlock = v.ownBlock ∨ ∃ b, v1.ownBlock = some b ∧ W.heap.size ≤ b) → wpList P ops Q rest (a.put o.dst v1) w1) :
    wpList P ops Q (o :: rest) a W := by
  obtain ⟨i0, hi, hzz⟩ := Option.map_eq_some_iff.1 hinfo
  simp only [Prod.mk.injEq] at hzz
  obtain ⟨hz0, hz1, hz2⟩ := hzz
  have hown := Kd.own_of_R HO
  have hm : xs.length + y.size ≤ maxLen := by simp only [maxLen]; omega
  obtain ⟨v1, w1, hr, h2, h3, _⟩ := Lib.run_append_own_string (P := P) W base t u o.type e i0 ht hu hi hz0 hz1 hz2 v xs.length _ hown y hm hl hbase
  have hat : v1.ownBlock = v.ownBlock ∨ ∃ b, v1.ownBlock = some b ∧ W.heap.size ≤ b := by
    have hown' := hown
    rcases hown.2 with ⟨rfl, h0⟩ | ⟨g, cap, cur, rfl, hbg, hg, hnc, hcm, hcs, htake⟩
    · have hn : W.ownsRow W.heap.size e 1 (.slice none 0 0) xs.length (encs (Value.int .u8) xs) := ⟨hown.1, .inl ⟨rfl, h0⟩⟩
      obtain ⟨v2, w2, hr2, h22, _, _⟩ := Lib.run_append_own_string (P := P) W W.heap.size t u o.type e i0 ht hu hi hz0 hz1 hz2 (.slice none 0 0) xs.length _ hn y hm hl (Nat.le_refl _)
      rw [hr] at hr2
      injection hr2 with e1 e2
      subst e1
      rcases h22.2 with ⟨rfl, _⟩ | ⟨g, cap, cur, rfl, hbg, _⟩
      · exact .inl rfl
      · exact .inr ⟨g, rfl, hbg⟩
    · by_cases hroom : xs.length + y.size ≤ cap
      · have hr2 := Lib.run_append_room_string (P := P) W t u o.type e i0 ht hu hi hz1 g xs.length cap cur hg y hroom (by omega)
        rw [hr] at hr2
        injection hr2 with e1 e2
        subst e1
        exact .inl rfl
      · have holds := hown.cells (g := g) rfl
        have hr2 := Lib.run_append_grow_string (P := P) W t u o.type e i0 (.int .u8 0) ht hu hi hz0 ⟨g, 0, none⟩ xs.length cap _ (by rw [hz1]; simpa using hown.1) holds y (by omega) (by omega) (by rw [hz2]; exact growslice_fits (by omega) (by omega))
        rw [hr] at hr2
        injection hr2 with e1 e2
        subst e1
        exact .inr ⟨W.heap.size, rfl, Nat.le_refl _⟩
  refine wpList_plain hgd fun K hK => ?_
  unfold Oper.wp execOp
  simp only [ho, resolve, invoke, builtin, Sem.run_bind, Sem.run_pure, Result.andThen_ok, List.map_toArray, List.map_cons, List.map_nil, hs, hx, hr]
  refine hK _ _ (h v1 w1 ?_ (HB.grown h3 hbase (own_base hown)) h3 hat)
  have hl2 : (xs ++ bytesOf y).length = xs.length + y.size := by rw [List.length_append, bytesOf_length]
  have hc : encs (Value.int .u8) (xs ++ bytesOf y) = encs (Value.int .u8) xs ++ Lib.strCells y := by
    unfold encs
    rw [List.map_append]
    congr 1
    unfold bytesOf Lib.strCells
    rw [List.map_map]
    rfl
  refine Kd.R_of_own (by rw [hl2, hc]; exact h2) (fun k hk => ?_)
  rcases hat with hat | ⟨b, hb, hlt⟩
  · exact HO.1 k (by rw [← hat]; exact hk)
  · rw [hb] at hk
    injection hk with hk
    exact hfresh k (by omega)
end
end Kd
namespace Kd
/-- Rows that are only read, one by one with their lists. -/
def AllV {α : Type} (d : Kd α) (e : Nat) (W : World) (base : Nat) (ok : Nat → Prop) : List Value → List (List α) → Prop
  | [], [] => True
  | v :: vs, l :: ls => Kd.V d e W base ok v l ∧ AllV d e W base ok vs ls
  | _, _ => False
theorem AllV_get {α : Type} {d : Kd α} {e base : Nat} {W : World} {ok : Nat → Prop} {z : Value} : ∀ (vs : List Value) (ls : List (List α)) (j : Nat), AllV d e W base ok vs ls → j < vs.length → Kd.V d e W base ok (vs.getD j z) (ls.getD j [])
  | [], _, _, _, h => by simp at h
  | _ :: _, [], _, h, _ => h.elim
  | v :: vs, l :: ls, 0, h, _ => h.1
  | v :: vs, l :: ls, j + 1, h, hj => AllV_get vs ls j h.2 (by simpa using hj)
end Kd
theorem pick_run {P : Program} {W : World} {vs : List Value} {e t E : TypeId} {tm : Tmp} {a : Act} {oi : Oper} {j : Nat} {z : Value} (ho : oi.op = .load t (.tmp tm)) (ha : a.eval (.tmp tm) = .pointer (some ⟨W.heap.size, j, none⟩))
    (hu : P.underlying t = some (.slice E)) (hj : j < vs.length) :
    (execOp a.eval oi).run P (W.alloc (.cells vs.toArray e)) = .ok (.value (vs.getD j z)) (W.alloc (.cells vs.toArray e)) := by
  have hc : (W.alloc (.cells vs.toArray e)).cell? ⟨W.heap.size, j, none⟩ = some (vs.getD j z) := by
    have h1 : (W.alloc (.cells vs.toArray e)).heap[W.heap.size]? = some (.cells vs.toArray e (0, 0)) := heap_alloc_new W _
    simp only [World.cell?, h1]
    simp [List.getD_eq_getElem?_getD, List.getElem?_eq_getElem hj]
  unfold execOp
  simp only [ho, ha]
  generalize W.alloc (.cells vs.toArray e) = w1 at hc ⊢
  have hi : Sem.run P (isAgg t) w1 = .ok false w1 := by unfold isAgg Go.underlying; simp [hu]
  go_simp
end Go.Proofs.YtfhaffpegncdiaaW.PrintWords
