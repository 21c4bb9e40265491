/-
What a walk through rows needs: the map of names as a count; a field's value, as the printed function tells it.
-/
import Derived.Test.YtfhaffpegncdiaaPTx2
import Derived.Test.YtfhaffpegncdiaaMapInt
import Derived.Maps.Views
namespace Go.Proofs.Ytfhaffpegncdiaa.PT
open Go.RowKit Go.Proofs.Ytfhaffpegncdiaa.Pure Go.Proofs.YtfhaffpegncdiaaW.PrintWords Go.Proofs.YtfhaffpegncdiaaW.PrintLast Go.Proofs.YtfhaffpegncdiaaW.PrintMore
set_option linter.unusedVariables false
set_option linter.unusedSimpArgs false
section
variable {P : Program} {ops : Array Oper} {rest : List Oper} {o : Oper} {a : Act} {Q : Exit → Act → World → Prop}
theorem map_event {W : World} (hgd : o.guard = none) {N : Tmp} (_hd : o.dst = some N)
    (hrun : (execOp a.eval o).run P W = .ok (.value (.map (some W.heap.size))) (W.alloc (.map #[] 0)))
    (h : ∀ b, b = W.heap.size → ∀ w1, Mi.Is P w1 b [] → Below W.heap.size W w1 → wpList P ops Q rest (a.put o.dst (.map (some b))) w1) : wpList P ops Q (o :: rest) a W :=
  Kd.event_run hgd hrun (h _ rfl _ (Mi.made P W) (zba (Below.refl _ _) _))
end
namespace Tb
theorem ne_own {P : Program} {α : Type} {d : Kd α} {e base : Nat} {ok : Nat → Prop} {W : World} {v : Value} {xs : List α} {b : Nat} {E : List (Lit × DataW Unit)} (hm : Mi.Is P W b E) (h : d.R e W base ok v xs) : some b ≠ v.ownBlock := by
  intro he
  obtain ⟨cells, hc⟩ := Kd.R_typed h b he.symm
  obtain ⟨es, clock, hb, _⟩ := hm
  rw [hb] at hc
  cases hc
theorem ne_blk {P : Program} {W : World} {b g : Nat} {E : List (Lit × DataW Unit)} {cs : Array Value} {t : TypeId} {fr : Nat × Nat} (hm : Mi.Is P W b E) (h : W.heap[g]? = some (.cells cs t fr)) : g ≠ b := by
  intro he
  obtain ⟨es, clock, hb, _⟩ := hm
  rw [he, hb] at h
  cases h
theorem below_grown {w W w1 : World} {b : Nat} (hB : Below w.heap.size w W) (hg : W.grownBy w1 (some b)) (hb : w.heap.size ≤ b) : Below w.heap.size w w1 :=
  ⟨hg.os.trans hB.os, hg.tape.trans hB.tape, hg.output.trans hB.output, Nat.le_trans hB.size hg.size, fun k hk => (hg.block k (Nat.lt_of_lt_of_le hk hB.size) (fun e => by injection e with e; omega)).trans (hB.block k hk)⟩
theorem blk_grown {W w1 : World} {b g : Nat} {o : Obj} (h : W.heap[g]? = some o) (hg : W.grownBy w1 (some b)) (hne : g ≠ b) : w1.heap[g]? = some o :=
  (hg.block g (blk_lt h) (fun e => by injection e with e; exact hne e)).trans h
/-- Each name that was seen is told once. -/
def Cnt (E : List (Lit × DataW Unit)) (seen : List (List UInt8)) : Prop := ∀ (s : ByteArray) (v : Int), (DataW.map E).atKey (Mi.key s) (Mi.val 0) = Mi.val v → v = if s.data.toList ∈ seen then 1 else 0
theorem val_inj {a b : Int} (h : Mi.val a = Mi.val b) : a = b := by
  unfold Mi.val at h
  injection h with h
  injection h
theorem cnt_nil : Cnt [] [] := by
  intro s v h
  rw [if_neg (by simp)]
  have h : Mi.val 0 = Mi.val v := h
  exact (val_inj h).symm
theorem put_same (E : List (Lit × DataW Unit)) (s : ByteArray) (n v : Int) (h : (DataW.map (ChangeMaps.putKey (Mi.key s) (Mi.val n) E)).atKey (Mi.key s) (Mi.val 0) = Mi.val v) : v = n := by
  have h2 := Maps.atKey_put_same (D := DataW.map E) (k := Mi.key s) ⟨E, rfl⟩ (by unfold Mi.key WideAt.IsKeyLit; trivial) (Mi.val n) (Mi.val 0)
  have h3 : (DataW.map (ChangeMaps.putKey (Mi.key s) (Mi.val n) E)).atKey (Mi.key s) (Mi.val 0) = Mi.val n := h2
  exact (val_inj (h3.symm.trans h)).symm
theorem cnt_put {E : List (Lit × DataW Unit)} {seen : List (List UInt8)} (h : Cnt E seen) (s : ByteArray) (hs : s.data.toList ∉ seen) : Cnt (ChangeMaps.putKey (Mi.key s) (Mi.val 1) E) (s.data.toList :: seen) := by
  intro t v hv
  by_cases he : t.data.toList = s.data.toList
  · rw [if_pos (by simp [he])]
    have hk : Mi.key t = Mi.key s := by unfold Mi.key; rw [he]
    rw [hk] at hv
    exact put_same E s 1 v hv
  · have hne : Mi.key t ≠ Mi.key s := by unfold Mi.key; intro h2; injection h2 with h2; exact he h2
    have h2 := Maps.atKey_put_other (D := DataW.map E) hne (Mi.val 1) (Mi.val 0)
    have h3 : (DataW.map (ChangeMaps.putKey (Mi.key s) (Mi.val 1) E)).atKey (Mi.key t) (Mi.val 0) = (DataW.map E).atKey (Mi.key t) (Mi.val 0) := h2
    have := h t v (h3.symm.trans hv)
    rw [this]
    by_cases hm : t.data.toList ∈ seen
    · rw [if_pos hm, if_pos (List.mem_cons_of_mem _ hm)]
    · rw [if_neg hm, if_neg (by simp [he, hm])]
theorem put_len (E : List (Lit × DataW Unit)) (k : Lit) (v : DataW Unit) : (ChangeMaps.putKey k v E).length ≤ E.length + 1 := by
  unfold ChangeMaps.putKey
  rw [length_insert]
  have := List.length_filter_le (ChangeMaps.notKey k) E
  omega
theorem rowsL_len (V : S24 → List Int × Bool) : ∀ (l : List S24) (out : List Int) (seen : List (List UInt8)), out.length ≤ 2000 → (rowsL V l out seen).1.length ≤ 2000
  | [], out, _, h => h
  | x :: l, out, seen, h => by
    unfold rowsL
    split
    · split
      · rename_i h2
        exact rowsL_len V l _ _ h2
      · simp
    · simp
theorem rowsP_len : ∀ (n : Nat) (l : List S24), (rowsP n l).1.length ≤ 2000
  | 0, _ => by simp [rowsP]
  | n + 1, l => by
    unfold rowsP
    split
    · exact rowsL_len _ l [] [] (by simp)
    · simp
theorem bytesOf_len (s : ByteArray) : (bytesOf s).length = s.size := by unfold bytesOf; rw [List.length_map, Array.length_toList]; rfl
theorem wf64 (n : Int) : (Lit.int .i64 (wrap64 n)).wf = true := by
  have h : -9223372036854775808 ≤ wrap64 n ∧ wrap64 n ≤ 9223372036854775807 := by unfold wrap64; omega
  simp [Lit.wf, IntKind.min, IntKind.max, IntKind.signed, IntKind.bits]
  omega
theorem wd4 : wd 4 = 4 := by decide
theorem wd8 : wd 8 = 8 := by decide
/-- A field's value as the printed function tells it. -/
theorem value_f (x : S24) (a : Int) (n : Nat) (h1 : 1 ≤ a) (h8 : a ≤ 8) (hn : (9 - (a + 1)).toNat = n) (hs : x.f3.size ≤ 1000000000) (ht : tame n x.f4 = true) :
    tabl_value.f 20 x.f0 x.f1 x.f2 x.f3 x.f4 a = some (valP (rowsP n) x) := by
  have hR : tabl_rows.f x.f4 (wrap64 (a + 1)) = some (rowsP n x.f4) := by
    rw [w64_id _ (by omega) (by omega)]
    unfold tabl_rows.f
    rw [if_pos ⟨by omega, by omega, by rw [hn]; exact ht⟩, hn]
  have hI4 : ∀ v, octs_Int.f 18 [] 4 v = some (be 4 v) := fun v => by rw [Int_f 18 (by omega) [] 4 v (by simp), wd4]; rfl
  have hI8 : ∀ v, octs_Int.f 18 [] 8 v = some (be 8 v) := fun v => by rw [Int_f 18 (by omega) [] 8 v (by simp), wd8]; rfl
  have hL1 : octs_Long.f 18 [] (bytesOf x.f3) = some (be 4 (x.f3.size : Int) ++ bytesOf x.f3) := by
    have := bytesOf_len x.f3
    rw [Long_f 18 [] _ (by omega) (by simp; omega), this]
    rfl
  have hL2 : octs_Long.f 18 [] (rowsP n x.f4).1 = some (be 4 ((rowsP n x.f4).1.length : Int) ++ (rowsP n x.f4).1) := by
    have := rowsP_len n x.f4
    rw [Long_f 18 [] _ (by omega) (by simp; omega)]
    rfl
  have hb : tabl_value.f 20 x.f0 x.f1 x.f2 x.f3 x.f4 a = tabl_value.j1 19 a (decide (x.f2 = 0) && bare x) (bare x) x.f0 x.f1 x.f2 x.f3 x.f4 := by
    unfold tabl_value.f bare
    simp only [tabl_value.j0]
    have hE : ((x.f4.length : Int) == 0) = decide (x.f4.length = 0) := by rw [Bool.eq_iff_iff]; simp
    have hS : x.f3.toList.isEmpty = decide (x.f3.toList = []) := by rw [Bool.eq_iff_iff]; simp
    rw [hE, hS]
    by_cases e1 : x.f2 = 0 <;> by_cases e2 : x.f3.toList = [] <;> by_cases e3 : x.f4.length = 0 <;> simp [e1, e2, e3]
  rw [hb]
  simp only [tabl_value.j1, hI4, hI8, hL1, hR, Option.bind_some, hL2]
  unfold valP
  have hsz : x.f3.size ≤ 9223372036854775807 := by omega
  generalize bare x = B
  obtain ⟨t, b⟩ := rowsP n x.f4
  by_cases c1 : x.f1 = 116
  · simp only [c1, if_true]
    have hE : (x.f2 == 1) = decide (x.f2 = 1) := by rw [Bool.eq_iff_iff]; simp
    rw [hE]
    by_cases e1 : x.f2 = 0 <;> cases B <;> simp [e1]
  · rw [if_neg c1, if_neg c1]
    by_cases c2 : x.f1 = 73
    · simp only [c2, if_true]
      by_cases e1 : x.f2 ≥ -2147483648 <;> cases B <;> simp [e1]
    · rw [if_neg c2, if_neg c2]
      by_cases c3 : x.f1 = 108
      · simp only [c3, if_true]
      · rw [if_neg c3, if_neg c3]
        by_cases c4 : x.f1 = 83
        · simp only [c4, if_true, hsz]
          have hE : decide ((x.f3.size : Int) ≤ 2000) = decide (x.f3.size ≤ 2000) := by rw [Bool.eq_iff_iff]; simp only [decide_eq_true_eq]; omega
          rw [hE]
          by_cases e1 : x.f2 = 0 <;> by_cases e2 : x.f4.length = 0 <;> simp [e1, e2]
        · rw [if_neg c4, if_neg c4]
          by_cases c5 : x.f1 = 70
          · simp only [c5, if_true]
            by_cases e1 : x.f2 = 0 <;> cases b <;> simp [e1]
          · rw [if_neg c5, if_neg c5]
            by_cases c6 : x.f1 = 86
            · simp only [c6, if_true]
            · rw [if_neg c6, if_neg c6]
theorem drop24_ (l : List S24) (i : Int) (h0 : 0 ≤ i) (h : i < (l.length : Int)) : l.drop i.toNat = rd_T24 l i :: l.drop (i.toNat + 1) := by
  rw [List.drop_eq_getElem_cons (by omega : i.toNat < l.length)]
  simp [rd_T24, List.getD_eq_getElem?_getD, List.getElem?_eq_getElem (by omega : i.toNat < l.length)]
theorem mem24 (l : List S24) (i : Int) (h0 : 0 ≤ i) (h : i < (l.length : Int)) : rd_T24 l i ∈ l := by
  simp [rd_T24, List.getD_eq_getElem?_getD, List.getElem?_eq_getElem (by omega : i.toNat < l.length)]
theorem tame_mem {n : Nat} {l : List S24} (h : tame (n + 1) l = true) {x : S24} (hx : x ∈ l) : (x.f0.size ≤ 1000000000 ∧ x.f3.size ≤ 1000000000) ∧ tame n x.f4 = true := by
  unfold tame at h
  have := List.all_eq_true.1 h x hx
  simpa using this
theorem valP_len (n : Nat) (x : S24) : (valP (rowsP n) x).1.length ≤ 2008 + x.f3.size := by
  have h := rowsP_len n x.f4
  have h2 := bytesOf_len x.f3
  unfold valP
  (repeat' split) <;> simp [be_len, h2] <;> omega
theorem nil_iff (s : ByteArray) : s.toList = ([] : List UInt8) ↔ s.size = 0 := by
  rw [← List.length_eq_zero_iff, ByteArray.toList_eq, Array.length_toList]
  rfl
section
variable {V : S24 → List Int × Bool} {x : S24} {l : List S24} {out r1 : List Int} {r2 : Bool} {seen : List (List UInt8)}
theorem rowsL_bad (h : rowsL V (x :: l) out seen = (r1, r2)) (hb : ¬ ((V x).2 = true ∧ x.f0.data.toList ∉ seen ∧ 1 ≤ x.f0.size ∧ x.f0.size ≤ 128)) : r1 = [] ∧ r2 = false := by
  unfold rowsL at h
  rw [if_neg hb] at h
  simpa [eq_comm] using h
theorem rowsL_long (h : rowsL V (x :: l) out seen = (r1, r2)) (hg : (V x).2 = true ∧ x.f0.data.toList ∉ seen ∧ 1 ≤ x.f0.size ∧ x.f0.size ≤ 128) (hl : ¬ (out ++ rowP x (V x).1).length ≤ 2000) : r1 = [] ∧ r2 = false := by
  unfold rowsL at h
  rw [if_pos hg, if_neg hl] at h
  simpa [eq_comm] using h
theorem rowsL_step (h : rowsL V (x :: l) out seen = (r1, r2)) (hg : (V x).2 = true ∧ x.f0.data.toList ∉ seen ∧ 1 ≤ x.f0.size ∧ x.f0.size ≤ 128) (hl : (out ++ rowP x (V x).1).length ≤ 2000) : rowsL V l (out ++ rowP x (V x).1) (x.f0.data.toList :: seen) = (r1, r2) := by
  unfold rowsL at h
  rw [if_pos hg, if_pos hl] at h
  exact h
end
end Tb
end Go.Proofs.Ytfhaffpegncdiaa.PT
