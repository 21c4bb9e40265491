/-
Words that the print lacks: a string turned into octets makes a row of its own, behind whose end one cell is frozen: it may be stored into.
Conditions: as each says.
-/
import Derived.Test.YtpjkaodbcclecaaXWords
import Derived.Lib.FrozenHead
set_option linter.unusedVariables false
set_option linter.unusedSimpArgs false
namespace Go.Proofs.YtpjkaodbcclecaaW.PrintWords
open Go.RowKit
namespace Kd
/-- A row of octets of the call's own; the cells from its end on may be frozen. -/
def U (d : Kd Int) (e : Nat) (w : World) (base : Nat) (ok : Nat → Prop) (v : Value) (xs : List Int) : Prop :=
  d = Kd.int .u8 ∧ xs.length ≤ 9223372036854775807 ∧ ∃ g cap lo hi, ∃ cur : Array Value, v = .slice (some ⟨g, 0, none⟩) xs.length cap ∧ base ≤ g ∧ ok g ∧ w.heap[g]? = some (.cells cur e (lo, hi)) ∧ xs.length ≤ cap ∧ xs.length ≤ lo ∧ ∀ (j : Nat) (p : Int), xs[j]? = some p → cur[j]? = some (Value.int .u8 p)
section
variable {d : Kd Int} {e base n c g : Nat} {ok ok' : Nat → Prop} {w w1 W : World} {A : Option Addr} {u v : Value} {xs : List Int}
theorem C_cells (hm : xs.length ≤ 9223372036854775807) (hc : ∀ (j : Nat) (p : Int), xs[j]? = some p → W.cell? ⟨g, j, none⟩ = some (.int .u8 p)) : (Kd.int .u8).C W (some ⟨g, 0, none⟩) xs.length xs := by
  refine ⟨rfl, hm, fun hn => ⟨⟨g, 0, none⟩, rfl, fun j p hj => ⟨[.int .u8 p], rfl, rfl, fun i v hi => ?_⟩⟩⟩
  have hi0 : i = 0 := by
    have := (List.getElem?_eq_some_iff.1 hi).1
    simpa using this
  subst hi0
  have hv : v = .int .u8 p := by simpa using hi.symm
  subst hv
  have hadd : (⟨g, 0, none⟩ : Addr).add (j * (Kd.int .u8).sz + 0) = ⟨g, j, none⟩ := by
    show (⟨g, 0, none⟩ : Addr).add (j * 1 + 0) = _
    unfold Addr.add
    by_cases hj0 : j = 0
    · subst hj0; rfl
    · simp [hj0]
  rw [hadd]
  exact hc j p hj
theorem U_mono (h : U d e w base ok v xs) (hok : ∀ k, ok k → ok' k) : U d e w base ok' v xs := by
  obtain ⟨hd, hm, g, cap, lo, hi, cur, h1, h2, h3, h4⟩ := h
  exact ⟨hd, hm, g, cap, lo, hi, cur, h1, h2, hok g h3, h4⟩
theorem U_lower {base' : Nat} (h : U d e w base ok v xs) (hb : base' ≤ base) : U d e w base' ok v xs := by
  obtain ⟨hd, hm, g, cap, lo, hi, cur, h1, h2, h3⟩ := h
  exact ⟨hd, hm, g, cap, lo, hi, cur, h1, Nat.le_trans hb h2, h3⟩
theorem U_bound (h : U d e w base ok v xs) : U d e w base (fun k => ok k ∧ base ≤ k ∧ k < w.heap.size) v xs := by
  obtain ⟨hd, hm, g, cap, lo, hi, cur, h1, h2, h3, h4, h5⟩ := h
  exact ⟨hd, hm, g, cap, lo, hi, cur, h1, h2, ⟨h3, h2, (Array.getElem?_eq_some_iff.1 h4).1⟩, h4, h5⟩
theorem U_step (h : U d e w base ok v xs) (hm : ∀ k, ok k → k < w.heap.size → w1.heap[k]? = w.heap[k]?) : U d e w1 base ok v xs := by
  obtain ⟨hd, hl, g, cap, lo, hi, cur, h1, h2, h3, h4, h5⟩ := h
  exact ⟨hd, hl, g, cap, lo, hi, cur, h1, h2, h3, (hm g h3 (Array.getElem?_eq_some_iff.1 h4).1).trans h4, h5⟩
theorem U_below (h : U d e w base ok v xs) (hb : Below w.heap.size w w1) : U d e w1 base ok v xs := U_step h (fun k _ hk => hb.block k hk)
theorem U_alloc (h : U d e w base ok v xs) (o : Obj) : U d e (w.alloc o) base ok v xs := U_below h (below_alloc (Below.refl _ _) o)
theorem U_drew (h : U d e w base ok v xs) : U d e w.drew base ok v xs := U_below h (below_drew (Below.refl _ _))
theorem U_drewN (h : U d e w base ok v xs) (m : Nat) : U d e (w.drewN m) base ok v xs := U_below h (pw_below_drewN (Below.refl _ _) m)
theorem U_far (h : U d e w base ok v xs) {p : Addr} (hok : ∀ k, ok k → k ≠ p.block) (u : Value) : U d e (w.setCell p u) base ok v xs := U_step h (fun k ho _ => Below.heap_setCell w p u k (hok k ho))
theorem U_newM {M : Nat → Prop} (h : U d e w1 W.heap.size ok v xs) (hle : w.heap.size ≤ W.heap.size) (hM : ∀ k, w.heap.size ≤ k → M k) : U d e w1 W.heap.size (fun k => M k ∧ ok k) v xs := U_mono (U_bound h) (fun k hk => ⟨hM k (Nat.le_trans hle hk.2.1), hk.1⟩)
theorem U_types (h : U d e w base ok v xs) {g t : Nat} {cells : Array Value} (hb : w.heap[g]? = some (.cells cells t (0, 0))) (ht : ∀ q, q ∈ e :: d.E → q ≠ t) : U d e w base (fun k => ok k ∧ k ≠ g) v xs := by
  obtain ⟨hd, hm, g', cap, lo, hi, cur, h1, h2, h3, h4, h5⟩ := h
  refine ⟨hd, hm, g', cap, lo, hi, cur, h1, h2, ⟨h3, ?_⟩, h4, h5⟩
  rintro rfl
  rw [hb] at h4
  injection h4 with h4
  injection h4 with _ h4
  exact ht e List.mem_cons_self h4.symm
theorem U_slice (h : U d e w base ok v xs) : ∃ A c, v = .slice A xs.length c := by
  obtain ⟨_, _, g, cap, _, _, _, h1, _⟩ := h
  exact ⟨_, _, h1⟩
theorem U_reads' (h : U d e w base ok (.slice A n c) xs) : n = xs.length ∧ n ≤ c ∧ d.C w A xs.length xs := by
  obtain ⟨rfl, hm, g, cap, lo, hi, cur, h1, h2, h3, h4, h5, h6, h7⟩ := h
  injection h1 with ha hn hc
  subst ha; subst hn; subst hc
  refine ⟨rfl, h5, C_cells hm (fun j p hj => ?_)⟩
  have := h7 j p hj
  simp only [World.cell?, h4]
  exact this
theorem U_base (h : U d e w base ok v xs) : ∀ k, v.ownBlock = some k → base ≤ k := by
  obtain ⟨_, _, g, cap, _, _, _, rfl, h2, _⟩ := h
  intro k hk
  have : g = k := by simpa [Value.ownBlock] using hk
  subst this
  exact h2
theorem U_ne (h : U d e w base ok v xs) {g t : Nat} {cells : Array Value} (hb : w.heap[g]? = some (.cells cells t (0, 0))) (ht : e ≠ t) : some g ≠ v.ownBlock := by
  obtain ⟨_, _, g', cap, _, _, _, rfl, _, _, h4, _⟩ := h
  intro hk
  have : g = g' := by simpa [Value.ownBlock] using hk
  subst this
  rw [hb] at h4
  injection h4 with h4
  injection h4 with _ h4
  exact ht h4.symm
theorem U_form (h : U d e w base ok v xs) (_hp : 0 < xs.length) : ∃ g cap, v = .slice (some ⟨g, 0, none⟩) xs.length cap ∧ base ≤ g ∧ g < w.heap.size ∧ ∃ o, w.heap[g]? = some o := by
  obtain ⟨_, _, g, cap, _, _, _, h1, h2, _, h4, _⟩ := h
  exact ⟨g, cap, h1, h2, (Array.getElem?_eq_some_iff.1 h4).1, _, h4⟩
theorem U_celln (_z : Int) (h : U (Kd.int .u8) e W base ok (.slice (some ⟨g, 0, none⟩) n c) xs) (i : Int) (h0 : 0 ≤ i) (hi : i < n) : W.cell? ⟨g, i.toNat, none⟩ = some (.int .u8 (rd xs i)) ∧ W.frozen? ⟨g, i.toNat, none⟩ = false := by
  obtain ⟨_, hm, g', cap, lo, hi', cur, h1, h2, h3, h4, h5, h6, h7⟩ := h
  injection h1 with ha hn hc
  injection ha with ha
  injection ha with ha
  subst ha; subst hn
  have hlt : i.toNat < xs.length := by omega
  have hx : xs[i.toNat]? = some (rd xs i) := by
    unfold rd
    rw [List.getD_eq_getElem?_getD, List.getElem?_eq_getElem hlt]
    rfl
  refine ⟨?_, ?_⟩
  · simp only [World.cell?, h4]
    exact h7 _ _ hx
  · simp only [World.frozen?, h4, Bool.and_eq_false_iff, decide_eq_false_iff_not]
    left
    omega
theorem U_putg (h : U (Kd.int .u8) e W base ok (.slice (some ⟨g, 0, none⟩) n c) xs) (i : Int) (x : Int) : U (Kd.int .u8) e (W.setCell ⟨g, i.toNat, none⟩ (.int .u8 x)) base ok (.slice (some ⟨g, 0, none⟩) n c) (xs.set i.toNat x) ∧ W.grownBy (W.setCell ⟨g, i.toNat, none⟩ (.int .u8 x)) (some g) := by
  obtain ⟨_, hm, g', cap, lo, hi', cur, h1, h2, h3, h4, h5, h6, h7⟩ := h
  injection h1 with ha hn hc
  injection ha with ha
  injection ha with ha
  subst ha; subst hn; subst hc
  have hself : (W.setCell ⟨g, i.toNat, none⟩ (.int .u8 x)).heap[g]? = some (.cells (cur.setIfInBounds i.toNat (.int .u8 x)) e (lo, hi')) := by
    rw [setCell_eq_setRow W g i.toNat cur e (lo, hi') (.int .u8 x) h4]
    exact setRow_heap W g cur _ e _ h4
  refine ⟨⟨rfl, by rw [List.length_set]; exact hm, g, c, lo, hi', _, by rw [List.length_set], h2, h3, hself, by rw [List.length_set]; exact h5, by rw [List.length_set]; exact h6, fun j p hj => ?_⟩, ?_⟩
  · rw [List.getElem?_set] at hj
    by_cases e1 : i.toNat = j
    · subst e1
      rw [if_pos rfl] at hj
      by_cases e2 : i.toNat < xs.length
      · rw [if_pos e2] at hj
        have hx := h7 _ _ (List.getElem?_eq_getElem e2)
        have hsz := (Array.getElem?_eq_some_iff.1 hx).1
        simp only [Option.some.injEq] at hj
        subst hj
        simp [Array.getElem?_setIfInBounds, hsz]
      · rw [if_neg e2] at hj; cases hj
    · rw [if_neg e1] at hj
      rw [Array.getElem?_setIfInBounds_ne e1]
      exact h7 j p hj
  · refine ⟨?_, ?_, ?_, ?_, fun k hk hne => Below.heap_setCell W _ _ k (fun e => hne (by rw [e]))⟩ <;> simp [World.setCell]
end
section
variable {P : Program} {ops : Array Oper} {rest : List Oper} {o : Oper} {a : Act} {Q : Exit → Act → World → Prop}
/-- '[]byte(s)': a row of the call's own. -/
theorem U_conv {w0 W : World} (base e src dst : Nat) {u : TypeDesc} (hgd : o.guard = none) {N : Tmp} (_hd : o.dst = some N) (s : ByteArray) (x : Operand) (ho : o.op = .convert src dst x) (hx : a.eval x = .string s)
    (hs : P.underlying src = some u) (hd : P.underlying dst = some (.slice e)) (he : P.underlying e = some (.int .u8)) (HB : Below base w0 W) (hbase : base ≤ W.heap.size) (hm : s.size ≤ 9223372036854775807)
    (h : ∀ v1 w1, Kd.U (Kd.int .u8) e w1 W.heap.size (fun k_ => W.heap.size ≤ k_) v1 (bytesOf s) → Below base w0 w1 → W.grownBy w1 none → (∃ b, v1.ownBlock = some b ∧ W.heap.size ≤ b) → wpList P ops Q rest (a.put o.dst v1) w1) :
    wpList P ops Q (o :: rest) a W := by
  have hrun : (execOp a.eval o).run P W = .ok (.value (.slice (some ⟨W.heap.size, 0, none⟩) s.size (grownCap W s.size 0 e))) (Lib.bytesWorld W e s) := by
    unfold execOp
    simp only [ho, hx]
    simp [Lib.run_convert_string_bytes W src dst e s hs hd he]
  have hlen : (bytesOf s).length = s.size := by unfold bytesOf; rw [List.length_map, Array.length_toList]; rfl
  have hcap : s.size ≤ grownCap W s.size 0 e := grownCap_ge W s.size 0 e
  have hcs : (Lib.bytesCells W e s).size = grownCap W s.size 0 e := by
    unfold Lib.bytesCells
    rw [Array.size_append, Array.size_map, Array.size_replicate]
    show s.size + _ = _
    omega
  have hblk : (Lib.bytesWorld W e s).heap[W.heap.size]? = some (.cells (Lib.bytesCells W e s) e ((Lib.bytesCells W e s).size, (Lib.bytesCells W e s).size + 1)) := by
    simp [Lib.bytesWorld, World.freeze, World.alloc, World.drew, -World.alloc_eq, -World.drew_eq, Array.getElem?_modify, Array.getElem?_push, Array.getElem_modify, Array.getElem_push_eq]
  have hcell : ∀ (j : Nat) (p : Int), (bytesOf s)[j]? = some p → (Lib.bytesCells W e s)[j]? = some (Value.int .u8 p) := by
    intro j p hj
    have := conv_cell W e s j p hj _ rfl
    simp only [World.cell?, hblk] at this
    exact this
  refine event_run hgd hrun (h _ _ ⟨rfl, by rw [hlen]; exact hm, W.heap.size, grownCap W s.size 0 e, _, _, _, by rw [hlen], Nat.le_refl _, Nat.le_refl _, hblk, by rw [hlen]; exact hcap, by rw [hlen, hcs]; exact hcap, hcell⟩ ⟨HB.os, HB.tape, HB.output, ?_, ?_⟩ ?_ ⟨W.heap.size, by simp [Value.ownBlock], Nat.le_refl _⟩)
  · rw [Lib.bytesWorld_size]; have := HB.size; omega
  · intro k hk
    rw [Lib.bytesWorld_at_old W e s k (by omega)]
    exact HB.block k hk
  · exact ⟨rfl, rfl, rfl, by rw [Lib.bytesWorld_size]; omega, fun k hk _ => Lib.bytesWorld_at_old W e s k hk⟩
end
end Kd
end Go.Proofs.YtpjkaodbcclecaaW.PrintWords
