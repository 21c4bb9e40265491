/-
A region that draws its order and only reads, walked in the order of the text: that this order may be taken is told by a table of whole numbers, so that a great region costs the kernel little.
Conditions: the region's operations written out; no select among them; the table's own check.
-/
import Derived.Deep.Quiet
import Derived.BigQuiet
import Derived.KernelRfl
set_option linter.unusedVariables false
set_option linter.unusedSimpArgs false
namespace Go.Proofs.YtpjkaodbcclecaaW.PrintWords
namespace QTab
def tb (m n : Nat) : Bool := Nat.beq (Nat.mod (Nat.shiftRight m n) 2) 1
def mask : List Nat → Nat
  | [] => 0
  | i :: l => Nat.lor (Nat.shiftLeft 1 i) (mask l)
theorem tb_eq (m n : Nat) : tb m n = m.testBit n := by
  rw [Nat.testBit_eq_decide_div_mod_eq]
  show Nat.beq ((m >>> n) % 2) 1 = _
  rw [Nat.shiftRight_eq_div_pow, Bool.eq_iff_iff, decide_eq_true_iff]
  exact Iff.of_eq Nat.beq_eq
theorem mem_mask (l : List Nat) (n : Nat) : tb (mask l) n = true ↔ n ∈ l := by
  rw [tb_eq]
  induction l with
  | nil => simp [mask]
  | cons i l ih =>
    show ((1 <<< i) ||| mask l).testBit n = true ↔ _
    rw [Nat.testBit_or, Nat.one_shiftLeft, Nat.testBit_two_pow, Bool.or_eq_true, ih, decide_eq_true_iff, List.mem_cons]
    constructor
    · rintro (h | h)
      · exact .inl h.symm
      · exact .inr h
    · rintro (h | h)
      · exact .inl h.symm
      · exact .inr h
theorem mask_lt {l : List Nat} {k n : Nat} (h : mask l < 2 ^ k) (hn : n ∈ l) : n < k := by
  rcases Nat.lt_or_ge n k with h1 | h1
  · exact h1
  · have h2 := (mem_mask l n).2 hn
    rw [tb_eq, Nat.testBit_lt_two_pow (Nat.lt_of_lt_of_le h (Nat.pow_le_pow_right (by omega) h1))] at h2
    cases h2
def edgesOf (md : Region.Mode) (o : Oper) : List Nat := (o.after.toList.filter (Region.binds md)).map (·.on)
def dstN (o : Oper) : Nat := match o.dst with
  | none => 0
  | some d => Nat.succ d
def row (md : Region.Mode) (ops : Array Oper) (o : Oper) : Nat × Nat × Nat := (dstN o, mask (o.looksAt ops), mask (edgesOf md o))
def force (n : Nat) (f : Nat → Bool) : Bool := match n with
  | 0 => f 0
  | m + 1 => f (Nat.succ m)
theorem force_eq (n : Nat) (f : Nat → Bool) : force n f = f n := by cases n <;> rfl
def rowsK (md : Region.Mode) (ops : Array Oper) : List Oper → (List (Nat × Nat × Nat) → Bool) → Bool
  | [], k => k []
  | o :: l, k => force (dstN o) fun d => force (mask (o.looksAt ops)) fun a => force (mask (edgesOf md o)) fun e => rowsK md ops l fun rs => k ((d, a, e) :: rs)
theorem rowsK_eq (md : Region.Mode) (ops : Array Oper) : ∀ (l : List Oper) (k : List (Nat × Nat × Nat) → Bool), rowsK md ops l k = k (l.map (row md ops))
  | [], k => rfl
  | o :: l, k => by
    rw [rowsK, force_eq, force_eq, force_eq, rowsK_eq md ops l]
    rfl
def apartQ (r s : Nat × Nat × Nat) : Bool := (Nat.beq r.1 0 || (!tb s.2.1 (Nat.pred r.1) && !Nat.beq s.1 r.1)) && (Nat.beq s.1 0 || !tb r.2.1 (Nat.pred s.1))
def againstQ (k : Nat) (r : Nat × Nat × Nat) : List (Nat × Nat × Nat) → Bool
  | [] => true
  | s :: l => (tb s.2.2 k || apartQ r s) && againstQ k r l
def checkQ : Nat → List (Nat × Nat × Nat) → Bool
  | _, [] => true
  | k, r :: l => Nat.blt r.2.2 (Nat.pow 2 k) && (againstQ k r l && checkQ (Nat.succ k) l)
theorem against_at {k : Nat} {r : Nat × Nat × Nat} : ∀ {l : List (Nat × Nat × Nat)}, againstQ k r l = true → ∀ s ∈ l, (tb s.2.2 k || apartQ r s) = true
  | [], _, s, hs => by simp at hs
  | t :: l, h, s, hs => by
    rw [againstQ, Bool.and_eq_true] at h
    rcases List.mem_cons.1 hs with rfl | hs
    · exact h.1
    · exact against_at h.2 s hs
theorem beq_false {a b : Nat} (h : a ≠ b) : Nat.beq a b = false := by
  cases h' : Nat.beq a b with
  | false => rfl
  | true => exact absurd (Nat.eq_of_beq_eq_true h') h
theorem apart_of {md : Region.Mode} {ops : Array Oper} {x y : Oper} (h : apartQ (row md ops x) (row md ops y) = true) : x.apart ops y = true := by
  unfold apartQ row dstN at h
  unfold Oper.apart
  rw [Bool.and_eq_true] at h ⊢
  obtain ⟨h1, h2⟩ := h
  constructor
  · cases hx : x.dst with
    | none => rfl
    | some d =>
      rw [hx] at h1
      simp only [] at h1
      rw [beq_false (Nat.succ_ne_zero d), Bool.false_or, Bool.and_eq_true] at h1
      obtain ⟨h3, h4⟩ := h1
      show (!(y.looksAt ops).contains d && y.dst != some d) = true
      rw [Bool.and_eq_true]
      constructor
      · cases hc : (y.looksAt ops).contains d with
        | false => rfl
        | true =>
          have := (mem_mask (y.looksAt ops) d).2 (by simpa using hc)
          rw [show Nat.pred (Nat.succ d) = d from rfl, this] at h3
          cases h3
      · cases hy : y.dst with
        | none => rfl
        | some c =>
          rw [hy] at h4
          simp only [] at h4
          by_cases hcd : c = d
          · subst hcd
            rw [Nat.beq_refl] at h4
            cases h4
          · simpa using hcd
  · cases hy : y.dst with
    | none => rfl
    | some c =>
      rw [hy] at h2
      simp only [] at h2
      rw [beq_false (Nat.succ_ne_zero c), Bool.false_or] at h2
      show (!(x.looksAt ops).contains c) = true
      cases hc : (x.looksAt ops).contains c with
      | false => rfl
      | true =>
        have := (mem_mask (x.looksAt ops) c).2 (by simpa using hc)
        rw [show Nat.pred (Nat.succ c) = c from rfl, this] at h2
        cases h2
section
variable {P : Program} {ops : Array Oper} {md : Region.Mode} {C : World → Prop}
theorem getD_at {listed : Array Bool} {n k : Nat} (hL : listed.size = n ∧ ∀ j, j < n → listed[j]? = some (decide (j < k))) (j : Nat) (hj : j < n) (b : Bool) : listed.getD j b = decide (j < k) := by
  rw [Array.getD_eq_getD_getElem?, hL.2 j hj]
  rfl
theorem wpAnyQ_tab {Q : Act → Prop} (hs : Region.noSelect ops = true) : ∀ (l : List Oper) (k : Nat) (listed : Array Bool) (a : Act), (∀ j, l[j]? = ops[k + j]?) → k + l.length = ops.size →
    (listed.size = ops.size ∧ ∀ j, j < ops.size → listed[j]? = some (decide (j < k))) → checkQ k (l.map (row md ops)) = true → wpQuiet P ops C Q l a → wpAnyQ P md ops C Q l.length listed a
  | [], k, listed, a, hl, hk, hL, _, h => by
    refine ⟨?_, h⟩
    rw [List.eq_nil_iff_forall_not_mem]
    intro j hj
    obtain ⟨h1, o, ho, _⟩ := mem_ready.1 hj
    have hjs : j < ops.size := (Array.getElem?_eq_some_iff.1 ho).1
    rw [getD_at hL j hjs true] at h1
    have h2 := of_decide_eq_false h1
    rw [List.length_nil] at hk
    omega
  | o :: l, k, listed, a, hl, hk, hL, hB, h => by
    have h0 : ops[k]? = some o := by simpa using (hl 0).symm
    rw [List.length_cons] at hk
    have hks : k < ops.size := by omega
    rw [List.map_cons, checkQ, Bool.and_eq_true, Bool.and_eq_true] at hB
    obtain ⟨hb, hg, hB'⟩ := hB
    have hb : mask (edgesOf md o) < 2 ^ k := by
      have : Nat.blt (mask (edgesOf md o)) (2 ^ k) = true := hb
      exact Nat.le_of_ble_eq_true this
    have hst : qOp P ops C k (wpQuiet P ops C Q l) a := by unfold qOp; simp only [h0]; exact h
    obtain ⟨v, hy, hK⟩ := yieldsIn_of_qOp h0 hst
    refine wpAnyQ_first h0 (Region.noSelect_spec hs) l.length listed a ?_ ?_ hy ?_
    · intro j oj hj hne hun hno
      have hjs : j < ops.size := (Array.getElem?_eq_some_iff.1 hj).1
      rw [getD_at hL j hjs true] at hun
      have hjk := of_decide_eq_false hun
      have hlj : (o :: l)[j - k]? = some oj := by rw [hl (j - k), show k + (j - k) = j by omega]; exact hj
      obtain ⟨m, hm⟩ : ∃ m, j - k = m + 1 := ⟨j - k - 1, by omega⟩
      rw [hm, List.getElem?_cons_succ] at hlj
      have hmem : row md ops oj ∈ l.map (row md ops) := List.mem_map_of_mem (List.mem_of_getElem? hlj)
      have h5 := against_at hg _ hmem
      rw [Bool.or_eq_true] at h5
      rcases h5 with h5 | h5
      · exfalso
        have h6 := (mem_mask (edgesOf md oj) k).1 h5
        unfold edgesOf at h6
        obtain ⟨e, he, hek⟩ := List.mem_map.1 h6
        obtain ⟨he1, he2⟩ := List.mem_filter.1 he
        exact hno e (by simpa using he1) he2 hek
      · exact apart_of h5
    · refine mem_ready.2 ⟨?_, o, h0, ?_⟩
      · rw [getD_at hL k hks true]; simp
      · intro e he hbe
        have h6 : e.on ∈ edgesOf md o := List.mem_map.2 ⟨e, List.mem_filter.2 ⟨by simpa using he, hbe⟩, rfl⟩
        have h7 := mask_lt hb h6
        rw [getD_at hL e.on (by omega) false]
        exact decide_eq_true h7
    · refine wpAnyQ_tab hs l (k + 1) _ _ (fun j => by have := hl (j + 1); simpa [Nat.add_assoc, Nat.add_comm 1 j] using this) (by omega) ⟨by rw [Array.size_setIfInBounds]; exact hL.1, fun j hj => ?_⟩ hB' hK
      rw [Array.getElem?_setIfInBounds]
      by_cases hjk : k = j
      · subst hjk
        rw [if_pos rfl, if_pos (by rw [hL.1]; exact hks), decide_eq_true (by omega)]
      · rw [if_neg hjk, hL.2 j hj]
        congr 1
        rw [Bool.eq_iff_iff, decide_eq_true_iff, decide_eq_true_iff]
        omega
theorem wp_region_quiet_tab {id : Nat} {Q : Exit → Act → World → Prop} {a : Act} {w : World} {l : List Oper} (hm : P.follows .mixedOrders = true) (hs : Region.noSelect l.toArray = true) (hT : rowsK .any l.toArray l (checkQ 0) = true)
    (h : wpQuiet P l.toArray (fun w' => ∃ n, w' = w.drewN n) (fun a' => ∀ w', (∃ n, w' = w.drewN n) → Q .normal a' w') l a) : (Code.region id l.toArray true).wp P Q a w := by
  rw [rowsK_eq] at hT
  refine wp_region_any hm (wpAny_of_quiet (C := fun w' => ∃ n, w' = w.drewN n) (Q := fun a' => ∀ w', (∃ n, w' = w.drewN n) → Q .normal a' w') (fun _ w' hw' h => h w' hw') _ _ _ _ ⟨1, rfl⟩ ?_)
  have := wpAnyQ_tab (P := P) (C := fun w' => ∃ n, w' = w.drewN n) (md := .any) (Q := fun a' => ∀ w', (∃ n, w' = w.drewN n) → Q .normal a' w') hs l 0 (Array.replicate l.toArray.size false) a (by simp) (by simp) ⟨by simp, fun j hj => by
    rw [Array.getElem?_replicate, if_pos hj]; simp⟩ hT h
  simpa using this
end
end QTab
end Go.Proofs.YtpjkaodbcclecaaW.PrintWords
