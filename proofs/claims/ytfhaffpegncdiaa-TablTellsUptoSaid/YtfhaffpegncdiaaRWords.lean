/-
What comes in as data, opened at whatever depth: a value's reading gives what its cells say, kind by kind (numbers, bools, texts, structs, rows of them).
Conditions: the types as the program's tables have them.
-/
import Derived.Test.YtfhaffpegncdiaaWMore
import Derived.ChangeArms
import Derived.ChangeSlices
set_option linter.unusedVariables false
set_option linter.unusedSimpArgs false
namespace Go.Proofs.YtfhaffpegncdiaaW.PrintWords
open Go.RowKit
/-- Every reading of type t gives an element of the kind d, of which 'ok' holds. -/
def Opens {α : Type} (P : Program) (d : Kd α) (t : TypeId) (ok : α → Prop) : Prop :=
  d.sz = P.cellsOf t ∧ ∀ {H : Type} (enc : TypeId × Value → H) (w : World) (fuel : Nat) (cs : List Value) (x : DataW H × List MemPlace),
    DataW.trod enc P w 0 (fun _ => true) true fuel t cs = some x → ∃ a, d.K w a cs ∧ ok a
namespace Opens
variable {P : Program} {t e : TypeId}
theorem int {k : IntKind} (ht : P.underlying t = some (.int k)) (hc : P.cellsOf t = 1) : Opens P (Kd.int k) t (fun n => (Lit.int k n).wf = true) := by
  refine ⟨hc.symm, ?_⟩
  intro H enc w fuel cs x h
  obtain ⟨n, rfl, _, hw⟩ := DataW.trod_int ht h
  exact ⟨n, rfl, hw⟩
theorem bool (ht : P.underlying t = some .bool) (hc : P.cellsOf t = 1) : Opens P Kd.bool t (fun _ => True) := by
  refine ⟨hc.symm, ?_⟩
  intro H enc w fuel cs x h
  obtain ⟨b, rfl, _⟩ := DataW.trod_bool ht h
  exact ⟨b, rfl, trivial⟩
theorem string (ht : P.underlying t = some .string) (hc : P.cellsOf t = 1) : Opens P Kd.string t (fun s => s.size ≤ maxLen) := by
  refine ⟨hc.symm, ?_⟩
  intro H enc w fuel cs x h
  obtain ⟨s, rfl, _, hs⟩ := DataW.trod_string ht h
  exact ⟨s, rfl, hs⟩
theorem cells_of {w : World} {b n : Nat} {a : Addr} {cs : List Value} (h : w.cells? b a n = some cs) : cs.length = n ∧ ∀ i u, cs[i]? = some u → w.cell? (a.add i) = some u := by
  obtain ⟨_, hl, hc⟩ := World.cells?_some h
  refine ⟨hl, fun i u hi => ?_⟩
  have hlt := (List.getElem?_eq_some_iff.1 hi).1
  rw [hc i (by omega)]; exact hi
theorem row_of {α : Type} {d : Kd α} {ok : α → Prop} {H : Type} (enc : TypeId × Value → H) (w : World) (a : Addr) (m : Nat) (h : Opens P d e ok) :
    ∀ (len : Nat) (elems : List (DataW H × List MemPlace)), elems.length = len →
      (∀ i, i < len → (w.cells? 0 (a.add (i * P.cellsOf e)) (P.cellsOf e)).bind (DataW.trod enc P w 0 (fun _ => true) true m e) = elems[i]?) →
      ∃ xs : List α, xs.length = len ∧ (∀ x ∈ xs, ok x) ∧ ∀ j p, xs[j]? = some p → ∃ c, c.length = d.sz ∧ d.K w p c ∧ ∀ i u, c[i]? = some u → w.cell? ((a.add (j * d.sz)).add i) = some u := by
  intro len
  induction len with
  | zero => intro elems _ _; exact ⟨[], rfl, by simp, by simp⟩
  | succ len ih =>
    intro elems hl he
    obtain ⟨xs, hx, hok, hc⟩ := ih (elems.take len) (by rw [List.length_take]; omega) (fun i hi => by
      rw [he i (by omega), List.getElem?_take, if_pos hi])
    have h1 := he len (by omega)
    rw [List.getElem?_eq_getElem (by omega)] at h1
    obtain ⟨cs, h2, h3⟩ := Option.bind_eq_some_iff.1 h1
    obtain ⟨y, hK, hy⟩ := h.2 enc w m cs _ h3
    obtain ⟨hcl, hcc⟩ := cells_of h2
    refine ⟨xs ++ [y], by simp [hx], ?_, ?_⟩
    · intro x hm
      rcases List.mem_append.1 hm with hm | hm
      · exact hok x hm
      · simp at hm; rw [hm]; exact hy
    · intro j p hj
      by_cases hjl : j < xs.length
      · rw [List.getElem?_append_left hjl] at hj
        exact hc j p hj
      · have hj2 : j = len := by
          have := (List.getElem?_eq_some_iff.1 hj).1
          simp at this; omega
        subst hj2
        have : p = y := by
          rw [List.getElem?_append_right (by omega), hx] at hj
          simpa using hj.symm
        subst this
        exact ⟨cs, by rw [hcl, h.1], hK, fun i u hi => by rw [h.1]; exact hcc i u hi⟩
theorem slice {α : Type} {d : Kd α} {ok : α → Prop} (ht : P.underlying t = some (.slice e)) (hc : P.cellsOf t = 1) (h : Opens P d e ok) :
    Opens P (Kd.slice e d) t (fun xs => xs.length ≤ maxLen ∧ ∀ x ∈ xs, ok x) := by
  refine ⟨hc.symm, ?_⟩
  intro H enc w fuel cs x hx
  rcases DataW.trod_slice ht hx with ⟨rfl, _⟩ | ⟨a, len, cap, elems, rest, m, _, rfl, _, _, hlc, hcm, hel, he, _⟩
  · exact ⟨[], ⟨none, 0, rfl, Nat.le_refl _, Kd.C_nil d w⟩, by simp, by simp⟩
  · obtain ⟨xs, hxl, hok, hcell⟩ := row_of enc w a m h len elems hel he
    refine ⟨xs, ⟨some a, cap, by rw [hxl], by omega, rfl, ?_, fun hn => ⟨a, rfl, fun j p hj => ?_⟩⟩, by omega, hok⟩
    · simp only [maxLen] at hcm; omega
    · obtain ⟨c, h1, h2, h3⟩ := hcell j p hj
      exact ⟨c, h1, h2, fun i u hi => by
        have := h3 i u hi
        rwa [add_add] at this⟩
/-- The fields of a struct, from one on. -/
def L {α : Type} (P : Program) (d : Kd α) (o : Nat) (fs : List Field) (ok : α → Prop) : Prop :=
  ∀ (H : Type) (enc : TypeId × Value → H) (w : World) (m : Nat) (cs : List Value) (xs : List (DataW H × List MemPlace)), xs.length = fs.length → o + d.sz ≤ cs.length →
    (∀ (i : Nat) (f : Field), fs[i]? = some f → DataW.trod enc P w 0 (fun _ => true) true m f.type ((cs.drop f.offset).take (P.cellsOf f.type)) = xs[i]?) → ∃ a, d.K w a ((cs.drop o).take d.sz) ∧ ok a
theorem cons {α β : Type} {a : Kd α} {b : Kd β} {oka : α → Prop} {okb : β → Prop} {o o' : Nat} {f : Field} {fs : List Field} {tf : TypeId} (h : Opens P a tf oka) (hf : f.type = tf) (ho : f.offset = o) (ho' : o + a.sz = o') (hb : L P b o' fs okb) :
    L P (Kd.pair a b) o (f :: fs) (fun x => oka x.1 ∧ okb x.2) := by
  intro H enc w m cs xs hl hlen hx
  have hsz : (Kd.pair a b).sz = a.sz + b.sz := rfl
  rw [hsz] at hlen
  have h1 := hx 0 f rfl
  cases xs with
  | nil => simp at hl
  | cons y ys =>
    have h1' : DataW.trod enc P w 0 (fun _ => true) true m f.type ((cs.drop f.offset).take (P.cellsOf f.type)) = some y := h1
    rw [hf, ho, ← h.1] at h1'
    obtain ⟨x0, hK0, hok0⟩ := h.2 enc w m _ _ h1'
    obtain ⟨x1, hK1, hok1⟩ := hb H enc w m cs ys (by simpa using hl) (by omega) (fun i g hg => by have := hx (i + 1) g (by simpa using hg); simpa using this)
    refine ⟨(x0, x1), ⟨_, _, ?_, hK0, hK1⟩, hok0, hok1⟩
    rw [hsz, ← ho', ← List.drop_drop, List.take_add]
theorem struct {α β : Type} {d : Kd α} {ok : α → Prop} {fs : Array Field} (ht : P.underlying t = some (.struct fs)) (hc : d.sz = P.cellsOf t) (h : L P d 0 fs.toList ok) (f : β → α) (g : α → β) (hfg : ∀ y, f (g y) = y) :
    Opens P (Kd.iso d f) t (fun s => ok (f s)) := by
  refine ⟨hc, ?_⟩
  intro H enc w fuel cs x hx
  obtain ⟨xs, n, _, _, hl, hxl, hf⟩ := DataW.trod_struct ht hx
  obtain ⟨a, hK, hok⟩ := h H enc w n cs xs (by simpa using hxl) (by omega) (fun i fl hi => hf i fl (by simpa using hi))
  refine ⟨g a, ?_, (by show ok (f (g a)); rw [hfg]; exact hok)⟩
  show d.K w (f (g a)) cs
  rw [hfg]
  rwa [List.drop_zero, List.take_of_length_le (by omega)] at hK
end Opens
end Go.Proofs.YtfhaffpegncdiaaW.PrintWords
