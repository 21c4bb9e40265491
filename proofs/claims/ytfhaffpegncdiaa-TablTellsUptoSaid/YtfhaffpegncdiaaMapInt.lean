/-
A map from texts to whole numbers that the call itself has made: its operations.
Conditions: the types as the program's tables have them.
-/
import Derived.Test.YtfhaffpegncdiaaXWords
import Derived.Maps.Own
import Derived.Laws.IdiomMaps
set_option linter.unusedVariables false
set_option linter.unusedSimpArgs false
namespace Go.Proofs.YtfhaffpegncdiaaW.PrintWords
open Go.RowKit Go.ChangeMaps Go.MapKept
open Go.WideElems (Fit rd rg pl rd_val)
open Go.Maps (Keyed)
namespace Mi
/-- Block b is a map from texts to texts, whose entries are E, in the order of their keys. -/
def Is (P : Program) (w : World) (b : Nat) (E : List (Lit × DataW Unit)) : Prop :=
  ∃ es clock, w.heap[b]? = some (.map es clock) ∧ Fit P 9 (plainElem (H := Unit) P 3) es clock ∧ E = (es.toList.map (rg P 9 (plainElem (H := Unit) P 3))).foldr DataW.insert []
def key (s : ByteArray) : Lit := .string s.data.toList
def val (n : Int) : DataW Unit := .lit (.int .i64 n)
section
variable {P : Program} {w w' : World} {b : Nat} {E : List (Lit × DataW Unit)}
theorem made (P : Program) (w : World) : Is P (w.alloc (.map #[] 0)) w.heap.size [] :=
  ⟨#[], 0, (MapKept.heap_alloc w _).1, ⟨by simp, stamped_empty 0, by simp⟩, rfl⟩
theorem lt (h : Is P w b E) : b < w.heap.size := by
  obtain ⟨es, clock, hb, _⟩ := h
  exact (Array.getElem?_eq_some_iff.1 hb).1
theorem kept {row : Option Nat} (h : Is P w b E) (hg : w.grownBy w' row) (hne : some b ≠ row) : Is P w' b E := by
  have hlt := lt h
  obtain ⟨es, clock, hb, F, hE⟩ := h
  exact ⟨es, clock, (hg.block b hlt hne).trans hb, F, hE⟩
theorem below (h : Is P w b E) (hb : Below w.heap.size w w') : Is P w' b E := by
  have hlt := lt h
  obtain ⟨es, clock, hbb, F, hE⟩ := h
  exact ⟨es, clock, (hb.block b hlt).trans hbb, F, hE⟩
theorem far (h : Is P w b E) {p : Addr} (hne : b ≠ p.block) (u : Value) : Is P (w.setCell p u) b E := by
  obtain ⟨es, clock, hbb, F, hE⟩ := h
  exact ⟨es, clock, (Below.heap_setCell w p u b hne).trans hbb, F, hE⟩
theorem len_es {es : Array MapEntry} (hE : E = (es.toList.map (rg P 9 (plainElem (H := Unit) P 3))).foldr DataW.insert []) : es.size = E.length := by
  rw [hE, length_sorted, List.length_map, Array.length_toList]
/-- No cell is in a map's block. -/
theorem apart (h : Is P w b E) {a : Addr} {v : Value} (hc : w.cell? a = some v) : some a.block ≠ some b := by
  obtain ⟨es, clock, hb, _⟩ := h
  intro he
  have he : a.block = b := by simpa using he
  unfold World.cell? at hc
  rw [he, hb] at hc
  cases hc
variable {t : TypeId} (ht : P.underlying t = some (.map 9 3)) (hs : P.underlying 9 = some .string) (hi : P.underlying 3 = some (.int .i64))
include ht hs hi
/-- 'm[k] = v' -/
theorem update (h : Is P w b E) (hn : E.length < maxLen) (s : ByteArray) (v : Int) (hk : s.size ≤ maxLen) (hv : (Lit.int .i64 v).wf = true) :
    ∃ w', (Instr.mapUpdate t (.map (some b)) (.string s) (.int .i64 v)).run P w = .ok () w' ∧ Is P w' b (putKey (key s) (val v) E) ∧ w.grownBy w' (some b) := by
  obtain ⟨es, clock, hb, F, hE⟩ := h
  have hl := len_es hE
  subst hE
  have hkey : keyOf P 9 (.string s) = some (key s) := by simp [keyOf, hs, mapKey, hk, key]
  obtain ⟨es', clock', hrun, F', hput, _⟩ := Maps.fit_store (R' := plainElem (H := Unit) P 3) (Maps.string_keyed hs) ht hb F (by omega) (fun _ _ _ _ hz => hz) hkey (plainElem_int hi hv)
  exact ⟨_, hrun, ⟨es', clock', heap_setBlock_same hb _, F', hput.symm⟩, ⟨rfl, rfl, rfl, by simp [setBlock], fun i _ hi => heap_setBlock_other hb _ (fun e => hi (by rw [e]))⟩⟩
/-- 'm[k]' -/
theorem look (hz : (zeroValue 3).run P w = .ok (.int .i64 0) w) (h : Is P w b E) (s : ByteArray) (hk : s.size ≤ maxLen) : ∃ v : Int, (Instr.lookup t (.map (some b)) (.string s) false).run P w = .ok (.int .i64 v) w ∧ (DataW.map E).atKey (key s) (val 0) = val v := by
  obtain ⟨es, clock, hb, F, hE⟩ := h
  subst hE
  have hkey : keyOf P 9 (.string s) = some (key s) := by simp [keyOf, hs, mapKey, hk, key]
  rcases WideElems.fit_lookup (WideMaps.string_law hs) ht hz hb F hkey with ⟨hrun, hat⟩ | ⟨v, y, hrun, hR, hat, _⟩
  · exact ⟨0, hrun, hat _⟩
  · obtain ⟨a, rfl, hy⟩ := plainElem_int_inv hi hR
    exact ⟨a, hrun, (hat _).trans (by rw [hy.1]; rfl)⟩
end
end Mi
end Go.Proofs.YtfhaffpegncdiaaW.PrintWords
