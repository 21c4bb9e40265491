/-
A map from texts to texts that the call itself has made: its operations.
Conditions: the types as the program's tables have them.
-/
import Derived.Test.YtpjkaodbcclecaaXWords
import Derived.Maps.Own
import Derived.Laws.IdiomMaps
set_option linter.unusedVariables false
set_option linter.unusedSimpArgs false
namespace Go.Proofs.YtpjkaodbcclecaaW.PrintWords
open Go.RowKit Go.ChangeMaps Go.MapKept
open Go.WideElems (Fit rd rg pl rd_val)
open Go.Maps (Keyed)
namespace Ma
/-- Block b is a map from texts to texts, whose entries are E, in the order of their keys. -/
def Is (P : Program) (w : World) (b : Nat) (E : List (Lit × DataW Unit)) : Prop :=
  ∃ es clock, w.heap[b]? = some (.map es clock) ∧ Fit P 9 (plainElem (H := Unit) P 9) es clock ∧ E = (es.toList.map (rg P 9 (plainElem (H := Unit) P 9))).foldr DataW.insert []
def key (s : ByteArray) : Lit := .string s.data.toList
def val (s : ByteArray) : DataW Unit := .lit (.string s.data.toList)
section
variable {P : Program} {w w' : World} {b : Nat} {E : List (Lit × DataW Unit)}
theorem made (P : Program) (w : World) : Is P (w.alloc (.map #[] 0)) w.heap.size [] :=
  ⟨#[], 0, (MapKept.heap_alloc w _).1, ⟨by simp, stamped_empty 0, by simp⟩, rfl⟩
theorem lt (h : Is P w b E) : b < w.heap.size := by
  obtain ⟨es, clock, hb, _⟩ := h
  exact (Array.getElem?_eq_some_iff.1 hb).1
theorem kept {row : Option Nat} (h : Is P w b E) (hg : w.grownBy w' row) (hne : some b ≠ row) : Is P w' b E := by
  have hlt := lt h
  obtain ⟨es, clock, hb, F, hE⟩ := h
  exact ⟨es, clock, (hg.block b hlt hne).trans hb, F, hE⟩
theorem below (h : Is P w b E) (hb : Below w.heap.size w w') : Is P w' b E := by
  have hlt := lt h
  obtain ⟨es, clock, hbb, F, hE⟩ := h
  exact ⟨es, clock, (hb.block b hlt).trans hbb, F, hE⟩
theorem far (h : Is P w b E) {p : Addr} (hne : b ≠ p.block) (u : Value) : Is P (w.setCell p u) b E := by
  obtain ⟨es, clock, hbb, F, hE⟩ := h
  exact ⟨es, clock, (Below.heap_setCell w p u b hne).trans hbb, F, hE⟩
theorem len_es {es : Array MapEntry} (hE : E = (es.toList.map (rg P 9 (plainElem (H := Unit) P 9))).foldr DataW.insert []) : es.size = E.length := by
  rw [hE, length_sorted, List.length_map, Array.length_toList]
/-- No cell is in a map's block. -/
theorem apart (h : Is P w b E) {a : Addr} {v : Value} (hc : w.cell? a = some v) : some a.block ≠ some b := by
  obtain ⟨es, clock, hb, _⟩ := h
  intro he
  have he : a.block = b := by simpa using he
  unfold World.cell? at hc
  rw [he, hb] at hc
  cases hc
variable {t : TypeId} (ht : P.underlying t = some (.map 9 9)) (hs : P.underlying 9 = some .string)
include ht hs
/-- 'm[k] = v' -/
theorem update (h : Is P w b E) (hn : E.length < maxLen) (s v : ByteArray) (hk : s.size ≤ maxLen) (hv : v.size ≤ maxLen) :
    ∃ w', (Instr.mapUpdate t (.map (some b)) (.string s) (.string v)).run P w = .ok () w' ∧ Is P w' b (putKey (key s) (val v) E) ∧ w.grownBy w' (some b) := by
  obtain ⟨es, clock, hb, F, hE⟩ := h
  have hl := len_es hE
  subst hE
  have hkey : keyOf P 9 (.string s) = some (key s) := by simp [keyOf, hs, mapKey, hk, key]
  obtain ⟨es', clock', hrun, F', hput, _⟩ := Maps.fit_store (R' := plainElem (H := Unit) P 9) (Maps.string_keyed hs) ht hb F (by omega) (fun _ _ _ _ hz => hz) hkey (plainElem_string hs hv)
  exact ⟨_, hrun, ⟨es', clock', heap_setBlock_same hb _, F', hput.symm⟩, ⟨rfl, rfl, rfl, by simp [setBlock], fun i _ hi => heap_setBlock_other hb _ (fun e => hi (by rw [e]))⟩⟩
/-- 'delete(m, k)' -/
theorem delete (h : Is P w b E) (s : ByteArray) (hk : s.size ≤ maxLen) (ty : TypeId) :
    ∃ w', (Builtin.delete_ #[t, 9] ty #[.map (some b), .string s]).run P w = .ok (.tuple #[]) w' ∧ Is P w' b (delKey (key s) E) ∧ w.grownBy w' (some b) := by
  obtain ⟨es, clock, hb, F, hE⟩ := h
  subst hE
  have hkey : keyOf P 9 (.string s) = some (key s) := by simp [keyOf, hs, mapKey, hk, key]
  obtain ⟨es', hrun, F', hdel, _⟩ := WideElems.fit_delete (ty := ty) (R' := plainElem (H := Unit) P 9) (WideMaps.string_law hs) ht hb F (fun _ _ _ hz => hz) hkey
  exact ⟨_, hrun, ⟨es', clock, heap_setBlock_same hb _, F', hdel.symm⟩, ⟨rfl, rfl, rfl, by simp [setBlock], fun i _ hi => heap_setBlock_other hb _ (fun e => hi (by rw [e]))⟩⟩
/-- What a key is told to lead to. -/
def at_ (E : List (Lit × DataW Unit)) (s : ByteArray) : Option (DataW Unit) := (E.find? (fun p => p.1.sameKey (key s))).map (·.2)
/-- 'v, ok := m[k]' -/
theorem look (hz : (zeroValue 9).run P w = .ok (.string ⟨#[]⟩) w) (h : Is P w b E) (s : ByteArray) (hk : s.size ≤ maxLen) : ∃ (v : ByteArray) (ok : Bool), (Instr.lookup t (.map (some b)) (.string s) true).run P w = .ok (.tuple #[.string v, .bool ok]) w ∧
    ∀ zd : DataW Unit, (DataW.map E).atKey (key s) zd = if ok = true then val v else zd := by
  obtain ⟨es, clock, hb, F, hE⟩ := h
  subst hE
  have hkey : keyOf P 9 (.string s) = some (key s) := by simp [keyOf, hs, mapKey, hk, key]
  rcases WideElems.fit_lookup_ok (WideMaps.string_law hs) ht hz hb F hkey with ⟨hrun, hat⟩ | ⟨v, y, hrun, hR, hat, _⟩
  · exact ⟨⟨#[]⟩, false, hrun, fun zd => by rw [hat zd]; rfl⟩
  · unfold plainElem at hR
    rw [hs] at hR
    cases v <;> simp at hR
    rename_i sv
    obtain ⟨_, rfl⟩ := hR
    exact ⟨sv, true, hrun, fun zd => by rw [hat zd]; rfl⟩
end
end Ma
end Go.Proofs.YtpjkaodbcclecaaW.PrintWords
