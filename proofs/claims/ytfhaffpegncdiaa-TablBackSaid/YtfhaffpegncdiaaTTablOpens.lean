/-
What comes in as a table of fields, opened at whatever depth.
-/
import Derived.Test.YtfhaffpegncdiaaPTx0
import Derived.Test.YtfhaffpegncdiaaRWords
import Derived.KernelRfl
namespace Go.Proofs.Ytfhaffpegncdiaa.PT
open Go.RowKit Go.Proofs.YtfhaffpegncdiaaW.PrintWords Go.Proofs.YtfhaffpegncdiaaW.PrintLast
set_option linter.unusedVariables false
/-- What is known of a field that came in. -/
inductive ok24 : S24 → Prop
  | mk (x : S24) : x.f0.size ≤ maxLen → (Lit.int .u8 x.f1).wf = true → (Lit.int .i64 x.f2).wf = true → x.f3.size ≤ maxLen → x.f4.length ≤ maxLen → (∀ y, y ∈ x.f4 → ok24 y) → ok24 x
theorem row_at {P : Program} {e : TypeId} {α : Type} {d : Kd α} {ok : α → Prop} {H : Type} (enc : TypeId × Value → H) (w : World) (a : Addr) (m : Nat) (hs : d.sz = P.cellsOf e) (h : ∀ cs x, DataW.trod enc P w 0 (fun _ => true) true m e cs = some x → ∃ a, d.K w a cs ∧ ok a) :
    ∀ (len : Nat) (elems : List (DataW H × List MemPlace)), elems.length = len →
      (∀ i, i < len → (w.cells? 0 (a.add (i * P.cellsOf e)) (P.cellsOf e)).bind (DataW.trod enc P w 0 (fun _ => true) true m e) = elems[i]?) →
      ∃ xs : List α, xs.length = len ∧ (∀ x ∈ xs, ok x) ∧ ∀ j p, xs[j]? = some p → ∃ c, c.length = d.sz ∧ d.K w p c ∧ ∀ i u, c[i]? = some u → w.cell? ((a.add (j * d.sz)).add i) = some u := by
  intro len
  induction len with
  | zero => intro elems _ _; exact ⟨[], rfl, by simp, by simp⟩
  | succ len ih =>
    intro elems hl he
    obtain ⟨xs, hx, hok, hc⟩ := ih (elems.take len) (by rw [List.length_take]; omega) (fun i hi => by
      rw [he i (by omega), List.getElem?_take, if_pos hi])
    have h1 := he len (by omega)
    rw [List.getElem?_eq_getElem (by omega)] at h1
    obtain ⟨cs, h2, h3⟩ := Option.bind_eq_some_iff.1 h1
    obtain ⟨y, hK, hy⟩ := h cs _ h3
    obtain ⟨hcl, hcc⟩ := Opens.cells_of h2
    refine ⟨xs ++ [y], by simp [hx], ?_, ?_⟩
    · intro x hm
      rcases List.mem_append.1 hm with hm | hm
      · exact hok x hm
      · simp at hm; rw [hm]; exact hy
    · intro j p hj
      by_cases hjl : j < xs.length
      · rw [List.getElem?_append_left hjl] at hj
        exact hc j p hj
      · have hj2 : j = len := by
          have := (List.getElem?_eq_some_iff.1 hj).1
          simp at this; omega
        subst hj2
        have : p = y := by
          rw [List.getElem?_append_right (by omega), hx] at hj
          simpa using hj.symm
        subst this
        exact ⟨cs, by rw [hcl, hs], hK, fun i u hi => by rw [hs]; exact hcc i u hi⟩
theorem opens24_at {H : Type} (enc : TypeId × Value → H) (w : World) : ∀ (fuel : Nat) (cs : List Value) (x : DataW H × List MemPlace), DataW.trod enc Try.prog w 0 (fun _ => true) true fuel 24 cs = some x → ∃ a : S24, k24.K w a cs ∧ ok24 a := by
  intro fuel
  induction fuel using Nat.strongRecOn with
  | _ fuel ih =>
  intro cs x hx
  obtain ⟨xs, n, hn, _, hl, hxl, hf⟩ := DataW.trod_struct Try.underlying24 hx
  have c9 : Try.prog.cellsOf 9 = 1 := by kernel_rfl
  have c5 : Try.prog.cellsOf 5 = 1 := by kernel_rfl
  have c2 : Try.prog.cellsOf 2 = 1 := by kernel_rfl
  have c22 : Try.prog.cellsOf 22 = 1 := by kernel_rfl
  have c24 : Try.prog.cellsOf 24 = 5 := by kernel_rfl
  rw [c24] at hl
  obtain ⟨v0, v1, v2, v3, v4, rfl⟩ : ∃ v0 v1 v2 v3 v4, cs = [v0, v1, v2, v3, v4] := by
    match cs, hl with
    | [v0, v1, v2, v3, v4], _ => exact ⟨v0, v1, v2, v3, v4, rfl⟩
  have f0 : DataW.trod enc Try.prog w 0 (fun _ => true) true n 9 (([v0, v1, v2, v3, v4].drop 0).take (Try.prog.cellsOf 9)) = xs[0]? := hf 0 _ rfl
  have f1 : DataW.trod enc Try.prog w 0 (fun _ => true) true n 5 (([v0, v1, v2, v3, v4].drop 1).take (Try.prog.cellsOf 5)) = xs[1]? := hf 1 _ rfl
  have f2 : DataW.trod enc Try.prog w 0 (fun _ => true) true n 2 (([v0, v1, v2, v3, v4].drop 2).take (Try.prog.cellsOf 2)) = xs[2]? := hf 2 _ rfl
  have f3 : DataW.trod enc Try.prog w 0 (fun _ => true) true n 9 (([v0, v1, v2, v3, v4].drop 3).take (Try.prog.cellsOf 9)) = xs[3]? := hf 3 _ rfl
  have f4 : DataW.trod enc Try.prog w 0 (fun _ => true) true n 22 (([v0, v1, v2, v3, v4].drop 4).take (Try.prog.cellsOf 22)) = xs[4]? := hf 4 _ rfl
  have hxl : xs.length = 5 := hxl
  rw [List.getElem?_eq_getElem (by omega)] at f0 f1 f2 f3 f4
  simp only [c9, c5, c2, c22, List.drop_zero, List.drop_succ_cons, List.take_succ_cons, List.take_zero] at f0 f1 f2 f3 f4
  obtain ⟨s0, h0, o0⟩ := (Opens.string (P := Try.prog) Try.underlying9 (by kernel_rfl)).2 enc w n _ _ f0
  obtain ⟨s1, h1, o1⟩ := (Opens.int (P := Try.prog) Try.underlying5 (by kernel_rfl)).2 enc w n _ _ f1
  obtain ⟨s2, h2, o2⟩ := (Opens.int (P := Try.prog) Try.underlying2 (by kernel_rfl)).2 enc w n _ _ f2
  obtain ⟨s3, h3, o3⟩ := (Opens.string (P := Try.prog) Try.underlying9 (by kernel_rfl)).2 enc w n _ _ f3
  have h0 : [v0] = [.string s0] := h0
  have h1 : [v1] = [.int .u8 s1] := h1
  have h2 : [v2] = [.int .i64 s2] := h2
  have h3 : [v3] = [.string s3] := h3
  simp only [List.cons.injEq, and_true] at h0 h1 h2 h3
  subst h0 h1 h2 h3
  rcases DataW.trod_slice Try.underlying22 f4 with ⟨he, _⟩ | ⟨a, len, cap, elems, rest, m, hm, he, _, _, hlc, hcm, hel, hee, _⟩
  · simp only [List.cons.injEq, and_true] at he
    subst he
    exact ⟨⟨s0, s1, s2, s3, []⟩, k24_mk w ⟨s0, s1, s2, s3, []⟩ (A4 := none) (c4 := 0) (Nat.le_refl _) (Kd.C_nil k24 w), ok24.mk _ o0 o1 o2 o3 (Nat.zero_le _) (by simp)⟩
  · simp only [List.cons.injEq, and_true] at he
    subst he
    obtain ⟨ys, hyl, hok, hcell⟩ := row_at enc w a m (d := k24) (e := 24) (ok := ok24) c24.symm (fun cs x h => ih m (by omega) cs x h) len elems hel hee
    have hC : k24.C w (some a) ys.length ys := by
      refine ⟨rfl, by simp only [maxLen] at hcm; omega, fun hn => ⟨a, rfl, fun j p hj => ?_⟩⟩
      obtain ⟨c, q1, q2, q3⟩ := hcell j p hj
      exact ⟨c, q1, q2, fun i u hi => by
        have := q3 i u hi
        rwa [add_add] at this⟩
    subst hyl
    exact ⟨⟨s0, s1, s2, s3, ys⟩, k24_mk w ⟨s0, s1, s2, s3, ys⟩ (by omega) hC, ok24.mk _ o0 o1 o2 o3 (by show ys.length ≤ maxLen; omega) hok⟩
theorem opens24 : Opens Try.prog k24 24 ok24 := ⟨by kernel_rfl, fun enc w fuel cs x h => opens24_at enc w fuel cs x h⟩
end Go.Proofs.Ytfhaffpegncdiaa.PT
