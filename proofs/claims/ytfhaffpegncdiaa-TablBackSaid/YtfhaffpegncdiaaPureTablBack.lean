/-
TablBack: a table is read as it was told; two behind each other, of other names, are one.
-/
import Derived.Test.YtfhaffpegncdiaaTTablSmall
import Derived.Test.YtfhaffpegncdiaaPTStTablBack
namespace Go.Proofs.Ytfhaffpegncdiaa.Pure
open Go.RowKit Go.Proofs.Ytfhaffpegncdiaa.PT Go.Proofs.YtfhaffpegncdiaaW.PrintWords Go.Proofs.YtfhaffpegncdiaaW.PrintLast Go.Proofs.YtfhaffpegncdiaaW.PrintMore
set_option linter.unusedVariables false
set_option linter.unusedSimpArgs false
namespace Bk
open Tb
theorem awake_bind : (waybilllaw2_awake.f).bind (fun t => some t) = some true := by rw [awake_ok]; rfl
theorem j0_true (k : Nat) (l m : List S24) : waybilllaw2_TablBack.j0 (k + 1) l m true = some true := by
  simp only [waybilllaw2_TablBack.j0]
  rw [if_pos trivial]
  exact awake_bind
theorem tame_app {l m : List S24} (h1 : tame 8 l = true) (h2 : tame 8 m = true) : tame 8 (l ++ m) = true := by
  unfold tame at h1 h2 ⊢
  rw [List.all_append, h1, h2]
  rfl
/-- Two tables' octets behind each other are parsed as one table, just if both may be one. -/
theorem parse_both (l m : List S24) (hl : rng 8 l) (hm : rng 8 m) (h1 : (rowsP 8 l).2 = true) (h2 : (rowsP 8 m).2 = true) :
    tabl_Parse.f ((rowsP 8 l).1 ++ (rowsP 8 m).1) = some (if (rowsP 8 (l ++ m)).2 = true then (l ++ m, true) else ([], false)) := by
  have f1 := fine_of 7 l h1
  have f2 := fine_of 7 m h2
  have e1 := rowsP_fine 7 l f1
  have e2 := rowsP_fine 7 m f2
  have hr : rng 8 (l ++ m) := fun x hx => (List.mem_append.1 hx).elim (hl x) (hm x)
  have hg : ∀ x ∈ l ++ m, good (valP (rowsP 7)) x := fun x hx => (List.mem_append.1 hx).elim (f1.1 x) (f2.1 x)
  have ho : Oct ((rowsP 8 l).1 ++ (rowsP 8 m).1) := oct_app (rowsP_oct 8 l) (rowsP_oct 8 m)
  by_cases hc : (rowsP 8 (l ++ m)).2 = true
  · have f3 := fine_of 7 _ hc
    have e3 := rowsP_fine 7 _ f3
    have h := parse_told (l ++ m) hr hc
    rw [e3, encL_app] at h
    rw [e1, e2, if_pos hc]
    exact h
  · rw [if_neg hc, parse_f _ ho]
    by_cases hn : ((rowsP 8 l).1 ++ (rowsP 8 m).1).length ≤ 2000
    · have hp : parseP 8 ((rowsP 8 l).1 ++ (rowsP 8 m).1) = (l ++ m, true) := by
        rw [e1, e2, ← encL_app] at hn ⊢
        have h1 := encL_ge (valP (rowsP 7)) (l ++ m)
        show (if (encL (valP (rowsP 7)) (l ++ m)).length ≤ 2000 then parseL (parseP 7) ((encL (valP (rowsP 7)) (l ++ m)).length + 1) (encL (valP (rowsP 7)) (l ++ m)) [] else ([], false)) = _
        rw [if_pos hn, parse_rows (rowsP 7) (parseP 7) (l ++ m) [] _ (by omega) (fun x hx => (hr x hx).1) hg hn (fun x hx h2 => round 7 x.f4 (hr x hx).2 h2)]
        rfl
      rw [hp, if_neg (fun h => hc h.2)]
    · have hp : (parseP 8 ((rowsP 8 l).1 ++ (rowsP 8 m).1)).2 = false := by
        show (if ((rowsP 8 l).1 ++ (rowsP 8 m).1).length ≤ 2000 then _ else (([] : List S24), false)).2 = false
        rw [if_neg hn]
      rw [if_neg (fun h => by rw [hp] at h; simp at h)]
theorem j0_false (l m : List S24) (tl : tame 8 l = true) (tm : tame 8 m = true) (ll : l.length ≤ 30) (lm : m.length ≤ 30) (hl : rng 8 l) (hm : rng 8 m) (h1 : (rowsP 8 l).2 = true) (h2 : (rowsP 8 m).2 = true) : waybilllaw2_TablBack.j0 2 l m false = some true := by
  have q1 := rowsP_len 8 l
  have q2 := rowsP_len 8 m
  have hp := parse_told l hl h1
  have hb := parse_both l m hl hm h1 h2
  have hs : ∀ x : List S24, Tb.sameL x x = true := fun x => (Tb.sameL_iff x x).2 rfl
  have ha := append_f (rowsP 8 l).1 m tm (by omega)
  simp only [waybilllaw2_TablBack.j0, append_f [] l tl (by simp), List.nil_append, Option.bind_some, ha, hp, h1, h2, waybillref1_SameTable.f, hs]
  rw [if_neg (by simp), if_pos trivial, if_pos trivial, if_pos trivial, if_pos trivial, if_neg (by rw [List.length_append]; omega), if_pos (by omega), if_pos (by rw [List.length_append]; omega)]
  have ht : ((rowsP 8 l).1 ++ (rowsP 8 m).1).take ((((rowsP 8 l).1.length : Int) : Int).toNat) = (rowsP 8 l).1 := by rw [Int.toNat_natCast, List.take_left]
  rw [ht]
  have hne : ((strOfNums (rowsP 8 l).1).toList != (strOfNums (rowsP 8 l).1).toList) = false := by simp
  rw [hne]
  simp only [waybilllaw2_TablBack.j1, Option.bind_some, List.nil_append]
  rw [if_neg (by simp), if_pos (by simp; omega), if_pos (by omega), hb, Option.bind_some, ok_f _ (tame_app tl tm), Option.bind_some]
  by_cases hc : (rowsP 8 (l ++ m)).2 = true
  · rw [if_pos hc, hc, if_pos (by rfl), if_pos rfl]
    simp only [waybillref1_SameTable.f, hs, Option.bind_some]
    rw [if_pos trivial]
    exact awake_bind
  · have hc2 : (rowsP 8 (l ++ m)).2 = false := by simpa using hc
    rw [if_neg hc, hc2, if_pos (by rfl), if_neg (by simp)]
    exact awake_bind
end Bk
theorem TablBack : waybilllaw2_TablBack.Pure := by
  intro l m hl hm
  obtain ⟨k1, b1, s1, g1⟩ := Tb.small_f 12 l 1 (by omega) (by omega)
  obtain ⟨k2, b2, s2, g2⟩ := Tb.small_f 12 m 1 (by omega) (by omega)
  have e1 := Tb.up (fun k => waybilllaw2_Small.mono _ _ k) s1 (k2 + 2)
  have e2 := Tb.up (fun k => waybilllaw2_Small.mono _ _ k) s2 (k1 + 2)
  rw [show k2 + (k1 + 2) = k1 + (k2 + 2) by omega] at e2
  refine ⟨k1 + (k2 + 2), ?_⟩
  unfold waybilllaw2_TablBack.f
  rw [e1, Option.bind_some]
  cases b1 with
  | false => rw [if_neg (by simp)]; exact Bk.j0_true (k1 + (k2 + 1)) l m
  | true =>
    rw [if_pos rfl, e2, Option.bind_some]
    cases b2 with
    | false => rw [if_neg (by simp)]; exact Bk.j0_true (k1 + (k2 + 1)) l m
    | true =>
      have q1 := g1 rfl
      have q2 := g2 rfl
      have t1 := Tb.tame_Sm 8 12 l q1
      have t2 := Tb.tame_Sm 8 12 m q2
      rw [if_pos rfl, Tb.ok_f l t1, Option.bind_some]
      by_cases h1 : (Tb.rowsP 8 l).2 = true
      · rw [if_pos h1, Tb.ok_f m t2, Option.bind_some]
        by_cases h2 : (Tb.rowsP 8 m).2 = true
        · rw [h2]
          have h := Bk.j0_false l m t1 t2 (Tb.Sm_len q1) (Tb.Sm_len q2) (Tb.rng_of 8 l hl.2) (Tb.rng_of 8 m hm.2) h1 h2
          have h3 := Tb.up (f := fun k => waybilllaw2_TablBack.j0 k l m false) (fun k => (waybilllaw2_TablBack.mono_l k).1 l m false) h (k1 + k2)
          rw [show 2 + (k1 + k2) = k1 + (k2 + 2) by omega] at h3
          exact h3
        · have h2 : (Tb.rowsP 8 m).2 = false := by simpa using h2
          rw [h2]
          exact Bk.j0_true (k1 + (k2 + 1)) l m
      · rw [if_neg h1]; exact Bk.j0_true (k1 + (k2 + 1)) l m
end Go.Proofs.Ytfhaffpegncdiaa.Pure
