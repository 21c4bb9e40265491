/- What functions of the given program come to, and that they do: written out of the translation by a program of this session; Lean checks it. -/
import Derived.Test.YtpjkaodbcclecaaPUx0
import Derived.Test.YtpjkaodbcclecaaPUx1
import Derived.Test.YtpjkaodbcclecaaPUx3
import Derived.Test.YtpjkaodbcclecaaPUx5
import Derived.Test.YtpjkaodbcclecaaPUx6
import Derived.Test.YtpjkaodbcclecaaPUx7
import Derived.Test.YtpjkaodbcclecaaPUx8
import Derived.Test.YtpjkaodbcclecaaPUx10
import Derived.Test.YtpjkaodbcclecaaPUx12
import Derived.Test.YtpjkaodbcclecaaPUx13
import Derived.Test.YtpjkaodbcclecaaPUx14
namespace Go.Proofs.Ytpjkaodbcclecaa.PU
open Go.RowKit Go.Proofs.YtpjkaodbcclecaaW.PrintWords Go.Proofs.YtpjkaodbcclecaaW.PrintLast Go.Proofs.YtpjkaodbcclecaaW.PrintMore
attribute [local go_sem] max2_int min2_int max_two min_two max_three min_three max_four min_four   -- for this text's walks alone
set_option linter.unusedVariables false
set_option linter.unusedSimpArgs false

attribute [local go_sem high] eqA51
/-! ### waybilllaw13_UnitTells: function 6 -/
mutual
def waybilllaw13_UnitTells.j0 : Nat → List (S38) → List Int → Int → Int → Int → Bool → Option (Bool)
  | 0, _, _, _, _, _, _ => none
  | k + 1, x0, x1, x2, x3, x4, x35 => if x35 = true then ((waybilllaw13_awake.f k).bind fun t333 => (some t333)) else (waybilllaw13_UnitTells.l0 k x0 x1 x2 x3 x4 0)
def waybilllaw13_UnitTells.l0 : Nat → List (S38) → List Int → Int → Int → Int → Int → Option (Bool)
  | 0, _, _, _, _, _, _ => none
  | k + 1, x0, x1, x2, x3, x4, x11 => if x11 < 2 then ((unit_Append.f k x0).bind fun bt335 => ((waybillref7_Unit.f k x0).bind fun bt339 => (if (bt335.2 != bt339.2) = true then (waybilllaw13_UnitTells.j2 k x0 x1 x2 x3 x4 x11 bt339.1 true) else (waybilllaw13_UnitTells.j2 k x0 x1 x2 x3 x4 x11 bt339.1 ((strOfNums bt335.1).toList != (strOfNums bt339.1).toList))))) else ((waybilllaw13_awake.f k).bind fun t334 => (some t334))
def waybilllaw13_UnitTells.j2 : Nat → List (S38) → List Int → Int → Int → Int → Int → List Int → Bool → Option (Bool)
  | 0, _, _, _, _, _, _, _, _ => none
  | k + 1, x0, x1, x2, x3, x4, x11, x14, x60 => if x60 = true then (none) else ((some (([] : List Int) : List Int)).bind fun y343 => (if y343.length + x14.length < 140737488355328 then ((some (y343 ++ x14 : List Int)).bind fun y346 => (if (y346.length : Int) > 0 then (if (y346.length : Int) = 0 then (none) else (if 0 ≤ (Int.tmod (Go.bits .and .i64 x2 65535) (y346.length : Int)) then (if (Int.tmod (Go.bits .and .i64 x2 65535) (y346.length : Int)) < (y346.length : Int) then (waybilllaw13_UnitTells.j3 k x0 x1 x2 x3 x4 x11 x14 (y346.set ((Int.tmod (Go.bits .and .i64 x2 65535) (y346.length : Int)) : Int).toNat (Go.bits .xor .u8 (rd y346 (Int.tmod (Go.bits .and .i64 x2 65535) (y346.length : Int))) x3))) else (none)) else (none))) else (waybilllaw13_UnitTells.j3 k x0 x1 x2 x3 x4 x11 x14 y346))) else (none)))
def waybilllaw13_UnitTells.j3 : Nat → List (S38) → List Int → Int → Int → Int → Int → List Int → List Int → Option (Bool)
  | 0, _, _, _, _, _, _, _, _ => none
  | k + 1, x0, x1, x2, x3, x4, x11, x14, x16 => waybilllaw13_UnitTells.l1 k x0 x1 x2 x3 x4 x11 x14 x16 0
def waybilllaw13_UnitTells.l1 : Nat → List (S38) → List Int → Int → Int → Int → Int → List Int → List Int → Int → Option (Bool)
  | 0, _, _, _, _, _, _, _, _, _ => none
  | k + 1, x0, x1, x2, x3, x4, x11, x14, x16, x17 => if x17 < 4 then (if (wrap64 ((x14.length : Int) + 1)) = 0 then (none) else (if 0 ≤ (Int.tmod (Go.bits .and .i64 x4 65535) (wrap64 ((x14.length : Int) + 1))) then (if (Int.tmod (Go.bits .and .i64 x4 65535) (wrap64 ((x14.length : Int) + 1))) ≤ (x14.length : Int) then (if 0 ≤ x17 then ((some (([x1, x16, (x14.take ((Int.tmod (Go.bits .and .i64 x4 65535) (wrap64 ((x14.length : Int) + 1))) : Int).toNat), x14] : List (List Int)).getD (x17).toNat [] : List Int)).bind fun y359 => ((unit_Parse.f k y359).bind fun bt362 => ((waybillref7_Ops.f k y359).bind fun bt366 => ((unit_Places.f k y359).bind fun bt370 => ((waybillref7_Places.f k y359).bind fun bt374 => (if (bt362.2 != bt366.2) = true then (waybilllaw13_UnitTells.j5 k x0 x1 x2 x3 x4 x11 x14 x16 x17 bt370.1 bt374.1 true) else (if (bt370.2 != bt374.2) = true then (waybilllaw13_UnitTells.j5 k x0 x1 x2 x3 x4 x11 x14 x16 x17 bt370.1 bt374.1 true) else ((waybillref16_SameOps.f k bt362.1 bt366.1).bind fun t378 => (if t378 = true then (waybilllaw13_UnitTells.j5 k x0 x1 x2 x3 x4 x11 x14 x16 x17 bt370.1 bt374.1 ((bt370.1.length : Int) != (bt374.1.length : Int))) else (waybilllaw13_UnitTells.j5 k x0 x1 x2 x3 x4 x11 x14 x16 x17 bt370.1 bt374.1 true)))))))))) else (none)) else (none)) else (none))) else ((waybilllaw13_Tame.f k x0).bind fun t351 => (waybilllaw13_UnitTells.l0 k t351 x1 x2 x3 x4 (wrap64 (x11 + 1))))
def waybilllaw13_UnitTells.j5 : Nat → List (S38) → List Int → Int → Int → Int → Int → List Int → List Int → Int → List (S51) → List (S51) → Bool → Option (Bool)
  | 0, _, _, _, _, _, _, _, _, _, _, _, _ => none
  | k + 1, x0, x1, x2, x3, x4, x11, x14, x16, x17, x23, x25, x137 => if x137 = true then (none) else (waybilllaw13_UnitTells.l2 k x0 x1 x2 x3 x4 x11 x14 x16 x17 x23 x25 0)
def waybilllaw13_UnitTells.l2 : Nat → List (S38) → List Int → Int → Int → Int → Int → List Int → List Int → Int → List (S51) → List (S51) → Int → Option (Bool)
  | 0, _, _, _, _, _, _, _, _, _, _, _, _ => none
  | k + 1, x0, x1, x2, x3, x4, x11, x14, x16, x17, x23, x25, x27 => if x27 < (x25.length : Int) then (if 0 ≤ x27 then (if x27 < (x23.length : Int) then (if (!((((rd_T51 x23 x27).f0).toList) == (((rd_T51 x25 x27).f0).toList)) || (!(((rd_T51 x23 x27).f1) == ((rd_T51 x25 x27).f1)) || (!(((rd_T51 x23 x27).f2) == ((rd_T51 x25 x27).f2)) || (!(((rd_T51 x23 x27).f3) == ((rd_T51 x25 x27).f3)))))) = true then (none) else (waybilllaw13_UnitTells.l2 k x0 x1 x2 x3 x4 x11 x14 x16 x17 x23 x25 (wrap64 (x27 + 1)))) else (none)) else (none)) else (waybilllaw13_UnitTells.l1 k x0 x1 x2 x3 x4 x11 x14 x16 (wrap64 (x17 + 1)))
end
def waybilllaw13_UnitTells.f (k : Nat) (l0 : List (S38)) (l1 : List Int) (a2 : Int) (a3 : Int) (a4 : Int) : Option (Bool) := (waybilllaw13_Small.f k l0).bind fun t332 => (if t332 = true then (waybilllaw13_UnitTells.j0 k l0 l1 a2 a3 a4 (decide ((l1.length : Int) > 600))) else (waybilllaw13_UnitTells.j0 k l0 l1 a2 a3 a4 true))
theorem waybilllaw13_UnitTells.mono_l : ∀ k, (∀ y0 y1 y2 y3 y4 y5, LeO (waybilllaw13_UnitTells.j0 k y0 y1 y2 y3 y4 y5) (waybilllaw13_UnitTells.j0 (k + 1) y0 y1 y2 y3 y4 y5)) ∧ (∀ y0 y1 y2 y3 y4 y5, LeO (waybilllaw13_UnitTells.l0 k y0 y1 y2 y3 y4 y5) (waybilllaw13_UnitTells.l0 (k + 1) y0 y1 y2 y3 y4 y5)) ∧ (∀ y0 y1 y2 y3 y4 y5 y6 y7, LeO (waybilllaw13_UnitTells.j2 k y0 y1 y2 y3 y4 y5 y6 y7) (waybilllaw13_UnitTells.j2 (k + 1) y0 y1 y2 y3 y4 y5 y6 y7)) ∧ (∀ y0 y1 y2 y3 y4 y5 y6 y7, LeO (waybilllaw13_UnitTells.j3 k y0 y1 y2 y3 y4 y5 y6 y7) (waybilllaw13_UnitTells.j3 (k + 1) y0 y1 y2 y3 y4 y5 y6 y7)) ∧ (∀ y0 y1 y2 y3 y4 y5 y6 y7 y8, LeO (waybilllaw13_UnitTells.l1 k y0 y1 y2 y3 y4 y5 y6 y7 y8) (waybilllaw13_UnitTells.l1 (k + 1) y0 y1 y2 y3 y4 y5 y6 y7 y8)) ∧ (∀ y0 y1 y2 y3 y4 y5 y6 y7 y8 y9 y10 y11, LeO (waybilllaw13_UnitTells.j5 k y0 y1 y2 y3 y4 y5 y6 y7 y8 y9 y10 y11) (waybilllaw13_UnitTells.j5 (k + 1) y0 y1 y2 y3 y4 y5 y6 y7 y8 y9 y10 y11)) ∧ (∀ y0 y1 y2 y3 y4 y5 y6 y7 y8 y9 y10 y11, LeO (waybilllaw13_UnitTells.l2 k y0 y1 y2 y3 y4 y5 y6 y7 y8 y9 y10 y11) (waybilllaw13_UnitTells.l2 (k + 1) y0 y1 y2 y3 y4 y5 y6 y7 y8 y9 y10 y11))
  | 0 => ⟨fun _ _ _ _ _ _ r h => by simp [waybilllaw13_UnitTells.j0] at h, fun _ _ _ _ _ _ r h => by simp [waybilllaw13_UnitTells.l0] at h, fun _ _ _ _ _ _ _ _ r h => by simp [waybilllaw13_UnitTells.j2] at h, fun _ _ _ _ _ _ _ _ r h => by simp [waybilllaw13_UnitTells.j3] at h, fun _ _ _ _ _ _ _ _ _ r h => by simp [waybilllaw13_UnitTells.l1] at h, fun _ _ _ _ _ _ _ _ _ _ _ _ r h => by simp [waybilllaw13_UnitTells.j5] at h, fun _ _ _ _ _ _ _ _ _ _ _ _ r h => by simp [waybilllaw13_UnitTells.l2] at h⟩
  | k + 1 => by
    obtain ⟨ih0, ih1, ih2, ih3, ih4, ih5, ih6⟩ := waybilllaw13_UnitTells.mono_l k
    refine ⟨?_, ?_, ?_, ?_, ?_, ?_, ?_⟩
    · intro y0 y1 y2 y3 y4 y5
      unfold waybilllaw13_UnitTells.j0
      repeat' first
      | (with_reducible exact ih0 _ _ _ _ _ _)
      | (with_reducible exact ih1 _ _ _ _ _ _)
      | (with_reducible exact ih2 _ _ _ _ _ _ _ _)
      | (with_reducible exact ih3 _ _ _ _ _ _ _ _)
      | (with_reducible exact ih4 _ _ _ _ _ _ _ _ _)
      | (with_reducible exact ih5 _ _ _ _ _ _ _ _ _ _ _ _)
      | (with_reducible exact ih6 _ _ _ _ _ _ _ _ _ _ _ _)
      | (with_reducible exact unit_Append.mono _ _)
      | (with_reducible exact unit_Parse.mono _ _)
      | (with_reducible exact unit_Places.mono _ _)
      | (with_reducible exact waybilllaw13_Small.mono _ _)
      | (with_reducible exact waybilllaw13_Tame.mono _ _)
      | (with_reducible exact waybilllaw13_awake.mono _)
      | (with_reducible exact waybillref16_SameOps.mono _ _ _)
      | (with_reducible exact waybillref7_Ops.mono _ _)
      | (with_reducible exact waybillref7_Places.mono _ _)
      | (with_reducible exact waybillref7_Unit.mono _ _)
      | (with_reducible exact LeO.refl _)
      | (with_reducible exact LeO.none _)
      | (with_reducible refine LeO.ite ?_ ?_)
      | (with_reducible refine LeO.bind ?_ (fun _ => ?_))
      | exact ih0 _ _ _ _ _ _
      | exact ih1 _ _ _ _ _ _
      | exact ih2 _ _ _ _ _ _ _ _
      | exact ih3 _ _ _ _ _ _ _ _
      | exact ih4 _ _ _ _ _ _ _ _ _
      | exact ih5 _ _ _ _ _ _ _ _ _ _ _ _
      | exact ih6 _ _ _ _ _ _ _ _ _ _ _ _
      | exact unit_Append.mono _ _
      | exact unit_Parse.mono _ _
      | exact unit_Places.mono _ _
      | exact waybilllaw13_Small.mono _ _
      | exact waybilllaw13_Tame.mono _ _
      | exact waybilllaw13_awake.mono _
      | exact waybillref16_SameOps.mono _ _ _
      | exact waybillref7_Ops.mono _ _
      | exact waybillref7_Places.mono _ _
      | exact waybillref7_Unit.mono _ _
      | exact LeO.none _
      | refine LeO.ite ?_ ?_
      | refine LeO.bind ?_ (fun _ => ?_)
    · intro y0 y1 y2 y3 y4 y5
      unfold waybilllaw13_UnitTells.l0
      repeat' first
      | (with_reducible exact ih0 _ _ _ _ _ _)
      | (with_reducible exact ih1 _ _ _ _ _ _)
      | (with_reducible exact ih2 _ _ _ _ _ _ _ _)
      | (with_reducible exact ih3 _ _ _ _ _ _ _ _)
      | (with_reducible exact ih4 _ _ _ _ _ _ _ _ _)
      | (with_reducible exact ih5 _ _ _ _ _ _ _ _ _ _ _ _)
      | (with_reducible exact ih6 _ _ _ _ _ _ _ _ _ _ _ _)
      | (with_reducible exact unit_Append.mono _ _)
      | (with_reducible exact unit_Parse.mono _ _)
      | (with_reducible exact unit_Places.mono _ _)
      | (with_reducible exact waybilllaw13_Small.mono _ _)
      | (with_reducible exact waybilllaw13_Tame.mono _ _)
      | (with_reducible exact waybilllaw13_awake.mono _)
      | (with_reducible exact waybillref16_SameOps.mono _ _ _)
      | (with_reducible exact waybillref7_Ops.mono _ _)
      | (with_reducible exact waybillref7_Places.mono _ _)
      | (with_reducible exact waybillref7_Unit.mono _ _)
      | (with_reducible exact LeO.refl _)
      | (with_reducible exact LeO.none _)
      | (with_reducible refine LeO.ite ?_ ?_)
      | (with_reducible refine LeO.bind ?_ (fun _ => ?_))
      | exact ih0 _ _ _ _ _ _
      | exact ih1 _ _ _ _ _ _
      | exact ih2 _ _ _ _ _ _ _ _
      | exact ih3 _ _ _ _ _ _ _ _
      | exact ih4 _ _ _ _ _ _ _ _ _
      | exact ih5 _ _ _ _ _ _ _ _ _ _ _ _
      | exact ih6 _ _ _ _ _ _ _ _ _ _ _ _
      | exact unit_Append.mono _ _
      | exact unit_Parse.mono _ _
      | exact unit_Places.mono _ _
      | exact waybilllaw13_Small.mono _ _
      | exact waybilllaw13_Tame.mono _ _
      | exact waybilllaw13_awake.mono _
      | exact waybillref16_SameOps.mono _ _ _
      | exact waybillref7_Ops.mono _ _
      | exact waybillref7_Places.mono _ _
      | exact waybillref7_Unit.mono _ _
      | exact LeO.none _
      | refine LeO.ite ?_ ?_
      | refine LeO.bind ?_ (fun _ => ?_)
    · intro y0 y1 y2 y3 y4 y5 y6 y7
      unfold waybilllaw13_UnitTells.j2
      repeat' first
      | (with_reducible exact ih0 _ _ _ _ _ _)
      | (with_reducible exact ih1 _ _ _ _ _ _)
      | (with_reducible exact ih2 _ _ _ _ _ _ _ _)
      | (with_reducible exact ih3 _ _ _ _ _ _ _ _)
      | (with_reducible exact ih4 _ _ _ _ _ _ _ _ _)
      | (with_reducible exact ih5 _ _ _ _ _ _ _ _ _ _ _ _)
      | (with_reducible exact ih6 _ _ _ _ _ _ _ _ _ _ _ _)
      | (with_reducible exact unit_Append.mono _ _)
      | (with_reducible exact unit_Parse.mono _ _)
      | (with_reducible exact unit_Places.mono _ _)
      | (with_reducible exact waybilllaw13_Small.mono _ _)
      | (with_reducible exact waybilllaw13_Tame.mono _ _)
      | (with_reducible exact waybilllaw13_awake.mono _)
      | (with_reducible exact waybillref16_SameOps.mono _ _ _)
      | (with_reducible exact waybillref7_Ops.mono _ _)
      | (with_reducible exact waybillref7_Places.mono _ _)
      | (with_reducible exact waybillref7_Unit.mono _ _)
      | (with_reducible exact LeO.refl _)
      | (with_reducible exact LeO.none _)
      | (with_reducible refine LeO.ite ?_ ?_)
      | (with_reducible refine LeO.bind ?_ (fun _ => ?_))
      | exact ih0 _ _ _ _ _ _
      | exact ih1 _ _ _ _ _ _
      | exact ih2 _ _ _ _ _ _ _ _
      | exact ih3 _ _ _ _ _ _ _ _
      | exact ih4 _ _ _ _ _ _ _ _ _
      | exact ih5 _ _ _ _ _ _ _ _ _ _ _ _
      | exact ih6 _ _ _ _ _ _ _ _ _ _ _ _
      | exact unit_Append.mono _ _
      | exact unit_Parse.mono _ _
      | exact unit_Places.mono _ _
      | exact waybilllaw13_Small.mono _ _
      | exact waybilllaw13_Tame.mono _ _
      | exact waybilllaw13_awake.mono _
      | exact waybillref16_SameOps.mono _ _ _
      | exact waybillref7_Ops.mono _ _
      | exact waybillref7_Places.mono _ _
      | exact waybillref7_Unit.mono _ _
      | exact LeO.none _
      | refine LeO.ite ?_ ?_
      | refine LeO.bind ?_ (fun _ => ?_)
    · intro y0 y1 y2 y3 y4 y5 y6 y7
      unfold waybilllaw13_UnitTells.j3
      repeat' first
      | (with_reducible exact ih0 _ _ _ _ _ _)
      | (with_reducible exact ih1 _ _ _ _ _ _)
      | (with_reducible exact ih2 _ _ _ _ _ _ _ _)
      | (with_reducible exact ih3 _ _ _ _ _ _ _ _)
      | (with_reducible exact ih4 _ _ _ _ _ _ _ _ _)
      | (with_reducible exact ih5 _ _ _ _ _ _ _ _ _ _ _ _)
      | (with_reducible exact ih6 _ _ _ _ _ _ _ _ _ _ _ _)
      | (with_reducible exact unit_Append.mono _ _)
      | (with_reducible exact unit_Parse.mono _ _)
      | (with_reducible exact unit_Places.mono _ _)
      | (with_reducible exact waybilllaw13_Small.mono _ _)
      | (with_reducible exact waybilllaw13_Tame.mono _ _)
      | (with_reducible exact waybilllaw13_awake.mono _)
      | (with_reducible exact waybillref16_SameOps.mono _ _ _)
      | (with_reducible exact waybillref7_Ops.mono _ _)
      | (with_reducible exact waybillref7_Places.mono _ _)
      | (with_reducible exact waybillref7_Unit.mono _ _)
      | (with_reducible exact LeO.refl _)
      | (with_reducible exact LeO.none _)
      | (with_reducible refine LeO.ite ?_ ?_)
      | (with_reducible refine LeO.bind ?_ (fun _ => ?_))
      | exact ih0 _ _ _ _ _ _
      | exact ih1 _ _ _ _ _ _
      | exact ih2 _ _ _ _ _ _ _ _
      | exact ih3 _ _ _ _ _ _ _ _
      | exact ih4 _ _ _ _ _ _ _ _ _
      | exact ih5 _ _ _ _ _ _ _ _ _ _ _ _
      | exact ih6 _ _ _ _ _ _ _ _ _ _ _ _
      | exact unit_Append.mono _ _
      | exact unit_Parse.mono _ _
      | exact unit_Places.mono _ _
      | exact waybilllaw13_Small.mono _ _
      | exact waybilllaw13_Tame.mono _ _
      | exact waybilllaw13_awake.mono _
      | exact waybillref16_SameOps.mono _ _ _
      | exact waybillref7_Ops.mono _ _
      | exact waybillref7_Places.mono _ _
      | exact waybillref7_Unit.mono _ _
      | exact LeO.none _
      | refine LeO.ite ?_ ?_
      | refine LeO.bind ?_ (fun _ => ?_)
    · intro y0 y1 y2 y3 y4 y5 y6 y7 y8
      unfold waybilllaw13_UnitTells.l1
      repeat' first
      | (with_reducible exact ih0 _ _ _ _ _ _)
      | (with_reducible exact ih1 _ _ _ _ _ _)
      | (with_reducible exact ih2 _ _ _ _ _ _ _ _)
      | (with_reducible exact ih3 _ _ _ _ _ _ _ _)
      | (with_reducible exact ih4 _ _ _ _ _ _ _ _ _)
      | (with_reducible exact ih5 _ _ _ _ _ _ _ _ _ _ _ _)
      | (with_reducible exact ih6 _ _ _ _ _ _ _ _ _ _ _ _)
      | (with_reducible exact unit_Append.mono _ _)
      | (with_reducible exact unit_Parse.mono _ _)
      | (with_reducible exact unit_Places.mono _ _)
      | (with_reducible exact waybilllaw13_Small.mono _ _)
      | (with_reducible exact waybilllaw13_Tame.mono _ _)
      | (with_reducible exact waybilllaw13_awake.mono _)
      | (with_reducible exact waybillref16_SameOps.mono _ _ _)
      | (with_reducible exact waybillref7_Ops.mono _ _)
      | (with_reducible exact waybillref7_Places.mono _ _)
      | (with_reducible exact waybillref7_Unit.mono _ _)
      | (with_reducible exact LeO.refl _)
      | (with_reducible exact LeO.none _)
      | (with_reducible refine LeO.ite ?_ ?_)
      | (with_reducible refine LeO.bind ?_ (fun _ => ?_))
      | exact ih0 _ _ _ _ _ _
      | exact ih1 _ _ _ _ _ _
      | exact ih2 _ _ _ _ _ _ _ _
      | exact ih3 _ _ _ _ _ _ _ _
      | exact ih4 _ _ _ _ _ _ _ _ _
      | exact ih5 _ _ _ _ _ _ _ _ _ _ _ _
      | exact ih6 _ _ _ _ _ _ _ _ _ _ _ _
      | exact unit_Append.mono _ _
      | exact unit_Parse.mono _ _
      | exact unit_Places.mono _ _
      | exact waybilllaw13_Small.mono _ _
      | exact waybilllaw13_Tame.mono _ _
      | exact waybilllaw13_awake.mono _
      | exact waybillref16_SameOps.mono _ _ _
      | exact waybillref7_Ops.mono _ _
      | exact waybillref7_Places.mono _ _
      | exact waybillref7_Unit.mono _ _
      | exact LeO.none _
      | refine LeO.ite ?_ ?_
      | refine LeO.bind ?_ (fun _ => ?_)
    · intro y0 y1 y2 y3 y4 y5 y6 y7 y8 y9 y10 y11
      unfold waybilllaw13_UnitTells.j5
      repeat' first
      | (with_reducible exact ih0 _ _ _ _ _ _)
      | (with_reducible exact ih1 _ _ _ _ _ _)
      | (with_reducible exact ih2 _ _ _ _ _ _ _ _)
      | (with_reducible exact ih3 _ _ _ _ _ _ _ _)
      | (with_reducible exact ih4 _ _ _ _ _ _ _ _ _)
      | (with_reducible exact ih5 _ _ _ _ _ _ _ _ _ _ _ _)
      | (with_reducible exact ih6 _ _ _ _ _ _ _ _ _ _ _ _)
      | (with_reducible exact unit_Append.mono _ _)
      | (with_reducible exact unit_Parse.mono _ _)
      | (with_reducible exact unit_Places.mono _ _)
      | (with_reducible exact waybilllaw13_Small.mono _ _)
      | (with_reducible exact waybilllaw13_Tame.mono _ _)
      | (with_reducible exact waybilllaw13_awake.mono _)
      | (with_reducible exact waybillref16_SameOps.mono _ _ _)
      | (with_reducible exact waybillref7_Ops.mono _ _)
      | (with_reducible exact waybillref7_Places.mono _ _)
      | (with_reducible exact waybillref7_Unit.mono _ _)
      | (with_reducible exact LeO.refl _)
      | (with_reducible exact LeO.none _)
      | (with_reducible refine LeO.ite ?_ ?_)
      | (with_reducible refine LeO.bind ?_ (fun _ => ?_))
      | exact ih0 _ _ _ _ _ _
      | exact ih1 _ _ _ _ _ _
      | exact ih2 _ _ _ _ _ _ _ _
      | exact ih3 _ _ _ _ _ _ _ _
      | exact ih4 _ _ _ _ _ _ _ _ _
      | exact ih5 _ _ _ _ _ _ _ _ _ _ _ _
      | exact ih6 _ _ _ _ _ _ _ _ _ _ _ _
      | exact unit_Append.mono _ _
      | exact unit_Parse.mono _ _
      | exact unit_Places.mono _ _
      | exact waybilllaw13_Small.mono _ _
      | exact waybilllaw13_Tame.mono _ _
      | exact waybilllaw13_awake.mono _
      | exact waybillref16_SameOps.mono _ _ _
      | exact waybillref7_Ops.mono _ _
      | exact waybillref7_Places.mono _ _
      | exact waybillref7_Unit.mono _ _
      | exact LeO.none _
      | refine LeO.ite ?_ ?_
      | refine LeO.bind ?_ (fun _ => ?_)
    · intro y0 y1 y2 y3 y4 y5 y6 y7 y8 y9 y10 y11
      unfold waybilllaw13_UnitTells.l2
      repeat' first
      | (with_reducible exact ih0 _ _ _ _ _ _)
      | (with_reducible exact ih1 _ _ _ _ _ _)
      | (with_reducible exact ih2 _ _ _ _ _ _ _ _)
      | (with_reducible exact ih3 _ _ _ _ _ _ _ _)
      | (with_reducible exact ih4 _ _ _ _ _ _ _ _ _)
      | (with_reducible exact ih5 _ _ _ _ _ _ _ _ _ _ _ _)
      | (with_reducible exact ih6 _ _ _ _ _ _ _ _ _ _ _ _)
      | (with_reducible exact unit_Append.mono _ _)
      | (with_reducible exact unit_Parse.mono _ _)
      | (with_reducible exact unit_Places.mono _ _)
      | (with_reducible exact waybilllaw13_Small.mono _ _)
      | (with_reducible exact waybilllaw13_Tame.mono _ _)
      | (with_reducible exact waybilllaw13_awake.mono _)
      | (with_reducible exact waybillref16_SameOps.mono _ _ _)
      | (with_reducible exact waybillref7_Ops.mono _ _)
      | (with_reducible exact waybillref7_Places.mono _ _)
      | (with_reducible exact waybillref7_Unit.mono _ _)
      | (with_reducible exact LeO.refl _)
      | (with_reducible exact LeO.none _)
      | (with_reducible refine LeO.ite ?_ ?_)
      | (with_reducible refine LeO.bind ?_ (fun _ => ?_))
      | exact ih0 _ _ _ _ _ _
      | exact ih1 _ _ _ _ _ _
      | exact ih2 _ _ _ _ _ _ _ _
      | exact ih3 _ _ _ _ _ _ _ _
      | exact ih4 _ _ _ _ _ _ _ _ _
      | exact ih5 _ _ _ _ _ _ _ _ _ _ _ _
      | exact ih6 _ _ _ _ _ _ _ _ _ _ _ _
      | exact unit_Append.mono _ _
      | exact unit_Parse.mono _ _
      | exact unit_Places.mono _ _
      | exact waybilllaw13_Small.mono _ _
      | exact waybilllaw13_Tame.mono _ _
      | exact waybilllaw13_awake.mono _
      | exact waybillref16_SameOps.mono _ _ _
      | exact waybillref7_Ops.mono _ _
      | exact waybillref7_Places.mono _ _
      | exact waybillref7_Unit.mono _ _
      | exact LeO.none _
      | refine LeO.ite ?_ ?_
      | refine LeO.bind ?_ (fun _ => ?_)
theorem waybilllaw13_UnitTells.mono : ∀ a0 a1 a2 a3 a4 k, LeO (waybilllaw13_UnitTells.f k a0 a1 a2 a3 a4) (waybilllaw13_UnitTells.f (k + 1) a0 a1 a2 a3 a4) := by
  intro a0 a1 a2 a3 a4 k
  obtain ⟨ih0, ih1, ih2, ih3, ih4, ih5, ih6⟩ := waybilllaw13_UnitTells.mono_l k
  unfold waybilllaw13_UnitTells.f
  repeat' first
      | (with_reducible exact ih0 _ _ _ _ _ _)
      | (with_reducible exact ih1 _ _ _ _ _ _)
      | (with_reducible exact ih2 _ _ _ _ _ _ _ _)
      | (with_reducible exact ih3 _ _ _ _ _ _ _ _)
      | (with_reducible exact ih4 _ _ _ _ _ _ _ _ _)
      | (with_reducible exact ih5 _ _ _ _ _ _ _ _ _ _ _ _)
      | (with_reducible exact ih6 _ _ _ _ _ _ _ _ _ _ _ _)
      | (with_reducible exact unit_Append.mono _ _)
      | (with_reducible exact unit_Parse.mono _ _)
      | (with_reducible exact unit_Places.mono _ _)
      | (with_reducible exact waybilllaw13_Small.mono _ _)
      | (with_reducible exact waybilllaw13_Tame.mono _ _)
      | (with_reducible exact waybilllaw13_awake.mono _)
      | (with_reducible exact waybillref16_SameOps.mono _ _ _)
      | (with_reducible exact waybillref7_Ops.mono _ _)
      | (with_reducible exact waybillref7_Places.mono _ _)
      | (with_reducible exact waybillref7_Unit.mono _ _)
      | (with_reducible exact LeO.refl _)
      | (with_reducible exact LeO.none _)
      | (with_reducible refine LeO.ite ?_ ?_)
      | (with_reducible refine LeO.bind ?_ (fun _ => ?_))
      | exact ih0 _ _ _ _ _ _
      | exact ih1 _ _ _ _ _ _
      | exact ih2 _ _ _ _ _ _ _ _
      | exact ih3 _ _ _ _ _ _ _ _
      | exact ih4 _ _ _ _ _ _ _ _ _
      | exact ih5 _ _ _ _ _ _ _ _ _ _ _ _
      | exact ih6 _ _ _ _ _ _ _ _ _ _ _ _
      | exact unit_Append.mono _ _
      | exact unit_Parse.mono _ _
      | exact unit_Places.mono _ _
      | exact waybilllaw13_Small.mono _ _
      | exact waybilllaw13_Tame.mono _ _
      | exact waybilllaw13_awake.mono _
      | exact waybillref16_SameOps.mono _ _ _
      | exact waybillref7_Ops.mono _ _
      | exact waybillref7_Places.mono _ _
      | exact waybillref7_Unit.mono _ _
      | exact LeO.none _
      | refine LeO.ite ?_ ?_
      | refine LeO.bind ?_ (fun _ => ?_)
set_option maxHeartbeats 8000000 in
set_option maxRecDepth 100000 in
theorem waybilllaw13_UnitTells.calls (k : Nat) (P0_ : Nat → Prop) (A0 : Option Addr) (c0 : Nat) (l0 : List (S38)) (P1_ : Nat → Prop) (A1 : Option Addr) (c1 : Nat) (l1 : List Int) (a2 : Int) (a3 : Int) (a4 : Int) (r : Bool) (w : World) (hs0 : Kd.V k38 38 w w.heap.size (fun k_ => P0_ k_) (.slice A0 l0.length c0) l0) (hs1 : Kd.V (Kd.int .u8) 5 w w.heap.size (fun k_ => P1_ k_) (.slice A1 l1.length c1) l1) (h : waybilllaw13_UnitTells.f k l0 l1 a2 a3 a4 = some r) :
    Calls Try.prog 6 #[.slice A0 l0.length c0, .slice A1 l1.length c1, .int .i64 a2, .int .u8 a3, .int .i64 a4] w fun e w' => e = .returned (.bool r) ∧ Below w.heap.size w w' := by
  have hu51 := Try.underlying51
  have HO0 := Aside0.mk (show Kd.V k38 38 w w.heap.size (fun k_ => ((P0_ k_ ∨ P1_ k_) ∨ w.heap.size ≤ k_)) (.slice A0 l0.length c0) l0 from Kd.V_mono hs0 (fun k_ hk => .inl (.inl hk)))
  have HO1 := Aside0.mk (show Kd.V (Kd.int .u8) 5 w w.heap.size (fun k_ => ((P0_ k_ ∨ P1_ k_) ∨ w.heap.size ≤ k_)) (.slice A1 l1.length c1) l1 from Kd.V_mono hs1 (fun k_ hk => .inl (.inr hk)))
  have HB := Aside0.mk (Below.refl w.heap.size w)
  have H : ((waybilllaw13_Small.f k l0).bind fun t332 => (if t332 = true then (waybilllaw13_UnitTells.j0 k l0 l1 a2 a3 a4 (decide ((l1.length : Int) > 600))) else (waybilllaw13_UnitTells.j0 k l0 l1 a2 a3 a4 true))) = some r := h
  clear h
  have HC6 := Aside0.mk H
  clear H
  go_enter Try.func6, Try.ntmps6
  go_upto_region 1 with (fail)
  repeat (go_quiet (fail); go_upto_region 1 with (fail))
  go_cut [35] (fun v35 wc => ∃ (kq : Nat) (x35_5 : Bool), v35 = .bool x35_5 ∧ Aside0 (waybilllaw13_UnitTells.j0 kq l0 l1 a2 a3 a4 x35_5 = some r) ∧ Aside0 (kq ≤ k) ∧ Aside0 (Kd.V k38 38 wc w.heap.size (fun k_ => ((P0_ k_ ∨ P1_ k_) ∨ w.heap.size ≤ k_)) (.slice A0 l0.length c0) l0) ∧ Aside0 (Kd.V (Kd.int .u8) 5 wc w.heap.size (fun k_ => ((P0_ k_ ∨ P1_ k_) ∨ w.heap.size ≤ k_)) (.slice A1 l1.length c1) l1) ∧ Aside0 (Below w.heap.size w wc))
  case first =>
    have H := HC6.out
    clear HC6
    replace H := Option.bind_eq_some_iff.mp H
    obtain ⟨t332, A70, H⟩ := H
    replace H : (if t332 = true then (waybilllaw13_UnitTells.j0 k l0 l1 a2 a3 a4 (decide ((l1.length : Int) > 600))) else (waybilllaw13_UnitTells.j0 k l0 l1 a2 a3 a4 true)) = some r := H
    have A7 := Aside0.mk A70
    clear A70
    by_cases c8 : t332 = true
    · subst c8
      have H1 : (waybilllaw13_UnitTells.j0 k l0 l1 a2 a3 a4 (decide ((l1.length : Int) > 600))) = some r := by rw [if_pos rfl] at H; exact H
      clear H
      have H := H1
      clear H1
      have H' := Aside0.mk H
      clear H
      go_wp2_with (first | (go_at_call 22; (with_reducible refine (waybilllaw13_Small.calls k _ _ l0 true _ ?side1 ?side2 A7.out).mono ?_); (case side1 => repeat (first | exact (Kd.V_reads' HO0.out).2.2 | (with_reducible refine Kd.C_alloc ?_ _) | (with_reducible refine Kd.C_drewN ?_ _) | (with_reducible refine Kd.C_drew ?_))); (case side2 => exact (Kd.V_reads' HO0.out).2.1); rintro e w' ⟨rfl, ⟨nd, rfl⟩⟩; (try first | exact ⟨rfl, _, World.drewN_drewN _ _ _⟩ | exact ⟨rfl, _, Eq.trans (World.drewN_drewN _ _ _) (congrArg (World.drewN _) (Nat.add_assoc _ _ _))⟩)))
      repeat (go_quiet (first | (go_at_call 22; (with_reducible refine (waybilllaw13_Small.calls k _ _ l0 true _ ?side1 ?side2 A7.out).mono ?_); (case side1 => repeat (first | exact (Kd.V_reads' HO0.out).2.2 | (with_reducible refine Kd.C_alloc ?_ _) | (with_reducible refine Kd.C_drewN ?_ _) | (with_reducible refine Kd.C_drew ?_))); (case side2 => exact (Kd.V_reads' HO0.out).2.1); rintro e w' ⟨rfl, ⟨nd, rfl⟩⟩; (try first | exact ⟨rfl, _, World.drewN_drewN _ _ _⟩ | exact ⟨rfl, _, Eq.trans (World.drewN_drewN _ _ _) (congrArg (World.drewN _) (Nat.add_assoc _ _ _))⟩))); try go_wp2_with (first | (go_at_call 22; (with_reducible refine (waybilllaw13_Small.calls k _ _ l0 true _ ?side1 ?side2 A7.out).mono ?_); (case side1 => repeat (first | exact (Kd.V_reads' HO0.out).2.2 | (with_reducible refine Kd.C_alloc ?_ _) | (with_reducible refine Kd.C_drewN ?_ _) | (with_reducible refine Kd.C_drew ?_))); (case side2 => exact (Kd.V_reads' HO0.out).2.1); rintro e w' ⟨rfl, ⟨nd, rfl⟩⟩; (try first | exact ⟨rfl, _, World.drewN_drewN _ _ _⟩ | exact ⟨rfl, _, Eq.trans (World.drewN_drewN _ _ _) (congrArg (World.drewN _) (Nat.add_assoc _ _ _))⟩))))
      go_meet
      case rel => exact ⟨_, (decide ((l1.length : Int) > 600)), (by first | rfl | (simp; done) | (simp [*]; done)), H', ⟨by first | omega | exact Nat.le_refl _⟩, ⟨by (with_reducible repeat (first | apply Kd.V_alloc | apply Kd.V_drewN | apply Kd.V_drew)); exact HO0.out⟩, ⟨by (with_reducible repeat (first | apply Kd.V_alloc | apply Kd.V_drewN | apply Kd.V_drew)); exact HO1.out⟩, ⟨by repeat (first | (with_reducible first | exact HB.out | apply below_alloc | apply pw_below_drewN | apply below_drew1) | exact HB.out)⟩⟩
    · replace c8 := Bool.eq_false_iff.mpr c8
      subst c8
      have H1 : (waybilllaw13_UnitTells.j0 k l0 l1 a2 a3 a4 true) = some r := by rw [if_neg (show ¬ (false = true) by decide)] at H; exact H
      clear H
      have H := H1
      clear H1
      have H' := Aside0.mk H
      clear H
      go_wp2_with (first | (go_at_call 22; (with_reducible refine (waybilllaw13_Small.calls k _ _ l0 false _ ?side1 ?side2 A7.out).mono ?_); (case side1 => repeat (first | exact (Kd.V_reads' HO0.out).2.2 | (with_reducible refine Kd.C_alloc ?_ _) | (with_reducible refine Kd.C_drewN ?_ _) | (with_reducible refine Kd.C_drew ?_))); (case side2 => exact (Kd.V_reads' HO0.out).2.1); rintro e w' ⟨rfl, ⟨nd, rfl⟩⟩; (try first | exact ⟨rfl, _, World.drewN_drewN _ _ _⟩ | exact ⟨rfl, _, Eq.trans (World.drewN_drewN _ _ _) (congrArg (World.drewN _) (Nat.add_assoc _ _ _))⟩)))
      repeat (go_quiet (first | (go_at_call 22; (with_reducible refine (waybilllaw13_Small.calls k _ _ l0 false _ ?side1 ?side2 A7.out).mono ?_); (case side1 => repeat (first | exact (Kd.V_reads' HO0.out).2.2 | (with_reducible refine Kd.C_alloc ?_ _) | (with_reducible refine Kd.C_drewN ?_ _) | (with_reducible refine Kd.C_drew ?_))); (case side2 => exact (Kd.V_reads' HO0.out).2.1); rintro e w' ⟨rfl, ⟨nd, rfl⟩⟩; (try first | exact ⟨rfl, _, World.drewN_drewN _ _ _⟩ | exact ⟨rfl, _, Eq.trans (World.drewN_drewN _ _ _) (congrArg (World.drewN _) (Nat.add_assoc _ _ _))⟩))); try go_wp2_with (first | (go_at_call 22; (with_reducible refine (waybilllaw13_Small.calls k _ _ l0 false _ ?side1 ?side2 A7.out).mono ?_); (case side1 => repeat (first | exact (Kd.V_reads' HO0.out).2.2 | (with_reducible refine Kd.C_alloc ?_ _) | (with_reducible refine Kd.C_drewN ?_ _) | (with_reducible refine Kd.C_drew ?_))); (case side2 => exact (Kd.V_reads' HO0.out).2.1); rintro e w' ⟨rfl, ⟨nd, rfl⟩⟩; (try first | exact ⟨rfl, _, World.drewN_drewN _ _ _⟩ | exact ⟨rfl, _, Eq.trans (World.drewN_drewN _ _ _) (congrArg (World.drewN _) (Nat.add_assoc _ _ _))⟩))))
      go_meet
      case rel => exact ⟨_, (true), (by first | rfl | (simp; done) | (simp [*]; done)), H', ⟨by first | omega | exact Nat.le_refl _⟩, ⟨by (with_reducible repeat (first | apply Kd.V_alloc | apply Kd.V_drewN | apply Kd.V_drew)); exact HO0.out⟩, ⟨by (with_reducible repeat (first | apply Kd.V_alloc | apply Kd.V_drewN | apply Kd.V_drew)); exact HO1.out⟩, ⟨by repeat (first | (with_reducible first | exact HB.out | apply below_alloc | apply pw_below_drewN | apply below_drew1) | exact HB.out)⟩⟩
  case rest =>
    clear HC6
    try clear c1
    try clear p2
    try clear c6
    try clear c8
    obtain ⟨kq, x35_5, rfl, HA, HJ5, HO_0, HO_1, HB⟩ := hcut
    cases kq with
    | zero => exact absurd HA.out (by simp [waybilllaw13_UnitTells.j0])
    | succ kj5 =>
      have H := HA.out
      clear HA
      simp only [waybilllaw13_UnitTells.j0] at H
      by_cases c9 : x35_5 = true
      · subst c9
        have H1 : ((waybilllaw13_awake.f kj5).bind fun t333 => (some t333)) = some r := by rw [if_pos rfl] at H; exact H
        clear H
        have H := H1
        clear H1
        replace H := Option.bind_eq_some_iff.mp H
        obtain ⟨t333, A100, H⟩ := H
        replace H : (some t333) = some r := H
        have A10 := Aside0.mk A100
        clear A100
        obtain rfl := Option.some.inj H
        go_wp2_with (first | (go_at_call 21; (with_reducible refine (waybilllaw13_awake.calls kj5  t333 _ A10.out).mono ?_); rintro e w11 ⟨rfl, hb⟩; have n0_ := Aside0.mk (Kd.V_below (by (with_reducible repeat (first | apply Kd.V_alloc | apply Kd.V_drewN | apply Kd.V_drew)); exact HO_0.out) hb); have n1_ := Aside0.mk (Kd.V_below (by (with_reducible repeat (first | apply Kd.V_alloc | apply Kd.V_drewN | apply Kd.V_drew)); exact HO_1.out) hb); have n2_ := Aside0.mk (below_step (by repeat (first | (with_reducible first | exact HB.out | apply below_alloc | apply pw_below_drewN | apply below_drew1) | exact HB.out)) hb); clear HO_0; clear HO_1; clear HB; have HO_0 := n0_; have HO_1 := n1_; have HB := n2_; clear n0_ n1_ n2_; (try clear hb); (try clear hb2); (try clear hk); (try clear hi); (try clear hge)))
        repeat (go_quiet (first | (go_at_call 21; (with_reducible refine (waybilllaw13_awake.calls kj5  t333 _ A10.out).mono ?_); rintro e w11 ⟨rfl, hb⟩; have n0_ := Aside0.mk (Kd.V_below (by (with_reducible repeat (first | apply Kd.V_alloc | apply Kd.V_drewN | apply Kd.V_drew)); exact HO_0.out) hb); have n1_ := Aside0.mk (Kd.V_below (by (with_reducible repeat (first | apply Kd.V_alloc | apply Kd.V_drewN | apply Kd.V_drew)); exact HO_1.out) hb); have n2_ := Aside0.mk (below_step (by repeat (first | (with_reducible first | exact HB.out | apply below_alloc | apply pw_below_drewN | apply below_drew1) | exact HB.out)) hb); clear HO_0; clear HO_1; clear HB; have HO_0 := n0_; have HO_1 := n1_; have HB := n2_; clear n0_ n1_ n2_; (try clear hb); (try clear hb2); (try clear hk); (try clear hi); (try clear hge))); try go_wp2_with (first | (go_at_call 21; (with_reducible refine (waybilllaw13_awake.calls kj5  t333 _ A10.out).mono ?_); rintro e w11 ⟨rfl, hb⟩; have n0_ := Aside0.mk (Kd.V_below (by (with_reducible repeat (first | apply Kd.V_alloc | apply Kd.V_drewN | apply Kd.V_drew)); exact HO_0.out) hb); have n1_ := Aside0.mk (Kd.V_below (by (with_reducible repeat (first | apply Kd.V_alloc | apply Kd.V_drewN | apply Kd.V_drew)); exact HO_1.out) hb); have n2_ := Aside0.mk (below_step (by repeat (first | (with_reducible first | exact HB.out | apply below_alloc | apply pw_below_drewN | apply below_drew1) | exact HB.out)) hb); clear HO_0; clear HO_1; clear HB; have HO_0 := n0_; have HO_1 := n1_; have HB := n2_; clear n0_ n1_ n2_; (try clear hb); (try clear hb2); (try clear hk); (try clear hi); (try clear hge))))
        all_goals first | (go_ret; exact ⟨by first | rfl | (simp [errW_none, errW_some]; done) | (simp [errW_none, errW_some]; rfl) | (simp [*, errW_none, errW_some]; done) | (simp [*, errW_none, errW_some]; rfl), by repeat (first | (with_reducible first | exact HB.out | apply below_alloc | apply pw_below_drewN | apply below_drew1) | exact HB.out)⟩) | (exfalso; simp_all; done)
      · replace c9 := Bool.eq_false_iff.mpr c9
        subst c9
        have H1 : (waybilllaw13_UnitTells.l0 kj5 l0 l1 a2 a3 a4 0) = some r := by rw [if_neg (show ¬ (false = true) by decide)] at H; exact H
        clear H
        have H := H1
        clear H1
        have H' := Aside0.mk H
        clear H
        go_wp2
        repeat (go_quiet (fail); try go_wp2)
        go_loopg [0, 11] kj5 (fun kq v0 v11 w' => ∃ (x0_2 : List (S38)) (x1_2 : List Int) (x11_2 : Int), v11 = .int .i64 x11_2 ∧ Aside0 (waybilllaw13_UnitTells.l0 kq x0_2 x1_2 a2 a3 a4 x11_2 = some r) ∧ Aside0 (kq ≤ kj5) ∧ Aside0 (Kd.V k38 38 w' w.heap.size (fun k_ => ((P0_ k_ ∨ P1_ k_) ∨ w.heap.size ≤ k_)) v0 x0_2) ∧ Aside0 (Kd.V (Kd.int .u8) 5 w' w.heap.size (fun k_ => ((P0_ k_ ∨ P1_ k_) ∨ w.heap.size ≤ k_)) (.slice A1 l1.length c1) x1_2) ∧ Aside0 (Below w.heap.size w w'))
        case atStart => exact ⟨(l0), (l1), (0), (by first | rfl | (simp; done) | (simp [*]; done)), H', ⟨Nat.le_refl _⟩, ⟨by (with_reducible repeat (first | apply Kd.V_alloc | apply Kd.V_drewN | apply Kd.V_drew)); exact HO_0.out⟩, ⟨by (with_reducible repeat (first | apply Kd.V_alloc | apply Kd.V_drewN | apply Kd.V_drew)); exact HO_1.out⟩, ⟨by repeat (first | (with_reducible first | exact HB.out | apply below_alloc | apply pw_below_drewN | apply below_drew1) | exact HB.out)⟩⟩
        case round =>
          clear H'
          try clear c1
          try clear p2
          try clear c6
          try clear c8
          try clear c9
          try clear p2
          obtain ⟨x0_2, x1_2, x11_2, rfl, HA, HK2, HO_0, HO_1, HB⟩ := hrel
          have hl1_2 := (Kd.V_reads' HO_1.out).1
          rw [hl1_2] at HO_1
          (try simp only [hl1_2])
          (try simp only [hl1_2] at HO_0)
          cases gk with
          | zero => exact absurd HA.out (by simp [waybilllaw13_UnitTells.l0])
          | succ k2 =>
            have H := HA.out
            clear HA
            simp only [waybilllaw13_UnitTells.l0] at H
            by_cases c12 : x11_2 < 2
            · rw [if_pos c12] at H
              have c12b0 : decide (x11_2 < 2) = true := decide_eq_true c12
              clear c12
              replace H := Option.bind_eq_some_iff.mp H
              obtain ⟨⟨t335, t336⟩, A130, H⟩ := H
              replace H : ((waybillref7_Unit.f k2 x0_2).bind fun bt339 => (if (t336 != bt339.2) = true then (waybilllaw13_UnitTells.j2 k2 x0_2 x1_2 a2 a3 a4 x11_2 bt339.1 true) else (waybilllaw13_UnitTells.j2 k2 x0_2 x1_2 a2 a3 a4 x11_2 bt339.1 ((strOfNums t335).toList != (strOfNums bt339.1).toList)))) = some r := H
              have A13 := Aside0.mk A130
              clear A130
              replace H := Option.bind_eq_some_iff.mp H
              obtain ⟨⟨t339, t340⟩, A140, H⟩ := H
              replace H : (if (t336 != t340) = true then (waybilllaw13_UnitTells.j2 k2 x0_2 x1_2 a2 a3 a4 x11_2 t339 true) else (waybilllaw13_UnitTells.j2 k2 x0_2 x1_2 a2 a3 a4 x11_2 t339 ((strOfNums t335).toList != (strOfNums t339).toList))) = some r := H
              have A14 := Aside0.mk A140
              clear A140
              have HC15 := Aside0.mk H
              clear H
              obtain ⟨Ao16, co16, eo16⟩ := Kd.V_slice HO_0.out
              subst eo16
              go_upto_region 8 with (first | (go_at_call 20; (with_reducible refine (unit_Append.calls k2 _ _ x0_2 t335 t336 _ ?side1 ?side2 A13.out).mono ?_); (case side1 => repeat (first | exact (Kd.V_reads' HO_0.out).2.2 | (with_reducible refine Kd.C_alloc ?_ _) | (with_reducible refine Kd.C_drewN ?_ _) | (with_reducible refine Kd.C_drew ?_))); (case side2 => exact (Kd.V_reads' HO_0.out).2.1); rintro e w17 ⟨v337, rfl, ho0, hb⟩; have n0_ := Aside0.mk (Kd.V_elder' (by (with_reducible repeat (first | apply Kd.V_alloc | apply Kd.V_drewN | apply Kd.V_drew)); exact HO_0.out) (Kd.R_base ho0) hb); have n1_ := Aside0.mk (Kd.V_elder' (by (with_reducible repeat (first | apply Kd.V_alloc | apply Kd.V_drewN | apply Kd.V_drew)); exact HO_1.out) (Kd.R_base ho0) hb); have n2_ := Aside0.mk (Kd.R_lower (Kd.R_newM (M := fun k_ => (w.heap.size ≤ k_)) ho0 (below_size (by repeat (first | (with_reducible first | exact HB.out | apply below_alloc | apply pw_below_drewN | apply below_drew1) | exact HB.out))) (fun k_ h_ => h_)) (below_size (by repeat (first | (with_reducible first | exact HB.out | apply below_alloc | apply pw_below_drewN | apply below_drew1) | exact HB.out)))); have n3_ := Aside0.mk (below_step (by repeat (first | (with_reducible first | exact HB.out | apply below_alloc | apply pw_below_drewN | apply below_drew1) | exact HB.out)) hb); clear HO_0; clear HO_1; clear HB; have HO_0 := n0_; have HO_1 := n1_; have HO338 := n2_; have HB := n3_; clear n0_ n1_ n2_ n3_; (try clear hb); (try clear hb2); (try clear hk); (try clear hi); (try clear hge); (try clear ho0)) | (go_at_call 23; (with_reducible refine (waybillref7_Unit.calls k2 _ _ x0_2 t339 t340 _ ?side1 ?side2 A14.out).mono ?_); (case side1 => repeat (first | exact (Kd.V_reads' HO_0.out).2.2 | (with_reducible refine Kd.C_alloc ?_ _) | (with_reducible refine Kd.C_drewN ?_ _) | (with_reducible refine Kd.C_drew ?_))); (case side2 => exact (Kd.V_reads' HO_0.out).2.1); rintro e w18 ⟨v341, rfl, ho0, hb⟩; have n0_ := Aside0.mk (Kd.V_elder' (by (with_reducible repeat (first | apply Kd.V_alloc | apply Kd.V_drewN | apply Kd.V_drew)); exact HO_0.out) (Kd.R_base ho0) hb); have n1_ := Aside0.mk (Kd.V_elder' (by (with_reducible repeat (first | apply Kd.V_alloc | apply Kd.V_drewN | apply Kd.V_drew)); exact HO_1.out) (Kd.R_base ho0) hb); have n2_ := Aside0.mk (Kd.R_elder' (by (with_reducible repeat (first | apply Kd.R_alloc | apply Kd.R_drewN | apply Kd.R_drew)); exact HO338.out) (Kd.R_base ho0) hb); have n3_ := Aside0.mk (Kd.R_lower (Kd.R_new' (Kd.R_newM (M := fun k_ => (w.heap.size ≤ k_)) ho0 (below_size (by repeat (first | (with_reducible first | exact HB.out | apply below_alloc | apply pw_below_drewN | apply below_drew1) | exact HB.out))) (fun k_ h_ => h_)) (Kd.R_lt (by (with_reducible repeat (first | apply Kd.R_alloc | apply Kd.R_drewN | apply Kd.R_drew)); exact HO338.out))) (below_size (by repeat (first | (with_reducible first | exact HB.out | apply below_alloc | apply pw_below_drewN | apply below_drew1) | exact HB.out)))); have n4_ := Aside0.mk (below_step (by repeat (first | (with_reducible first | exact HB.out | apply below_alloc | apply pw_below_drewN | apply below_drew1) | exact HB.out)) hb); clear HO_0; clear HO_1; clear HO338; clear HB; have HO_0 := n0_; have HO_1 := n1_; have HO338 := n2_; have HO342 := n3_; have HB := n4_; clear n0_ n1_ n2_ n3_ n4_; (try clear hb); (try clear hb2); (try clear hk); (try clear hi); (try clear hge); (try clear ho0)))
              repeat (go_quiet (first | (go_at_call 20; (with_reducible refine (unit_Append.calls k2 _ _ x0_2 t335 t336 _ ?side1 ?side2 A13.out).mono ?_); (case side1 => repeat (first | exact (Kd.V_reads' HO_0.out).2.2 | (with_reducible refine Kd.C_alloc ?_ _) | (with_reducible refine Kd.C_drewN ?_ _) | (with_reducible refine Kd.C_drew ?_))); (case side2 => exact (Kd.V_reads' HO_0.out).2.1); rintro e w17 ⟨v337, rfl, ho0, hb⟩; have n0_ := Aside0.mk (Kd.V_elder' (by (with_reducible repeat (first | apply Kd.V_alloc | apply Kd.V_drewN | apply Kd.V_drew)); exact HO_0.out) (Kd.R_base ho0) hb); have n1_ := Aside0.mk (Kd.V_elder' (by (with_reducible repeat (first | apply Kd.V_alloc | apply Kd.V_drewN | apply Kd.V_drew)); exact HO_1.out) (Kd.R_base ho0) hb); have n2_ := Aside0.mk (Kd.R_lower (Kd.R_newM (M := fun k_ => (w.heap.size ≤ k_)) ho0 (below_size (by repeat (first | (with_reducible first | exact HB.out | apply below_alloc | apply pw_below_drewN | apply below_drew1) | exact HB.out))) (fun k_ h_ => h_)) (below_size (by repeat (first | (with_reducible first | exact HB.out | apply below_alloc | apply pw_below_drewN | apply below_drew1) | exact HB.out)))); have n3_ := Aside0.mk (below_step (by repeat (first | (with_reducible first | exact HB.out | apply below_alloc | apply pw_below_drewN | apply below_drew1) | exact HB.out)) hb); clear HO_0; clear HO_1; clear HB; have HO_0 := n0_; have HO_1 := n1_; have HO338 := n2_; have HB := n3_; clear n0_ n1_ n2_ n3_; (try clear hb); (try clear hb2); (try clear hk); (try clear hi); (try clear hge); (try clear ho0)) | (go_at_call 23; (with_reducible refine (waybillref7_Unit.calls k2 _ _ x0_2 t339 t340 _ ?side1 ?side2 A14.out).mono ?_); (case side1 => repeat (first | exact (Kd.V_reads' HO_0.out).2.2 | (with_reducible refine Kd.C_alloc ?_ _) | (with_reducible refine Kd.C_drewN ?_ _) | (with_reducible refine Kd.C_drew ?_))); (case side2 => exact (Kd.V_reads' HO_0.out).2.1); rintro e w18 ⟨v341, rfl, ho0, hb⟩; have n0_ := Aside0.mk (Kd.V_elder' (by (with_reducible repeat (first | apply Kd.V_alloc | apply Kd.V_drewN | apply Kd.V_drew)); exact HO_0.out) (Kd.R_base ho0) hb); have n1_ := Aside0.mk (Kd.V_elder' (by (with_reducible repeat (first | apply Kd.V_alloc | apply Kd.V_drewN | apply Kd.V_drew)); exact HO_1.out) (Kd.R_base ho0) hb); have n2_ := Aside0.mk (Kd.R_elder' (by (with_reducible repeat (first | apply Kd.R_alloc | apply Kd.R_drewN | apply Kd.R_drew)); exact HO338.out) (Kd.R_base ho0) hb); have n3_ := Aside0.mk (Kd.R_lower (Kd.R_new' (Kd.R_newM (M := fun k_ => (w.heap.size ≤ k_)) ho0 (below_size (by repeat (first | (with_reducible first | exact HB.out | apply below_alloc | apply pw_below_drewN | apply below_drew1) | exact HB.out))) (fun k_ h_ => h_)) (Kd.R_lt (by (with_reducible repeat (first | apply Kd.R_alloc | apply Kd.R_drewN | apply Kd.R_drew)); exact HO338.out))) (below_size (by repeat (first | (with_reducible first | exact HB.out | apply below_alloc | apply pw_below_drewN | apply below_drew1) | exact HB.out)))); have n4_ := Aside0.mk (below_step (by repeat (first | (with_reducible first | exact HB.out | apply below_alloc | apply pw_below_drewN | apply below_drew1) | exact HB.out)) hb); clear HO_0; clear HO_1; clear HO338; clear HB; have HO_0 := n0_; have HO_1 := n1_; have HO338 := n2_; have HO342 := n3_; have HB := n4_; clear n0_ n1_ n2_ n3_ n4_; (try clear hb); (try clear hb2); (try clear hk); (try clear hi); (try clear hge); (try clear ho0))); go_upto_region 8 with (first | (go_at_call 20; (with_reducible refine (unit_Append.calls k2 _ _ x0_2 t335 t336 _ ?side1 ?side2 A13.out).mono ?_); (case side1 => repeat (first | exact (Kd.V_reads' HO_0.out).2.2 | (with_reducible refine Kd.C_alloc ?_ _) | (with_reducible refine Kd.C_drewN ?_ _) | (with_reducible refine Kd.C_drew ?_))); (case side2 => exact (Kd.V_reads' HO_0.out).2.1); rintro e w17 ⟨v337, rfl, ho0, hb⟩; have n0_ := Aside0.mk (Kd.V_elder' (by (with_reducible repeat (first | apply Kd.V_alloc | apply Kd.V_drewN | apply Kd.V_drew)); exact HO_0.out) (Kd.R_base ho0) hb); have n1_ := Aside0.mk (Kd.V_elder' (by (with_reducible repeat (first | apply Kd.V_alloc | apply Kd.V_drewN | apply Kd.V_drew)); exact HO_1.out) (Kd.R_base ho0) hb); have n2_ := Aside0.mk (Kd.R_lower (Kd.R_newM (M := fun k_ => (w.heap.size ≤ k_)) ho0 (below_size (by repeat (first | (with_reducible first | exact HB.out | apply below_alloc | apply pw_below_drewN | apply below_drew1) | exact HB.out))) (fun k_ h_ => h_)) (below_size (by repeat (first | (with_reducible first | exact HB.out | apply below_alloc | apply pw_below_drewN | apply below_drew1) | exact HB.out)))); have n3_ := Aside0.mk (below_step (by repeat (first | (with_reducible first | exact HB.out | apply below_alloc | apply pw_below_drewN | apply below_drew1) | exact HB.out)) hb); clear HO_0; clear HO_1; clear HB; have HO_0 := n0_; have HO_1 := n1_; have HO338 := n2_; have HB := n3_; clear n0_ n1_ n2_ n3_; (try clear hb); (try clear hb2); (try clear hk); (try clear hi); (try clear hge); (try clear ho0)) | (go_at_call 23; (with_reducible refine (waybillref7_Unit.calls k2 _ _ x0_2 t339 t340 _ ?side1 ?side2 A14.out).mono ?_); (case side1 => repeat (first | exact (Kd.V_reads' HO_0.out).2.2 | (with_reducible refine Kd.C_alloc ?_ _) | (with_reducible refine Kd.C_drewN ?_ _) | (with_reducible refine Kd.C_drew ?_))); (case side2 => exact (Kd.V_reads' HO_0.out).2.1); rintro e w18 ⟨v341, rfl, ho0, hb⟩; have n0_ := Aside0.mk (Kd.V_elder' (by (with_reducible repeat (first | apply Kd.V_alloc | apply Kd.V_drewN | apply Kd.V_drew)); exact HO_0.out) (Kd.R_base ho0) hb); have n1_ := Aside0.mk (Kd.V_elder' (by (with_reducible repeat (first | apply Kd.V_alloc | apply Kd.V_drewN | apply Kd.V_drew)); exact HO_1.out) (Kd.R_base ho0) hb); have n2_ := Aside0.mk (Kd.R_elder' (by (with_reducible repeat (first | apply Kd.R_alloc | apply Kd.R_drewN | apply Kd.R_drew)); exact HO338.out) (Kd.R_base ho0) hb); have n3_ := Aside0.mk (Kd.R_lower (Kd.R_new' (Kd.R_newM (M := fun k_ => (w.heap.size ≤ k_)) ho0 (below_size (by repeat (first | (with_reducible first | exact HB.out | apply below_alloc | apply pw_below_drewN | apply below_drew1) | exact HB.out))) (fun k_ h_ => h_)) (Kd.R_lt (by (with_reducible repeat (first | apply Kd.R_alloc | apply Kd.R_drewN | apply Kd.R_drew)); exact HO338.out))) (below_size (by repeat (first | (with_reducible first | exact HB.out | apply below_alloc | apply pw_below_drewN | apply below_drew1) | exact HB.out)))); have n4_ := Aside0.mk (below_step (by repeat (first | (with_reducible first | exact HB.out | apply below_alloc | apply pw_below_drewN | apply below_drew1) | exact HB.out)) hb); clear HO_0; clear HO_1; clear HO338; clear HB; have HO_0 := n0_; have HO_1 := n1_; have HO338 := n2_; have HO342 := n3_; have HB := n4_; clear n0_ n1_ n2_ n3_ n4_; (try clear hb); (try clear hb2); (try clear hk); (try clear hi); (try clear hge); (try clear ho0))))
              (try simp only [Act.put, List.setIfInBounds_toArray, List.set_cons_zero, List.set_cons_succ])
              go_cut [60] (fun v60 wc => ∃ (kq : Nat) (x60_14 : Bool), v60 = .bool x60_14 ∧ Aside0 (waybilllaw13_UnitTells.j2 kq x0_2 x1_2 a2 a3 a4 x11_2 t339 x60_14 = some r) ∧ Aside0 (kq ≤ k2) ∧ Aside0 (Kd.V k38 38 wc w.heap.size (fun k_ => ((P0_ k_ ∨ P1_ k_) ∨ w.heap.size ≤ k_) ∧ some k_ ≠ (v341 : Value).ownBlock) (.slice Ao16 x0_2.length co16) x0_2) ∧ Aside0 (Kd.V (Kd.int .u8) 5 wc w.heap.size (fun k_ => ((P0_ k_ ∨ P1_ k_) ∨ w.heap.size ≤ k_) ∧ some k_ ≠ (v341 : Value).ownBlock) (.slice A1 x1_2.length c1) x1_2) ∧ Aside0 (Kd.R (Kd.int .u8) 5 wc w.heap.size (fun k_ => (w.heap.size ≤ k_)) v341 t339) ∧ Aside0 (Below w.heap.size w wc))
              case first =>
                have H := HC15.out
                clear HC15
                by_cases c19 : (t336 != t340) = true
                · rw [if_pos c19] at H
                  have c19b0 : (t336 != t340) = true := c19
                  (try (have c19b1 : decide (t336 = t340) = false := by simpa using c19))
                  (try (have c19b2 : (t336 == t340) = false := by simpa using c19))
                  (try (have c19b3 : ¬ (t336 = t340) := by simpa using c19))
                  clear c19
                  (first | rw [c19b0] | rw [c19b2] | rw [c19b1] | (simp only [i64_w, i32_w]; rw [c19b0]) | skip)
                  have H' := Aside0.mk H
                  clear H
                  go_wp2
                  repeat (go_quiet (fail); try go_wp2)
                  go_meet
                  case rel => exact ⟨_, (true), (by first | rfl | (simp; done) | (simp [*]; done)), H', ⟨by have := HJ5.out; have := HK2.out; first | omega | exact Nat.le_refl _⟩, ⟨by (try simp only [hl1_2]); (with_reducible repeat (first | apply Kd.V_alloc | apply Kd.V_drewN | apply Kd.V_drew)); exact Kd.V_mono HO_0.out (fun _ hk => ⟨hk.1.1, hk.2⟩)⟩, ⟨by (try simp only [hl1_2]); (with_reducible repeat (first | apply Kd.V_alloc | apply Kd.V_drewN | apply Kd.V_drew)); exact Kd.V_mono HO_1.out (fun _ hk => ⟨hk.1.1, hk.2⟩)⟩, ⟨by (try simp only [hl1_2]); (with_reducible repeat (first | apply Kd.R_alloc | apply Kd.R_drewN | apply Kd.R_drew)); exact Kd.R_mono HO342.out (fun _ hk => hk.1.1)⟩, ⟨by repeat (first | (with_reducible first | exact HB.out | apply below_alloc | apply pw_below_drewN | apply below_drew1) | exact HB.out)⟩⟩
                · rw [if_neg c19] at H
                  have c19b0 : (t336 != t340) = false := by simpa using c19
                  (try (have c19b1 : decide (t336 = t340) = true := by simpa using c19))
                  (try (have c19b2 : (t336 == t340) = true := by simpa using c19))
                  clear c19
                  (first | rw [c19b0] | rw [c19b2] | rw [c19b1] | (simp only [i64_w, i32_w]; rw [c19b0]) | skip)
                  have H' := Aside0.mk H
                  clear H
                  have hcv20 := own_string (P := Try.prog) Try.underlying26 Try.underlying5 Try.underlying9 (Kd.own_of_R HO338.out)
                  have hcv21 := own_string (P := Try.prog) Try.underlying26 Try.underlying5 Try.underlying9 (Kd.own_of_R HO342.out)
                  go_wp2
                  repeat (go_quiet (fail); try go_wp2)
                  go_meet
                  case rel => exact ⟨_, (((strOfNums t335).toList != (strOfNums t339).toList)), (by first | rfl | (simp; done) | (simp [*]; done)), H', ⟨by have := HJ5.out; have := HK2.out; first | omega | exact Nat.le_refl _⟩, ⟨by (try simp only [hl1_2]); (with_reducible repeat (first | apply Kd.V_alloc | apply Kd.V_drewN | apply Kd.V_drew)); exact Kd.V_mono HO_0.out (fun _ hk => ⟨hk.1.1, hk.2⟩)⟩, ⟨by (try simp only [hl1_2]); (with_reducible repeat (first | apply Kd.V_alloc | apply Kd.V_drewN | apply Kd.V_drew)); exact Kd.V_mono HO_1.out (fun _ hk => ⟨hk.1.1, hk.2⟩)⟩, ⟨by (try simp only [hl1_2]); (with_reducible repeat (first | apply Kd.R_alloc | apply Kd.R_drewN | apply Kd.R_drew)); exact Kd.R_mono HO342.out (fun _ hk => hk.1.1)⟩, ⟨by repeat (first | (with_reducible first | exact HB.out | apply below_alloc | apply pw_below_drewN | apply below_drew1) | exact HB.out)⟩⟩
              case rest =>
                clear HC15
                try clear c1
                try clear p2
                try clear hcv2
                try clear c6
                try clear c8
                try clear c9
                try clear c12
                try clear c12b0
                try clear c19
                try clear c19b0
                try clear c19b1
                try clear c19b2
                try clear hcv20
                try clear hcv21
                try clear p2
                obtain ⟨kq, x60_14, rfl, HA, HJ14, HO_0, HO_1, HO_14, HB⟩ := hcut
                cases kq with
                | zero => exact absurd HA.out (by simp [waybilllaw13_UnitTells.j2])
                | succ kj14 =>
                  have H := HA.out
                  clear HA
                  simp only [waybilllaw13_UnitTells.j2] at H
                  by_cases c22 : x60_14 = true
                  · subst c22
                    have H1 : (none) = some r := by rw [if_pos rfl] at H; exact H
                    clear H
                    have H := H1
                    clear H1
                    exact absurd H (by simp)
                  · replace c22 := Bool.eq_false_iff.mpr c22
                    subst c22
                    have H1 : ((some (([] : List Int) : List Int)).bind fun y343 => (if y343.length + t339.length < 140737488355328 then ((some (y343 ++ t339 : List Int)).bind fun y346 => (if (y346.length : Int) > 0 then (if (y346.length : Int) = 0 then (none) else (if 0 ≤ (Int.tmod (Go.bits .and .i64 a2 65535) (y346.length : Int)) then (if (Int.tmod (Go.bits .and .i64 a2 65535) (y346.length : Int)) < (y346.length : Int) then (waybilllaw13_UnitTells.j3 kj14 x0_2 x1_2 a2 a3 a4 x11_2 t339 (y346.set ((Int.tmod (Go.bits .and .i64 a2 65535) (y346.length : Int)) : Int).toNat (Go.bits .xor .u8 (rd y346 (Int.tmod (Go.bits .and .i64 a2 65535) (y346.length : Int))) a3))) else (none)) else (none))) else (waybilllaw13_UnitTells.j3 kj14 x0_2 x1_2 a2 a3 a4 x11_2 t339 y346))) else (none))) = some r := by rw [if_neg (show ¬ (false = true) by decide)] at H; exact H
                    clear H
                    have H := H1
                    clear H1
                    obtain ⟨y343, hy343⟩ : ∃ y_ : List Int, y_ = (([] : List Int)) := ⟨_, rfl⟩
                    replace H : (if y343.length + t339.length < 140737488355328 then ((some (y343 ++ t339 : List Int)).bind fun y346 => (if (y346.length : Int) > 0 then (if (y346.length : Int) = 0 then (none) else (if 0 ≤ (Int.tmod (Go.bits .and .i64 a2 65535) (y346.length : Int)) then (if (Int.tmod (Go.bits .and .i64 a2 65535) (y346.length : Int)) < (y346.length : Int) then (waybilllaw13_UnitTells.j3 kj14 x0_2 x1_2 a2 a3 a4 x11_2 t339 (y346.set ((Int.tmod (Go.bits .and .i64 a2 65535) (y346.length : Int)) : Int).toNat (Go.bits .xor .u8 (rd y346 (Int.tmod (Go.bits .and .i64 a2 65535) (y346.length : Int))) a3))) else (none)) else (none))) else (waybilllaw13_UnitTells.j3 kj14 x0_2 x1_2 a2 a3 a4 x11_2 t339 y346))) else (none)) = some r := by first | (rw [hy343]; with_reducible exact H) | (have H2_ := (Option.bind_some _ _).symm.trans H; rw [hy343]; with_reducible exact H2_) | (have H2_ := (Option.bind_some _ _).symm.trans H; with_reducible exact H2_) | with_reducible exact H | (rw [hy343]; exact H) | exact H
                    have Ny343 := Aside0.mk hy343
                    clear hy343
                    by_cases c23 : y343.length + t339.length < 140737488355328
                    · rw [if_pos c23] at H
                      have LMc23 := Aside0.mk c23
                      clear c23
                      obtain ⟨y346, hy346⟩ : ∃ y_ : List Int, y_ = (y343 ++ t339) := ⟨_, rfl⟩
                      replace H : (if (y346.length : Int) > 0 then (if (y346.length : Int) = 0 then (none) else (if 0 ≤ (Int.tmod (Go.bits .and .i64 a2 65535) (y346.length : Int)) then (if (Int.tmod (Go.bits .and .i64 a2 65535) (y346.length : Int)) < (y346.length : Int) then (waybilllaw13_UnitTells.j3 kj14 x0_2 x1_2 a2 a3 a4 x11_2 t339 (y346.set ((Int.tmod (Go.bits .and .i64 a2 65535) (y346.length : Int)) : Int).toNat (Go.bits .xor .u8 (rd y346 (Int.tmod (Go.bits .and .i64 a2 65535) (y346.length : Int))) a3))) else (none)) else (none))) else (waybilllaw13_UnitTells.j3 kj14 x0_2 x1_2 a2 a3 a4 x11_2 t339 y346)) = some r := by first | (rw [hy346]; with_reducible exact H) | (have H2_ := (Option.bind_some _ _).symm.trans H; rw [hy346]; with_reducible exact H2_) | (have H2_ := (Option.bind_some _ _).symm.trans H; with_reducible exact H2_) | with_reducible exact H | (rw [hy346]; exact H) | exact H
                      have Ny346 := Aside0.mk hy346
                      clear hy346
                      have HC24 := Aside0.mk H
                      clear H
                      go_upto_if 66 with (first | ((with_reducible refine gate_dst (N := 61) rfl ?_); (try (refine gate_guard (by rfl) ?_; dsimp only)); refine Kd.R_lit (Kd.int .u8) _ 5 ?hg (N := 61) ?hd (xs := ([] : List Int)) (inner := []) (ok := fun _ => True) (okp := fun _ => True) ?hr ?hp (fun _ hk => hk) trivial (Below.refl _ _) (Nat.le_refl _) (by simp) ?_; (case hd => rfl); (case hg => rfl); (case hr => first | (go_simp; done) | (go_simp; rfl)); (case hp => exact (Reps.none _ _)); intro v344 w25 ho26 hb hg_ hnew_; clear hg_ hnew_; (first | rw [← Ny343.out] at ho26 | (simp only [Int.reduceToNat] at ho26; rw [← Ny343.out] at ho26)); have n0_ := Aside0.mk (Kd.V_elder' (by (with_reducible repeat (first | apply Kd.V_alloc | apply Kd.V_drewN | apply Kd.V_drew)); exact HO_0.out) (Kd.R_base ho26) hb); have n1_ := Aside0.mk (Kd.V_elder' (by (with_reducible repeat (first | apply Kd.V_alloc | apply Kd.V_drewN | apply Kd.V_drew)); exact HO_1.out) (Kd.R_base ho26) hb); have n2_ := Aside0.mk (Kd.R_elder' (by (with_reducible repeat (first | apply Kd.R_alloc | apply Kd.R_drewN | apply Kd.R_drew)); exact HO_14.out) (Kd.R_base ho26) hb); have n3_ := Aside0.mk (Kd.R_lower (Kd.R_new' (Kd.R_newM (M := fun k_ => (w.heap.size ≤ k_)) ho26 (below_size (by repeat (first | (with_reducible first | exact HB.out | apply below_alloc | apply pw_below_drewN | apply below_drew1) | exact HB.out))) (fun k_ h_ => h_)) (Kd.R_lt (by (with_reducible repeat (first | apply Kd.R_alloc | apply Kd.R_drewN | apply Kd.R_drew)); exact HO_14.out))) (below_size (by repeat (first | (with_reducible first | exact HB.out | apply below_alloc | apply pw_below_drewN | apply below_drew1) | exact HB.out)))); have n4_ := Aside0.mk (below_step (by repeat (first | (with_reducible first | exact HB.out | apply below_alloc | apply pw_below_drewN | apply below_drew1) | exact HB.out)) hb); clear HO_0; clear HO_1; clear HO_14; clear HB; have HO_0 := n0_; have HO_1 := n1_; have HO_14 := n2_; have HO345 := n3_; have HB := n4_; clear n0_ n1_ n2_ n3_ n4_; clear hb ho26; obtain ⟨Ao28, co28, eo28⟩ := Kd.R_slice HO_14.out; subst eo28) | ((with_reducible refine gate_builtin (b := .append) (xs := #[.tmp 61, .tmp 62]) rfl ?_); (try (refine gate_guard (by rfl) ?_; dsimp only)); at_builtin; refine Kd.R_append_rows (Kd.int .u8) (w0 := w) w.heap.size rfl (.tmp 61) (.tmp 62) 26 5 (.int .u8 0) 1 rfl Try.underlying26 info5 rfl (by decide) (by omega) v344 y343 t339 _ _ _ (fun k_ => (w.heap.size ≤ k_) ∧ some k_ ≠ (.slice Ao28 t339.length co28 : Value).ownBlock) (fun _ => False) rfl rfl ?aO ?aR (fun _ _ h => h) (fun _ h => h.elim) ?aF ?aB ?aS ?aL ?_; (case aR => repeat (first | exact (Kd.R_reads' HO_14.out).2.2 | (with_reducible refine Kd.C_alloc ?_ _) | (with_reducible refine Kd.C_drewN ?_ _) | (with_reducible refine Kd.C_drew ?_))); (case aB => exact (by repeat (first | (with_reducible first | exact HB.out | apply below_alloc | apply pw_below_drewN | apply below_drew1) | exact HB.out))); (case aF => exact (fun k_ hk => ⟨(Nat.le_trans (below_size (by repeat (first | (with_reducible first | exact HB.out | apply below_alloc | apply pw_below_drewN | apply below_drew1) | exact HB.out))) hk), Kd.fresh' (Kd.R_lt (by (with_reducible repeat (first | apply Kd.R_alloc | apply Kd.R_drewN | apply Kd.R_drew)); exact HO_14.out)) k_ hk⟩)); (case aO => exact (by (with_reducible repeat (first | apply Kd.R_alloc | apply Kd.R_drewN | apply Kd.R_drew)); exact Kd.R_mono HO345.out (fun _ hk => ⟨hk.1.1, hk.2⟩))); (case aS => exact (below_size (by repeat (first | (with_reducible first | exact HB.out | apply below_alloc | apply pw_below_drewN | apply below_drew1) | exact HB.out)))); (case aL => have := LMc23.out; omega); intro v347 w27 ho hb hg hat; rw [← Ny346.out] at ho; have n0_ := Aside0.mk (Kd.V_afterv (ok := (fun k_ => ((P0_ k_ ∨ P1_ k_) ∨ w.heap.size ≤ k_) ∧ some k_ ≠ (.slice Ao28 t339.length co28 : Value).ownBlock)) (by (with_reducible repeat (first | apply Kd.V_alloc | apply Kd.V_drewN | apply Kd.V_drew)); exact HO_0.out) hg hat); have n1_ := Aside0.mk (Kd.V_afterv (ok := (fun k_ => ((P0_ k_ ∨ P1_ k_) ∨ w.heap.size ≤ k_) ∧ some k_ ≠ (.slice Ao28 t339.length co28 : Value).ownBlock)) (by (with_reducible repeat (first | apply Kd.V_alloc | apply Kd.V_drewN | apply Kd.V_drew)); exact HO_1.out) hg hat); have n2_ := Aside0.mk (Kd.R_after (ok := (fun k_ => (w.heap.size ≤ k_))) (by (with_reducible repeat (first | apply Kd.R_alloc | apply Kd.R_drewN | apply Kd.R_drew)); exact HO_14.out) hg hat); have n3_ := Aside0.mk (hb); have n4_ := Aside0.mk (ho); clear HO_0; clear HO_1; clear HO_14; clear HB; clear HO345; have HO_0 := n0_; have HO_1 := n1_; have HO_14 := n2_; have HB := n3_; have HO348 := n4_; clear n0_ n1_ n2_ n3_ n4_; clear ho hb hg hat; obtain ⟨Ao29, co29, eo29⟩ := Kd.R_slice HO348.out; subst eo29))
                      repeat (go_quiet (first | ((with_reducible refine gate_dst (N := 61) rfl ?_); (try (refine gate_guard (by rfl) ?_; dsimp only)); refine Kd.R_lit (Kd.int .u8) _ 5 ?hg (N := 61) ?hd (xs := ([] : List Int)) (inner := []) (ok := fun _ => True) (okp := fun _ => True) ?hr ?hp (fun _ hk => hk) trivial (Below.refl _ _) (Nat.le_refl _) (by simp) ?_; (case hd => rfl); (case hg => rfl); (case hr => first | (go_simp; done) | (go_simp; rfl)); (case hp => exact (Reps.none _ _)); intro v344 w25 ho26 hb hg_ hnew_; clear hg_ hnew_; (first | rw [← Ny343.out] at ho26 | (simp only [Int.reduceToNat] at ho26; rw [← Ny343.out] at ho26)); have n0_ := Aside0.mk (Kd.V_elder' (by (with_reducible repeat (first | apply Kd.V_alloc | apply Kd.V_drewN | apply Kd.V_drew)); exact HO_0.out) (Kd.R_base ho26) hb); have n1_ := Aside0.mk (Kd.V_elder' (by (with_reducible repeat (first | apply Kd.V_alloc | apply Kd.V_drewN | apply Kd.V_drew)); exact HO_1.out) (Kd.R_base ho26) hb); have n2_ := Aside0.mk (Kd.R_elder' (by (with_reducible repeat (first | apply Kd.R_alloc | apply Kd.R_drewN | apply Kd.R_drew)); exact HO_14.out) (Kd.R_base ho26) hb); have n3_ := Aside0.mk (Kd.R_lower (Kd.R_new' (Kd.R_newM (M := fun k_ => (w.heap.size ≤ k_)) ho26 (below_size (by repeat (first | (with_reducible first | exact HB.out | apply below_alloc | apply pw_below_drewN | apply below_drew1) | exact HB.out))) (fun k_ h_ => h_)) (Kd.R_lt (by (with_reducible repeat (first | apply Kd.R_alloc | apply Kd.R_drewN | apply Kd.R_drew)); exact HO_14.out))) (below_size (by repeat (first | (with_reducible first | exact HB.out | apply below_alloc | apply pw_below_drewN | apply below_drew1) | exact HB.out)))); have n4_ := Aside0.mk (below_step (by repeat (first | (with_reducible first | exact HB.out | apply below_alloc | apply pw_below_drewN | apply below_drew1) | exact HB.out)) hb); clear HO_0; clear HO_1; clear HO_14; clear HB; have HO_0 := n0_; have HO_1 := n1_; have HO_14 := n2_; have HO345 := n3_; have HB := n4_; clear n0_ n1_ n2_ n3_ n4_; clear hb ho26; obtain ⟨Ao28, co28, eo28⟩ := Kd.R_slice HO_14.out; subst eo28) | ((with_reducible refine gate_builtin (b := .append) (xs := #[.tmp 61, .tmp 62]) rfl ?_); (try (refine gate_guard (by rfl) ?_; dsimp only)); at_builtin; refine Kd.R_append_rows (Kd.int .u8) (w0 := w) w.heap.size rfl (.tmp 61) (.tmp 62) 26 5 (.int .u8 0) 1 rfl Try.underlying26 info5 rfl (by decide) (by omega) v344 y343 t339 _ _ _ (fun k_ => (w.heap.size ≤ k_) ∧ some k_ ≠ (.slice Ao28 t339.length co28 : Value).ownBlock) (fun _ => False) rfl rfl ?aO ?aR (fun _ _ h => h) (fun _ h => h.elim) ?aF ?aB ?aS ?aL ?_; (case aR => repeat (first | exact (Kd.R_reads' HO_14.out).2.2 | (with_reducible refine Kd.C_alloc ?_ _) | (with_reducible refine Kd.C_drewN ?_ _) | (with_reducible refine Kd.C_drew ?_))); (case aB => exact (by repeat (first | (with_reducible first | exact HB.out | apply below_alloc | apply pw_below_drewN | apply below_drew1) | exact HB.out))); (case aF => exact (fun k_ hk => ⟨(Nat.le_trans (below_size (by repeat (first | (with_reducible first | exact HB.out | apply below_alloc | apply pw_below_drewN | apply below_drew1) | exact HB.out))) hk), Kd.fresh' (Kd.R_lt (by (with_reducible repeat (first | apply Kd.R_alloc | apply Kd.R_drewN | apply Kd.R_drew)); exact HO_14.out)) k_ hk⟩)); (case aO => exact (by (with_reducible repeat (first | apply Kd.R_alloc | apply Kd.R_drewN | apply Kd.R_drew)); exact Kd.R_mono HO345.out (fun _ hk => ⟨hk.1.1, hk.2⟩))); (case aS => exact (below_size (by repeat (first | (with_reducible first | exact HB.out | apply below_alloc | apply pw_below_drewN | apply below_drew1) | exact HB.out)))); (case aL => have := LMc23.out; omega); intro v347 w27 ho hb hg hat; rw [← Ny346.out] at ho; have n0_ := Aside0.mk (Kd.V_afterv (ok := (fun k_ => ((P0_ k_ ∨ P1_ k_) ∨ w.heap.size ≤ k_) ∧ some k_ ≠ (.slice Ao28 t339.length co28 : Value).ownBlock)) (by (with_reducible repeat (first | apply Kd.V_alloc | apply Kd.V_drewN | apply Kd.V_drew)); exact HO_0.out) hg hat); have n1_ := Aside0.mk (Kd.V_afterv (ok := (fun k_ => ((P0_ k_ ∨ P1_ k_) ∨ w.heap.size ≤ k_) ∧ some k_ ≠ (.slice Ao28 t339.length co28 : Value).ownBlock)) (by (with_reducible repeat (first | apply Kd.V_alloc | apply Kd.V_drewN | apply Kd.V_drew)); exact HO_1.out) hg hat); have n2_ := Aside0.mk (Kd.R_after (ok := (fun k_ => (w.heap.size ≤ k_))) (by (with_reducible repeat (first | apply Kd.R_alloc | apply Kd.R_drewN | apply Kd.R_drew)); exact HO_14.out) hg hat); have n3_ := Aside0.mk (hb); have n4_ := Aside0.mk (ho); clear HO_0; clear HO_1; clear HO_14; clear HB; clear HO345; have HO_0 := n0_; have HO_1 := n1_; have HO_14 := n2_; have HB := n3_; have HO348 := n4_; clear n0_ n1_ n2_ n3_ n4_; clear ho hb hg hat; obtain ⟨Ao29, co29, eo29⟩ := Kd.R_slice HO348.out; subst eo29)); go_upto_if 66 with (first | ((with_reducible refine gate_dst (N := 61) rfl ?_); (try (refine gate_guard (by rfl) ?_; dsimp only)); refine Kd.R_lit (Kd.int .u8) _ 5 ?hg (N := 61) ?hd (xs := ([] : List Int)) (inner := []) (ok := fun _ => True) (okp := fun _ => True) ?hr ?hp (fun _ hk => hk) trivial (Below.refl _ _) (Nat.le_refl _) (by simp) ?_; (case hd => rfl); (case hg => rfl); (case hr => first | (go_simp; done) | (go_simp; rfl)); (case hp => exact (Reps.none _ _)); intro v344 w25 ho26 hb hg_ hnew_; clear hg_ hnew_; (first | rw [← Ny343.out] at ho26 | (simp only [Int.reduceToNat] at ho26; rw [← Ny343.out] at ho26)); have n0_ := Aside0.mk (Kd.V_elder' (by (with_reducible repeat (first | apply Kd.V_alloc | apply Kd.V_drewN | apply Kd.V_drew)); exact HO_0.out) (Kd.R_base ho26) hb); have n1_ := Aside0.mk (Kd.V_elder' (by (with_reducible repeat (first | apply Kd.V_alloc | apply Kd.V_drewN | apply Kd.V_drew)); exact HO_1.out) (Kd.R_base ho26) hb); have n2_ := Aside0.mk (Kd.R_elder' (by (with_reducible repeat (first | apply Kd.R_alloc | apply Kd.R_drewN | apply Kd.R_drew)); exact HO_14.out) (Kd.R_base ho26) hb); have n3_ := Aside0.mk (Kd.R_lower (Kd.R_new' (Kd.R_newM (M := fun k_ => (w.heap.size ≤ k_)) ho26 (below_size (by repeat (first | (with_reducible first | exact HB.out | apply below_alloc | apply pw_below_drewN | apply below_drew1) | exact HB.out))) (fun k_ h_ => h_)) (Kd.R_lt (by (with_reducible repeat (first | apply Kd.R_alloc | apply Kd.R_drewN | apply Kd.R_drew)); exact HO_14.out))) (below_size (by repeat (first | (with_reducible first | exact HB.out | apply below_alloc | apply pw_below_drewN | apply below_drew1) | exact HB.out)))); have n4_ := Aside0.mk (below_step (by repeat (first | (with_reducible first | exact HB.out | apply below_alloc | apply pw_below_drewN | apply below_drew1) | exact HB.out)) hb); clear HO_0; clear HO_1; clear HO_14; clear HB; have HO_0 := n0_; have HO_1 := n1_; have HO_14 := n2_; have HO345 := n3_; have HB := n4_; clear n0_ n1_ n2_ n3_ n4_; clear hb ho26; obtain ⟨Ao28, co28, eo28⟩ := Kd.R_slice HO_14.out; subst eo28) | ((with_reducible refine gate_builtin (b := .append) (xs := #[.tmp 61, .tmp 62]) rfl ?_); (try (refine gate_guard (by rfl) ?_; dsimp only)); at_builtin; refine Kd.R_append_rows (Kd.int .u8) (w0 := w) w.heap.size rfl (.tmp 61) (.tmp 62) 26 5 (.int .u8 0) 1 rfl Try.underlying26 info5 rfl (by decide) (by omega) v344 y343 t339 _ _ _ (fun k_ => (w.heap.size ≤ k_) ∧ some k_ ≠ (.slice Ao28 t339.length co28 : Value).ownBlock) (fun _ => False) rfl rfl ?aO ?aR (fun _ _ h => h) (fun _ h => h.elim) ?aF ?aB ?aS ?aL ?_; (case aR => repeat (first | exact (Kd.R_reads' HO_14.out).2.2 | (with_reducible refine Kd.C_alloc ?_ _) | (with_reducible refine Kd.C_drewN ?_ _) | (with_reducible refine Kd.C_drew ?_))); (case aB => exact (by repeat (first | (with_reducible first | exact HB.out | apply below_alloc | apply pw_below_drewN | apply below_drew1) | exact HB.out))); (case aF => exact (fun k_ hk => ⟨(Nat.le_trans (below_size (by repeat (first | (with_reducible first | exact HB.out | apply below_alloc | apply pw_below_drewN | apply below_drew1) | exact HB.out))) hk), Kd.fresh' (Kd.R_lt (by (with_reducible repeat (first | apply Kd.R_alloc | apply Kd.R_drewN | apply Kd.R_drew)); exact HO_14.out)) k_ hk⟩)); (case aO => exact (by (with_reducible repeat (first | apply Kd.R_alloc | apply Kd.R_drewN | apply Kd.R_drew)); exact Kd.R_mono HO345.out (fun _ hk => ⟨hk.1.1, hk.2⟩))); (case aS => exact (below_size (by repeat (first | (with_reducible first | exact HB.out | apply below_alloc | apply pw_below_drewN | apply below_drew1) | exact HB.out)))); (case aL => have := LMc23.out; omega); intro v347 w27 ho hb hg hat; rw [← Ny346.out] at ho; have n0_ := Aside0.mk (Kd.V_afterv (ok := (fun k_ => ((P0_ k_ ∨ P1_ k_) ∨ w.heap.size ≤ k_) ∧ some k_ ≠ (.slice Ao28 t339.length co28 : Value).ownBlock)) (by (with_reducible repeat (first | apply Kd.V_alloc | apply Kd.V_drewN | apply Kd.V_drew)); exact HO_0.out) hg hat); have n1_ := Aside0.mk (Kd.V_afterv (ok := (fun k_ => ((P0_ k_ ∨ P1_ k_) ∨ w.heap.size ≤ k_) ∧ some k_ ≠ (.slice Ao28 t339.length co28 : Value).ownBlock)) (by (with_reducible repeat (first | apply Kd.V_alloc | apply Kd.V_drewN | apply Kd.V_drew)); exact HO_1.out) hg hat); have n2_ := Aside0.mk (Kd.R_after (ok := (fun k_ => (w.heap.size ≤ k_))) (by (with_reducible repeat (first | apply Kd.R_alloc | apply Kd.R_drewN | apply Kd.R_drew)); exact HO_14.out) hg hat); have n3_ := Aside0.mk (hb); have n4_ := Aside0.mk (ho); clear HO_0; clear HO_1; clear HO_14; clear HB; clear HO345; have HO_0 := n0_; have HO_1 := n1_; have HO_14 := n2_; have HB := n3_; have HO348 := n4_; clear n0_ n1_ n2_ n3_ n4_; clear ho hb hg hat; obtain ⟨Ao29, co29, eo29⟩ := Kd.R_slice HO348.out; subst eo29)))
                      (try simp only [Act.put, List.setIfInBounds_toArray, List.set_cons_zero, List.set_cons_succ])
                      go_cut [] (fun wc => ∃ (kq : Nat) (x16_23 : List Int), Aside0 (waybilllaw13_UnitTells.j3 kq x0_2 x1_2 a2 a3 a4 x11_2 t339 x16_23 = some r) ∧ Aside0 (kq ≤ kj14) ∧ Aside0 (Kd.V k38 38 wc w.heap.size (fun k_ => ((P0_ k_ ∨ P1_ k_) ∨ w.heap.size ≤ k_) ∧ some k_ ≠ ((.slice Ao28 t339.length co28) : Value).ownBlock ∧ some k_ ≠ ((.slice Ao29 y346.length co29) : Value).ownBlock) (.slice Ao16 x0_2.length co16) x0_2) ∧ Aside0 (Kd.V (Kd.int .u8) 5 wc w.heap.size (fun k_ => ((P0_ k_ ∨ P1_ k_) ∨ w.heap.size ≤ k_) ∧ some k_ ≠ ((.slice Ao28 t339.length co28) : Value).ownBlock ∧ some k_ ≠ ((.slice Ao29 y346.length co29) : Value).ownBlock) (.slice A1 x1_2.length c1) x1_2) ∧ Aside0 (Kd.R (Kd.int .u8) 5 wc w.heap.size (fun k_ => (w.heap.size ≤ k_) ∧ some k_ ≠ ((.slice Ao29 y346.length co29) : Value).ownBlock) (.slice Ao28 t339.length co28) t339) ∧ Aside0 (Kd.R (Kd.int .u8) 5 wc w.heap.size (fun k_ => (w.heap.size ≤ k_) ∧ some k_ ≠ ((.slice Ao28 t339.length co28) : Value).ownBlock) (.slice Ao29 y346.length co29) x16_23) ∧ Aside0 (Below w.heap.size w wc))
                      case first =>
                        have H := HC24.out
                        clear HC24
                        by_cases c30 : (y346.length : Int) > 0
                        · rw [if_pos c30] at H
                          have c30b0 : decide (0 < (y346.length : Int)) = true := decide_eq_true c30
                          have c30b1 : decide (0 < y346.length) = true := decide_eq_true (by omega)
                          clear c30
                          (first | rw [c30b0] | rw [c30b2] | rw [c30b1] | (simp only [i64_w, i32_w]; rw [c30b0]) | skip)
                          by_cases c31 : (y346.length : Int) = 0
                          · rw [if_pos c31] at H
                            exact absurd H (by simp)
                          · rw [if_neg c31] at H
                            have c31b0 : ((y346.length : Int) == 0) = false := beq_eq_false_iff_ne.mpr c31
                            have c31b1 : ((y346.length : Int) != 0) = true := bne_iff_ne.mpr c31
                            have c31b2 : ¬ (y346 = []) := fun h_ => c31 (by rw [h_]; rfl)
                            obtain ⟨ji32, hji32⟩ : ∃ j_ : Int, (Int.tmod (Go.bits .and .i64 a2 65535) (y346.length : Int)) = j_ := ⟨_, rfl⟩
                            replace H : (if 0 ≤ (ji32) then (if (ji32) < (y346.length : Int) then (waybilllaw13_UnitTells.j3 kj14 x0_2 x1_2 a2 a3 a4 x11_2 t339 (y346.set ((ji32) : Int).toNat (Go.bits .xor .u8 (rd y346 (ji32)) a3))) else (none)) else (none)) = some r := by first | (rw [hji32] at H; exact H) | (simp only [hji32] at H ⊢; exact H)
                            by_cases c33 : 0 ≤ (ji32)
                            · rw [if_pos c33] at H
                              have c33b0 : decide (0 ≤ (ji32)) = true := decide_eq_true c33
                              clear c33
                              by_cases c34 : (ji32) < (y346.length : Int)
                              · rw [if_pos c34] at H
                                have c34b0 : decide ((ji32) < (y346.length : Int)) = true := decide_eq_true c34
                                clear c34
                                obtain ⟨y350, hy350⟩ : ∃ y_ : List Int, y_ = (y346.set ((ji32) : Int).toNat (Go.bits .xor .u8 (rd y346 (ji32)) a3)) := ⟨_, rfl⟩
                                replace H : (waybilllaw13_UnitTells.j3 kj14 x0_2 x1_2 a2 a3 a4 x11_2 t339 y350) = some r := by first | (rw [hy350]; with_reducible exact H) | (have H2_ := (Option.bind_some _ _).symm.trans H; rw [hy350]; with_reducible exact H2_) | (have H2_ := (Option.bind_some _ _).symm.trans H; with_reducible exact H2_) | with_reducible exact H | (rw [hy350]; exact H) | exact H
                                have Ny350 := Aside0.mk hy350
                                clear hy350
                                have H' := Aside0.mk H
                                clear H
                                have p349 : 0 ≤ ((ji32) : Int) := of_decide_eq_true (by first | (with_reducible assumption) | assumption)
                                have q349 : (ji32) < (y346.length : Int) := of_decide_eq_true (by first | (with_reducible assumption) | assumption)
                                obtain ⟨ad349, e349, hx349_0⟩ := Kd.at_int (Kd.R_reads' HO348.out).2.2 (ji32) p349 q349
                                cases e349
                                replace p349 := eq_true p349
                                replace q349 := eq_true q349
                                have p35 : 0 ≤ ((ji32) : Int) := of_decide_eq_true (by first | (with_reducible assumption) | assumption)
                                have q35 : ((ji32) : Int) < ((y346.length : Int) : Int) := of_decide_eq_true (by first | (with_reducible assumption) | assumption)
                                obtain ⟨go35, co35, eo35, gb35, gl35, cl35, HG35⟩ := Kd.R_form HO348.out (by omega)
                                (first | cases eo35 | (injection eo35 with ea_ en_ ec_; (first | subst ea_ | (injection ea_ with ea_; subst ea_)); subst ec_; clear en_))
                                have GB35 := Aside0.mk gb35
                                have GG35 := Aside0.mk HG35
                                clear gb35 gl35 HG35
                                (first | simp only [add_plain] at hx349_0 | skip)
                                obtain ⟨hx35_0, hf35_0⟩ := Kd.R_celln 0 HO348.out ((ji32) : Int) p35 q35
                                replace p35 := eq_true p35
                                replace q35 := eq_true q35
                                have HP36 := Kd.R_putg HO348.out ((ji32) : Int) (Go.bits .xor .u8 (rd y346 (ji32)) a3)
                                go_wp2_with (first | ((with_reducible refine gate_store (t := 5) (p := 77) rfl ?_); (try (rw [drewN_self w27]; generalize hq_ : World.drewN w27 _ = w27; have n0_ := Aside0.mk (Kd.V_at hq_ HO_0.out); have n1_ := Aside0.mk (Kd.V_at hq_ HO_1.out); have n2_ := Aside0.mk (Kd.R_at hq_ HO_14.out); have n3_ := Aside0.mk (Kd.R_at hq_ HO348.out); have n4_ := Aside0.mk (below_at hq_ HB.out); clear hq_ HO_0 HO_1 HO_14 HO348 HB; have HO_0 := n0_; have HO_1 := n1_; have HO_14 := n2_; have HO348 := n3_; have HB := n4_; clear n0_ n1_ n2_ n3_ n4_; (try (have HP36 := Kd.R_putg HO348.out ((ji32) : Int) (Go.bits .xor .u8 (rd y346 (ji32)) a3))))); refine store_event (t := 5) (p := 77) (v := ?vo_w37) (w1 := (w27.setCell ⟨go35, ((ji32) : Int).toNat, none⟩ (.int .u8 (Go.bits .xor .u8 (rd y346 (ji32)) a3)))) ?hg ?ho ?hn ?hr ?_; (case ho => rfl); (case hg => rfl); (case hn => rfl); (case hr => first | (go_simp; done) | (go_simp; rfl)); intro w37 hw; have hg : w27.grownBy w37 (some go35) := (by rw [hw]; exact HP36.2); have hp_ : Kd.R (Kd.int .u8) 5 w37 w.heap.size (fun k_ => (w.heap.size ≤ k_) ∧ some k_ ≠ (.slice Ao28 t339.length co28 : Value).ownBlock) (.slice (some ⟨go35, 0, none⟩) y346.length co29) y350 := (by rw [hw, Ny350.out]; exact HP36.1); clear HP36; have n0_ := Aside0.mk (Kd.V_afterv (v := (.slice (some ⟨go35, 0, none⟩) y346.length co29)) (v1 := (.slice (some ⟨go35, 0, none⟩) y346.length co29)) (ok := (fun k_ => ((P0_ k_ ∨ P1_ k_) ∨ w.heap.size ≤ k_) ∧ some k_ ≠ (.slice Ao28 t339.length co28 : Value).ownBlock)) (by (with_reducible repeat (first | apply Kd.V_alloc | apply Kd.V_drewN | apply Kd.V_drew)); exact HO_0.out) hg (.inl rfl)); have n1_ := Aside0.mk (Kd.V_afterv (v := (.slice (some ⟨go35, 0, none⟩) y346.length co29)) (v1 := (.slice (some ⟨go35, 0, none⟩) y346.length co29)) (ok := (fun k_ => ((P0_ k_ ∨ P1_ k_) ∨ w.heap.size ≤ k_) ∧ some k_ ≠ (.slice Ao28 t339.length co28 : Value).ownBlock)) (by (with_reducible repeat (first | apply Kd.V_alloc | apply Kd.V_drewN | apply Kd.V_drew)); exact HO_1.out) hg (.inl rfl)); have n2_ := Aside0.mk (Kd.R_after (v := (.slice (some ⟨go35, 0, none⟩) y346.length co29)) (v1 := (.slice (some ⟨go35, 0, none⟩) y346.length co29)) (ok := (fun k_ => (w.heap.size ≤ k_))) (by (with_reducible repeat (first | apply Kd.R_alloc | apply Kd.R_drewN | apply Kd.R_drew)); exact HO_14.out) hg (.inl rfl)); have n3_ := Aside0.mk (hp_); have n4_ := Aside0.mk ((by rw [hw]; exact below_set (HB.out) GB35.out : Below w.heap.size w w37)); clear HO_0; clear HO_1; clear HO_14; clear HO348; clear HB; have HO_0 := n0_; have HO_1 := n1_; have HO_14 := n2_; have HO348 := n3_; have HB := n4_; clear n0_ n1_ n2_ n3_ n4_; clear hg hw hp_))
                                repeat (go_quiet (first | ((with_reducible refine gate_store (t := 5) (p := 77) rfl ?_); (try (rw [drewN_self w27]; generalize hq_ : World.drewN w27 _ = w27; have n0_ := Aside0.mk (Kd.V_at hq_ HO_0.out); have n1_ := Aside0.mk (Kd.V_at hq_ HO_1.out); have n2_ := Aside0.mk (Kd.R_at hq_ HO_14.out); have n3_ := Aside0.mk (Kd.R_at hq_ HO348.out); have n4_ := Aside0.mk (below_at hq_ HB.out); clear hq_ HO_0 HO_1 HO_14 HO348 HB; have HO_0 := n0_; have HO_1 := n1_; have HO_14 := n2_; have HO348 := n3_; have HB := n4_; clear n0_ n1_ n2_ n3_ n4_; (try (have HP36 := Kd.R_putg HO348.out ((ji32) : Int) (Go.bits .xor .u8 (rd y346 (ji32)) a3))))); refine store_event (t := 5) (p := 77) (v := ?vo_w37) (w1 := (w27.setCell ⟨go35, ((ji32) : Int).toNat, none⟩ (.int .u8 (Go.bits .xor .u8 (rd y346 (ji32)) a3)))) ?hg ?ho ?hn ?hr ?_; (case ho => rfl); (case hg => rfl); (case hn => rfl); (case hr => first | (go_simp; done) | (go_simp; rfl)); intro w37 hw; have hg : w27.grownBy w37 (some go35) := (by rw [hw]; exact HP36.2); have hp_ : Kd.R (Kd.int .u8) 5 w37 w.heap.size (fun k_ => (w.heap.size ≤ k_) ∧ some k_ ≠ (.slice Ao28 t339.length co28 : Value).ownBlock) (.slice (some ⟨go35, 0, none⟩) y346.length co29) y350 := (by rw [hw, Ny350.out]; exact HP36.1); clear HP36; have n0_ := Aside0.mk (Kd.V_afterv (v := (.slice (some ⟨go35, 0, none⟩) y346.length co29)) (v1 := (.slice (some ⟨go35, 0, none⟩) y346.length co29)) (ok := (fun k_ => ((P0_ k_ ∨ P1_ k_) ∨ w.heap.size ≤ k_) ∧ some k_ ≠ (.slice Ao28 t339.length co28 : Value).ownBlock)) (by (with_reducible repeat (first | apply Kd.V_alloc | apply Kd.V_drewN | apply Kd.V_drew)); exact HO_0.out) hg (.inl rfl)); have n1_ := Aside0.mk (Kd.V_afterv (v := (.slice (some ⟨go35, 0, none⟩) y346.length co29)) (v1 := (.slice (some ⟨go35, 0, none⟩) y346.length co29)) (ok := (fun k_ => ((P0_ k_ ∨ P1_ k_) ∨ w.heap.size ≤ k_) ∧ some k_ ≠ (.slice Ao28 t339.length co28 : Value).ownBlock)) (by (with_reducible repeat (first | apply Kd.V_alloc | apply Kd.V_drewN | apply Kd.V_drew)); exact HO_1.out) hg (.inl rfl)); have n2_ := Aside0.mk (Kd.R_after (v := (.slice (some ⟨go35, 0, none⟩) y346.length co29)) (v1 := (.slice (some ⟨go35, 0, none⟩) y346.length co29)) (ok := (fun k_ => (w.heap.size ≤ k_))) (by (with_reducible repeat (first | apply Kd.R_alloc | apply Kd.R_drewN | apply Kd.R_drew)); exact HO_14.out) hg (.inl rfl)); have n3_ := Aside0.mk (hp_); have n4_ := Aside0.mk ((by rw [hw]; exact below_set (HB.out) GB35.out : Below w.heap.size w w37)); clear HO_0; clear HO_1; clear HO_14; clear HO348; clear HB; have HO_0 := n0_; have HO_1 := n1_; have HO_14 := n2_; have HO348 := n3_; have HB := n4_; clear n0_ n1_ n2_ n3_ n4_; clear hg hw hp_)); try go_wp2_with (first | ((with_reducible refine gate_store (t := 5) (p := 77) rfl ?_); (try (rw [drewN_self w27]; generalize hq_ : World.drewN w27 _ = w27; have n0_ := Aside0.mk (Kd.V_at hq_ HO_0.out); have n1_ := Aside0.mk (Kd.V_at hq_ HO_1.out); have n2_ := Aside0.mk (Kd.R_at hq_ HO_14.out); have n3_ := Aside0.mk (Kd.R_at hq_ HO348.out); have n4_ := Aside0.mk (below_at hq_ HB.out); clear hq_ HO_0 HO_1 HO_14 HO348 HB; have HO_0 := n0_; have HO_1 := n1_; have HO_14 := n2_; have HO348 := n3_; have HB := n4_; clear n0_ n1_ n2_ n3_ n4_; (try (have HP36 := Kd.R_putg HO348.out ((ji32) : Int) (Go.bits .xor .u8 (rd y346 (ji32)) a3))))); refine store_event (t := 5) (p := 77) (v := ?vo_w37) (w1 := (w27.setCell ⟨go35, ((ji32) : Int).toNat, none⟩ (.int .u8 (Go.bits .xor .u8 (rd y346 (ji32)) a3)))) ?hg ?ho ?hn ?hr ?_; (case ho => rfl); (case hg => rfl); (case hn => rfl); (case hr => first | (go_simp; done) | (go_simp; rfl)); intro w37 hw; have hg : w27.grownBy w37 (some go35) := (by rw [hw]; exact HP36.2); have hp_ : Kd.R (Kd.int .u8) 5 w37 w.heap.size (fun k_ => (w.heap.size ≤ k_) ∧ some k_ ≠ (.slice Ao28 t339.length co28 : Value).ownBlock) (.slice (some ⟨go35, 0, none⟩) y346.length co29) y350 := (by rw [hw, Ny350.out]; exact HP36.1); clear HP36; have n0_ := Aside0.mk (Kd.V_afterv (v := (.slice (some ⟨go35, 0, none⟩) y346.length co29)) (v1 := (.slice (some ⟨go35, 0, none⟩) y346.length co29)) (ok := (fun k_ => ((P0_ k_ ∨ P1_ k_) ∨ w.heap.size ≤ k_) ∧ some k_ ≠ (.slice Ao28 t339.length co28 : Value).ownBlock)) (by (with_reducible repeat (first | apply Kd.V_alloc | apply Kd.V_drewN | apply Kd.V_drew)); exact HO_0.out) hg (.inl rfl)); have n1_ := Aside0.mk (Kd.V_afterv (v := (.slice (some ⟨go35, 0, none⟩) y346.length co29)) (v1 := (.slice (some ⟨go35, 0, none⟩) y346.length co29)) (ok := (fun k_ => ((P0_ k_ ∨ P1_ k_) ∨ w.heap.size ≤ k_) ∧ some k_ ≠ (.slice Ao28 t339.length co28 : Value).ownBlock)) (by (with_reducible repeat (first | apply Kd.V_alloc | apply Kd.V_drewN | apply Kd.V_drew)); exact HO_1.out) hg (.inl rfl)); have n2_ := Aside0.mk (Kd.R_after (v := (.slice (some ⟨go35, 0, none⟩) y346.length co29)) (v1 := (.slice (some ⟨go35, 0, none⟩) y346.length co29)) (ok := (fun k_ => (w.heap.size ≤ k_))) (by (with_reducible repeat (first | apply Kd.R_alloc | apply Kd.R_drewN | apply Kd.R_drew)); exact HO_14.out) hg (.inl rfl)); have n3_ := Aside0.mk (hp_); have n4_ := Aside0.mk ((by rw [hw]; exact below_set (HB.out) GB35.out : Below w.heap.size w w37)); clear HO_0; clear HO_1; clear HO_14; clear HO348; clear HB; have HO_0 := n0_; have HO_1 := n1_; have HO_14 := n2_; have HO348 := n3_; have HB := n4_; clear n0_ n1_ n2_ n3_ n4_; clear hg hw hp_)))
                                go_meet
                                case rel => exact ⟨_, (y350), H', ⟨by have := HJ5.out; have := HK2.out; have := HJ14.out; first | omega | exact Nat.le_refl _⟩, ⟨by (try simp only [hl1_2]); (with_reducible repeat (first | apply Kd.V_alloc | apply Kd.V_drewN | apply Kd.V_drew)); exact Kd.V_mono HO_0.out (fun _ hk => ⟨hk.1.1, ⟨hk.1.2, hk.2⟩⟩)⟩, ⟨by (try simp only [hl1_2]); (with_reducible repeat (first | apply Kd.V_alloc | apply Kd.V_drewN | apply Kd.V_drew)); exact Kd.V_mono HO_1.out (fun _ hk => ⟨hk.1.1, ⟨hk.1.2, hk.2⟩⟩)⟩, ⟨by (try simp only [hl1_2]); (with_reducible repeat (first | apply Kd.R_alloc | apply Kd.R_drewN | apply Kd.R_drew)); exact HO_14.out⟩, ⟨by (try simp only [hl1_2]); (with_reducible repeat (first | apply Kd.R_alloc | apply Kd.R_drewN | apply Kd.R_drew)); exact HO348.out⟩, ⟨by repeat (first | (with_reducible first | exact HB.out | apply below_alloc | apply pw_below_drewN | apply below_drew1) | exact HB.out)⟩⟩
                              · rw [if_neg c34] at H
                                exact absurd H (by simp)
                            · rw [if_neg c33] at H
                              exact absurd H (by simp)
                        · rw [if_neg c30] at H
                          have c30b0 : decide (0 < (y346.length : Int)) = false := decide_eq_false c30
                          have c30b1 : decide (0 < y346.length) = false := decide_eq_false (by omega)
                          clear c30
                          (first | rw [c30b0] | rw [c30b2] | rw [c30b1] | (simp only [i64_w, i32_w]; rw [c30b0]) | skip)
                          have H' := Aside0.mk H
                          clear H
                          go_wp2
                          repeat (go_quiet (fail); try go_wp2)
                          go_meet
                          case rel => exact ⟨_, (y346), H', ⟨by have := HJ5.out; have := HK2.out; have := HJ14.out; first | omega | exact Nat.le_refl _⟩, ⟨by (try simp only [hl1_2]); (with_reducible repeat (first | apply Kd.V_alloc | apply Kd.V_drewN | apply Kd.V_drew)); exact Kd.V_mono HO_0.out (fun _ hk => ⟨hk.1.1, ⟨hk.1.2, hk.2⟩⟩)⟩, ⟨by (try simp only [hl1_2]); (with_reducible repeat (first | apply Kd.V_alloc | apply Kd.V_drewN | apply Kd.V_drew)); exact Kd.V_mono HO_1.out (fun _ hk => ⟨hk.1.1, ⟨hk.1.2, hk.2⟩⟩)⟩, ⟨by (try simp only [hl1_2]); (with_reducible repeat (first | apply Kd.R_alloc | apply Kd.R_drewN | apply Kd.R_drew)); exact HO_14.out⟩, ⟨by (try simp only [hl1_2]); (with_reducible repeat (first | apply Kd.R_alloc | apply Kd.R_drewN | apply Kd.R_drew)); exact HO348.out⟩, ⟨by repeat (first | (with_reducible first | exact HB.out | apply below_alloc | apply pw_below_drewN | apply below_drew1) | exact HB.out)⟩⟩
                      case rest =>
                        clear HC24
                        try clear c1
                        try clear c2
                        try clear p2
                        try clear hcv2
                        try clear c3
                        try clear p3
                        try clear q3
                        try clear hx3
                        try clear c6
                        try clear c8
                        try clear c9
                        try clear c12
                        try clear c12b0
                        try clear c19
                        try clear c19b0
                        try clear c19b1
                        try clear c19b2
                        try clear hcv20
                        try clear hcv21
                        try clear c22
                        try clear c23
                        try clear c30
                        try clear c30b0
                        try clear c30b1
                        try clear c31
                        try clear c31b0
                        try clear c31b1
                        try clear c31b2
                        try clear c33
                        try clear c33b0
                        try clear c34
                        try clear c34b0
                        try clear p34
                        try clear q34
                        try clear hx34
                        try clear p35
                        try clear q35
                        try clear hx35
                        try clear hf35
                        try clear hx349_0
                        try clear hx35_0
                        try clear p2
                        try clear p349
                        try clear p35
                        try clear q349
                        try clear q35
                        obtain ⟨kq, x16_23, HA, HJ23, HO_0, HO_1, HO_14, HO_16, HB⟩ := hcut
                        have hl16_23 := (Kd.R_reads' HO_16.out).1
                        rw [hl16_23] at HO_16
                        (try simp only [hl16_23])
                        (try simp only [hl16_23] at HO_0)
                        (try simp only [hl16_23] at HO_1)
                        (try simp only [hl16_23] at HO_14)
                        cases kq with
                        | zero => exact absurd HA.out (by simp [waybilllaw13_UnitTells.j3])
                        | succ kj23 =>
                          have H := HA.out
                          clear HA
                          simp only [waybilllaw13_UnitTells.j3] at H
                          have H' := Aside0.mk H
                          clear H
                          go_wp2
                          repeat (go_quiet (fail); try go_wp2)
                          go_loopg [17] kj23 (fun kq v17 w' => ∃ (x17_5 : Int), v17 = .int .i64 x17_5 ∧ Aside0 (waybilllaw13_UnitTells.l1 kq x0_2 x1_2 a2 a3 a4 x11_2 t339 x16_23 x17_5 = some r) ∧ Aside0 (kq ≤ kj23) ∧ Aside0 (Kd.V k38 38 w' w.heap.size (fun k_ => ((P0_ k_ ∨ P1_ k_) ∨ w.heap.size ≤ k_)) (.slice Ao16 x0_2.length co16) x0_2) ∧ Aside0 (Kd.V (Kd.int .u8) 5 w' w.heap.size (fun k_ => ((P0_ k_ ∨ P1_ k_) ∨ w.heap.size ≤ k_)) (.slice A1 x1_2.length c1) x1_2) ∧ Aside0 (Kd.V (Kd.int .u8) 5 w' w.heap.size (fun k_ => ((P0_ k_ ∨ P1_ k_) ∨ w.heap.size ≤ k_)) (.slice Ao28 t339.length co28) t339) ∧ Aside0 (Kd.V (Kd.int .u8) 5 w' w.heap.size (fun k_ => ((P0_ k_ ∨ P1_ k_) ∨ w.heap.size ≤ k_)) (.slice Ao29 x16_23.length co29) x16_23) ∧ Aside0 (Below w.heap.size w w'))
                          case atStart => exact ⟨(0), (by first | rfl | (simp; done) | (simp [*]; done)), H', ⟨Nat.le_refl _⟩, ⟨by (try simp only [hl1_2]); (try simp only [hl16_23]); (with_reducible repeat (first | apply Kd.V_alloc | apply Kd.V_drewN | apply Kd.V_drew)); exact Kd.V_mono HO_0.out (fun _ hk => hk.1)⟩, ⟨by (try simp only [hl1_2]); (try simp only [hl16_23]); (with_reducible repeat (first | apply Kd.V_alloc | apply Kd.V_drewN | apply Kd.V_drew)); exact Kd.V_mono HO_1.out (fun _ hk => hk.1)⟩, ⟨Kd.V_mono (Kd.R_V (ok := fun k_ => (w.heap.size ≤ k_)) (by (try simp only [hl1_2]); (try simp only [hl16_23]); (with_reducible repeat (first | apply Kd.R_alloc | apply Kd.R_drewN | apply Kd.R_drew)); exact Kd.R_mono HO_14.out (fun _ hk => hk.1))) (fun k_ hk => by first | exact ⟨(.inr (hk.1)), hk.2⟩ | exact (.inr (hk)))⟩, ⟨Kd.V_mono (Kd.R_V (ok := fun k_ => (w.heap.size ≤ k_)) (by (try simp only [hl1_2]); (try simp only [hl16_23]); (with_reducible repeat (first | apply Kd.R_alloc | apply Kd.R_drewN | apply Kd.R_drew)); exact Kd.R_mono HO_16.out (fun _ hk => hk.1))) (fun k_ hk => by first | exact ⟨(.inr (hk.1)), hk.2⟩ | exact (.inr (hk)))⟩, ⟨by repeat (first | (with_reducible first | exact HB.out | apply below_alloc | apply pw_below_drewN | apply below_drew1) | exact HB.out)⟩⟩
                          case round =>
                            clear H'
                            try clear c1
                            try clear c2
                            try clear p2
                            try clear hcv2
                            try clear c3
                            try clear p3
                            try clear q3
                            try clear hx3
                            try clear c6
                            try clear c8
                            try clear c9
                            try clear c12
                            try clear c12b0
                            try clear c19
                            try clear c19b0
                            try clear c19b1
                            try clear c19b2
                            try clear hcv20
                            try clear hcv21
                            try clear c22
                            try clear c23
                            try clear c30
                            try clear c30b0
                            try clear c30b1
                            try clear c31
                            try clear c31b0
                            try clear c31b1
                            try clear c31b2
                            try clear c33
                            try clear c33b0
                            try clear c34
                            try clear c34b0
                            try clear p34
                            try clear q34
                            try clear hx34
                            try clear p35
                            try clear q35
                            try clear hx35
                            try clear hf35
                            try clear hx349_0
                            try clear hx35_0
                            try clear p2
                            try clear p3
                            try clear p34
                            try clear p349
                            try clear p35
                            try clear q3
                            try clear q34
                            try clear q349
                            try clear q35
                            obtain ⟨x17_5, rfl, HA, HK5, HO_0, HO_1, HO_14, HO_16, HB⟩ := hrel
                            cases gk with
                            | zero => exact absurd HA.out (by simp [waybilllaw13_UnitTells.l1])
                            | succ k5 =>
                              have H := HA.out
                              clear HA
                              simp only [waybilllaw13_UnitTells.l1] at H
                              by_cases c38 : x17_5 < 4
                              · rw [if_pos c38] at H
                                have c38b0 : decide (x17_5 < 4) = true := decide_eq_true c38
                                clear c38
                                by_cases c39 : (wrap64 ((t339.length : Int) + 1)) = 0
                                · rw [if_pos c39] at H
                                  exact absurd H (by simp)
                                · rw [if_neg c39] at H
                                  have c39b0 : ((wrap64 ((t339.length : Int) + 1)) == 0) = false := beq_eq_false_iff_ne.mpr c39
                                  have c39b1 : ((wrap64 ((t339.length : Int) + 1)) != 0) = true := bne_iff_ne.mpr c39
                                  obtain ⟨ji40, hji40⟩ : ∃ j_ : Int, (Int.tmod (Go.bits .and .i64 a4 65535) (wrap64 ((t339.length : Int) + 1))) = j_ := ⟨_, rfl⟩
                                  replace H : (if 0 ≤ (ji40) then (if (ji40) ≤ (t339.length : Int) then (if 0 ≤ x17_5 then ((some (([x1_2, x16_23, (t339.take ((ji40) : Int).toNat), t339] : List (List Int)).getD (x17_5).toNat [] : List Int)).bind fun y359 => ((unit_Parse.f k5 y359).bind fun bt362 => ((waybillref7_Ops.f k5 y359).bind fun bt366 => ((unit_Places.f k5 y359).bind fun bt370 => ((waybillref7_Places.f k5 y359).bind fun bt374 => (if (bt362.2 != bt366.2) = true then (waybilllaw13_UnitTells.j5 k5 x0_2 x1_2 a2 a3 a4 x11_2 t339 x16_23 x17_5 bt370.1 bt374.1 true) else (if (bt370.2 != bt374.2) = true then (waybilllaw13_UnitTells.j5 k5 x0_2 x1_2 a2 a3 a4 x11_2 t339 x16_23 x17_5 bt370.1 bt374.1 true) else ((waybillref16_SameOps.f k5 bt362.1 bt366.1).bind fun t378 => (if t378 = true then (waybilllaw13_UnitTells.j5 k5 x0_2 x1_2 a2 a3 a4 x11_2 t339 x16_23 x17_5 bt370.1 bt374.1 ((bt370.1.length : Int) != (bt374.1.length : Int))) else (waybilllaw13_UnitTells.j5 k5 x0_2 x1_2 a2 a3 a4 x11_2 t339 x16_23 x17_5 bt370.1 bt374.1 true)))))))))) else (none)) else (none)) else (none)) = some r := by first | (rw [hji40] at H; exact H) | (simp only [hji40] at H ⊢; exact H)
                                  by_cases c41 : 0 ≤ (ji40)
                                  · rw [if_pos c41] at H
                                    have c41b0 := eq_true c41
                                    have c41b1 : decide (0 ≤ (ji40)) = true := decide_eq_true c41
                                    clear c41
                                    by_cases c42 : (ji40) ≤ (t339.length : Int)
                                    · rw [if_pos c42] at H
                                      have c42b0 := eq_true c42
                                      have c42b1 : decide ((ji40) ≤ (t339.length : Int)) = true := decide_eq_true c42
                                      clear c42
                                      obtain ⟨y354, hy354⟩ : ∃ y_ : List Int, y_ = (t339.take ((ji40) : Int).toNat) := ⟨_, rfl⟩
                                      replace H : (if 0 ≤ x17_5 then ((some (([x1_2, x16_23, y354, t339] : List (List Int)).getD (x17_5).toNat [] : List Int)).bind fun y359 => ((unit_Parse.f k5 y359).bind fun bt362 => ((waybillref7_Ops.f k5 y359).bind fun bt366 => ((unit_Places.f k5 y359).bind fun bt370 => ((waybillref7_Places.f k5 y359).bind fun bt374 => (if (bt362.2 != bt366.2) = true then (waybilllaw13_UnitTells.j5 k5 x0_2 x1_2 a2 a3 a4 x11_2 t339 x16_23 x17_5 bt370.1 bt374.1 true) else (if (bt370.2 != bt374.2) = true then (waybilllaw13_UnitTells.j5 k5 x0_2 x1_2 a2 a3 a4 x11_2 t339 x16_23 x17_5 bt370.1 bt374.1 true) else ((waybillref16_SameOps.f k5 bt362.1 bt366.1).bind fun t378 => (if t378 = true then (waybilllaw13_UnitTells.j5 k5 x0_2 x1_2 a2 a3 a4 x11_2 t339 x16_23 x17_5 bt370.1 bt374.1 ((bt370.1.length : Int) != (bt374.1.length : Int))) else (waybilllaw13_UnitTells.j5 k5 x0_2 x1_2 a2 a3 a4 x11_2 t339 x16_23 x17_5 bt370.1 bt374.1 true)))))))))) else (none)) = some r := by first | (rw [hy354]; with_reducible exact H) | (have H2_ := (Option.bind_some _ _).symm.trans H; rw [hy354]; with_reducible exact H2_) | (have H2_ := (Option.bind_some _ _).symm.trans H; with_reducible exact H2_) | with_reducible exact H | (rw [hy354]; exact H) | exact H
                                      have Ny354 := Aside0.mk hy354
                                      clear hy354
                                      by_cases c43 : 0 ≤ x17_5
                                      · rw [if_pos c43] at H
                                        have c43b0 : decide (0 ≤ x17_5) = true := decide_eq_true c43
                                        clear c43
                                        obtain ⟨y359, hy359⟩ : ∃ y_ : List Int, y_ = (([x1_2, x16_23, y354, t339] : List (List Int)).getD (x17_5).toNat []) := ⟨_, rfl⟩
                                        replace H : ((unit_Parse.f k5 y359).bind fun bt362 => ((waybillref7_Ops.f k5 y359).bind fun bt366 => ((unit_Places.f k5 y359).bind fun bt370 => ((waybillref7_Places.f k5 y359).bind fun bt374 => (if (bt362.2 != bt366.2) = true then (waybilllaw13_UnitTells.j5 k5 x0_2 x1_2 a2 a3 a4 x11_2 t339 x16_23 x17_5 bt370.1 bt374.1 true) else (if (bt370.2 != bt374.2) = true then (waybilllaw13_UnitTells.j5 k5 x0_2 x1_2 a2 a3 a4 x11_2 t339 x16_23 x17_5 bt370.1 bt374.1 true) else ((waybillref16_SameOps.f k5 bt362.1 bt366.1).bind fun t378 => (if t378 = true then (waybilllaw13_UnitTells.j5 k5 x0_2 x1_2 a2 a3 a4 x11_2 t339 x16_23 x17_5 bt370.1 bt374.1 ((bt370.1.length : Int) != (bt374.1.length : Int))) else (waybilllaw13_UnitTells.j5 k5 x0_2 x1_2 a2 a3 a4 x11_2 t339 x16_23 x17_5 bt370.1 bt374.1 true))))))))) = some r := by first | (rw [hy359]; with_reducible exact H) | (have H2_ := (Option.bind_some _ _).symm.trans H; rw [hy359]; with_reducible exact H2_) | (have H2_ := (Option.bind_some _ _).symm.trans H; with_reducible exact H2_) | with_reducible exact H | (rw [hy359]; exact H) | exact H
                                        have Ny359 := Aside0.mk hy359
                                        clear hy359
                                        replace H := Option.bind_eq_some_iff.mp H
                                        obtain ⟨⟨t362, t363⟩, A440, H⟩ := H
                                        replace H : ((waybillref7_Ops.f k5 y359).bind fun bt366 => ((unit_Places.f k5 y359).bind fun bt370 => ((waybillref7_Places.f k5 y359).bind fun bt374 => (if (t363 != bt366.2) = true then (waybilllaw13_UnitTells.j5 k5 x0_2 x1_2 a2 a3 a4 x11_2 t339 x16_23 x17_5 bt370.1 bt374.1 true) else (if (bt370.2 != bt374.2) = true then (waybilllaw13_UnitTells.j5 k5 x0_2 x1_2 a2 a3 a4 x11_2 t339 x16_23 x17_5 bt370.1 bt374.1 true) else ((waybillref16_SameOps.f k5 t362 bt366.1).bind fun t378 => (if t378 = true then (waybilllaw13_UnitTells.j5 k5 x0_2 x1_2 a2 a3 a4 x11_2 t339 x16_23 x17_5 bt370.1 bt374.1 ((bt370.1.length : Int) != (bt374.1.length : Int))) else (waybilllaw13_UnitTells.j5 k5 x0_2 x1_2 a2 a3 a4 x11_2 t339 x16_23 x17_5 bt370.1 bt374.1 true)))))))) = some r := H
                                        have A44 := Aside0.mk A440
                                        clear A440
                                        replace H := Option.bind_eq_some_iff.mp H
                                        obtain ⟨⟨t366, t369⟩, A450, H⟩ := H
                                        replace H : ((unit_Places.f k5 y359).bind fun bt370 => ((waybillref7_Places.f k5 y359).bind fun bt374 => (if (t363 != t369) = true then (waybilllaw13_UnitTells.j5 k5 x0_2 x1_2 a2 a3 a4 x11_2 t339 x16_23 x17_5 bt370.1 bt374.1 true) else (if (bt370.2 != bt374.2) = true then (waybilllaw13_UnitTells.j5 k5 x0_2 x1_2 a2 a3 a4 x11_2 t339 x16_23 x17_5 bt370.1 bt374.1 true) else ((waybillref16_SameOps.f k5 t362 t366).bind fun t378 => (if t378 = true then (waybilllaw13_UnitTells.j5 k5 x0_2 x1_2 a2 a3 a4 x11_2 t339 x16_23 x17_5 bt370.1 bt374.1 ((bt370.1.length : Int) != (bt374.1.length : Int))) else (waybilllaw13_UnitTells.j5 k5 x0_2 x1_2 a2 a3 a4 x11_2 t339 x16_23 x17_5 bt370.1 bt374.1 true))))))) = some r := H
                                        have A45 := Aside0.mk A450
                                        clear A450
                                        replace H := Option.bind_eq_some_iff.mp H
                                        obtain ⟨⟨t370, t371⟩, A460, H⟩ := H
                                        replace H : ((waybillref7_Places.f k5 y359).bind fun bt374 => (if (t363 != t369) = true then (waybilllaw13_UnitTells.j5 k5 x0_2 x1_2 a2 a3 a4 x11_2 t339 x16_23 x17_5 t370 bt374.1 true) else (if (t371 != bt374.2) = true then (waybilllaw13_UnitTells.j5 k5 x0_2 x1_2 a2 a3 a4 x11_2 t339 x16_23 x17_5 t370 bt374.1 true) else ((waybillref16_SameOps.f k5 t362 t366).bind fun t378 => (if t378 = true then (waybilllaw13_UnitTells.j5 k5 x0_2 x1_2 a2 a3 a4 x11_2 t339 x16_23 x17_5 t370 bt374.1 ((t370.length : Int) != (bt374.1.length : Int))) else (waybilllaw13_UnitTells.j5 k5 x0_2 x1_2 a2 a3 a4 x11_2 t339 x16_23 x17_5 t370 bt374.1 true)))))) = some r := H
                                        have A46 := Aside0.mk A460
                                        clear A460
                                        replace H := Option.bind_eq_some_iff.mp H
                                        obtain ⟨⟨t374, t375⟩, A470, H⟩ := H
                                        replace H : (if (t363 != t369) = true then (waybilllaw13_UnitTells.j5 k5 x0_2 x1_2 a2 a3 a4 x11_2 t339 x16_23 x17_5 t370 t374 true) else (if (t371 != t375) = true then (waybilllaw13_UnitTells.j5 k5 x0_2 x1_2 a2 a3 a4 x11_2 t339 x16_23 x17_5 t370 t374 true) else ((waybillref16_SameOps.f k5 t362 t366).bind fun t378 => (if t378 = true then (waybilllaw13_UnitTells.j5 k5 x0_2 x1_2 a2 a3 a4 x11_2 t339 x16_23 x17_5 t370 t374 ((t370.length : Int) != (t374.length : Int))) else (waybilllaw13_UnitTells.j5 k5 x0_2 x1_2 a2 a3 a4 x11_2 t339 x16_23 x17_5 t370 t374 true))))) = some r := H
                                        have A47 := Aside0.mk A470
                                        clear A470
                                        have HC48 := Aside0.mk H
                                        clear H
                                        have q49 : ((ji40) : Int) ≤ ((t339.length : Int) : Int) := of_decide_eq_true (by first | (with_reducible assumption) | assumption)
                                        obtain ⟨i049, hi049, _, hsz49, _⟩ := info_parts info5
                                        have hroom49 : t339.length ≤ co28 := (Kd.V_reads' HO_14.out).2.1
                                        have hC49 : Kd.F (Kd.int .u8) _ _ Ao28 t339.length t339 := (Kd.V_at (base := w.heap.size) HO_14.out).2.2
                                        have hcut49 := cut_to (P := Try.prog) 26 5 .i64 Try.underlying26 hi049 Ao28 t339.length co28 (ji40) (of_decide_eq_true (by first | (with_reducible assumption) | assumption)) q49 hroom49
                                        have hr49 := Kd.F_take (m := ((ji40) : Int).toNat) hC49 (by omega)
                                        have hy49 : y354.length = ((ji40) : Int).toNat := (by rw [Ny354.out, List.length_take]; omega)
                                        rw [← Ny354.out] at hr49
                                        rw [← hy49] at hcut49
                                        have HO358 := Aside0.mk (show Kd.V (Kd.int .u8) 5 _ w.heap.size _ (.slice Ao28 y354.length co28) y354 from Kd.V_mk (by omega) hr49)
                                        have HC358 := Aside0.mk (show y354.length ≤ co28 from by omega)
                                        clear hr49 hC49 hroom49 hi049 hsz49
                                        have KY49 := Aside0.mk hy49
                                        clear hy49
                                        replace q49 := eq_true q49
                                        have plq50 : (0 ≤ x17_5) = True := eq_true (of_decide_eq_true (by first | (with_reducible assumption) | assumption))
                                        have qlq50 : (x17_5 < 4) = True := eq_true (of_decide_eq_true (by first | (with_reducible assumption) | assumption))
                                        have jlq50 : (x17_5).toNat < 4 := by have h1_ := of_eq_true plq50; have h2_ := of_eq_true qlq50; omega
                                        go_upto_region 21 with (first | ((with_reducible refine gate_dst (N := 96) rfl ?_); (try (refine gate_guard (by rfl) ?_; dsimp only)); have hvq50 : Kd.AllV (Kd.int .u8) 5 wr w.heap.size (fun k_ => ((P0_ k_ ∨ P1_ k_) ∨ w.heap.size ≤ k_)) [.slice A1 x1_2.length c1, .slice Ao29 x16_23.length co29, .slice Ao28 y354.length co28, .slice Ao28 t339.length co28] ([x1_2, x16_23, y354, t339] : List (List Int)) := ⟨by (with_reducible repeat (first | apply Kd.V_alloc | apply Kd.V_drewN | apply Kd.V_drew)); exact HO_1.out, by (with_reducible repeat (first | apply Kd.V_alloc | apply Kd.V_drewN | apply Kd.V_drew)); exact HO_16.out, by (with_reducible repeat (first | apply Kd.V_alloc | apply Kd.V_drewN | apply Kd.V_drew)); exact HO358.out, by (with_reducible repeat (first | apply Kd.V_alloc | apply Kd.V_drewN | apply Kd.V_drew)); exact HO_14.out, trivial⟩; obtain ⟨v360, hqq50⟩ : ∃ v_, ([.slice A1 x1_2.length c1, .slice Ao29 x16_23.length co29, .slice Ao28 y354.length co28, .slice Ao28 t339.length co28] : List Value).getD (x17_5).toNat undef = v_ := ⟨_, rfl⟩; have hoq50 : Kd.V (Kd.int .u8) 5 wr w.heap.size (fun k_ => ((P0_ k_ ∨ P1_ k_) ∨ w.heap.size ≤ k_)) v360 y359 := (by rw [← hqq50, Ny359.out]; exact Kd.AllV_get _ _ _ hvq50 jlq50); refine Kd.event_run (v := v360) rfl (by rw [← hqq50]; first | done | exact pick_run (by rfl) (by rfl) Try.underlying26 jlq50) ?_; clear hvq50 hqq50; obtain ⟨Apq50_, cpq50_, epq50_⟩ := Kd.V_slice hoq50; subst epq50_; have HO361 := Aside0.mk hoq50; clear hoq50) | (go_at_call 24; (with_reducible refine (unit_Parse.calls k5 _ _ y359 t362 t363 _ ?side1 ?side2 A44.out).mono ?_); (case side1 => repeat (first | exact (Kd.V_reads' HO361.out).2.2 | (with_reducible refine Kd.C_alloc ?_ _) | (with_reducible refine Kd.C_drewN ?_ _) | (with_reducible refine Kd.C_drew ?_))); (case side2 => exact (Kd.V_reads' HO361.out).2.1); rintro e w52 ⟨v364, rfl, ho0, hb⟩; have n0_ := Aside0.mk (Kd.V_elder' (by (with_reducible repeat (first | apply Kd.V_alloc | apply Kd.V_drewN | apply Kd.V_drew)); exact HO_0.out) (Kd.N_base (Kd.S_N (Kd.S_bound ho0))) hb); have n1_ := Aside0.mk (Kd.V_elder' (by (with_reducible repeat (first | apply Kd.V_alloc | apply Kd.V_drewN | apply Kd.V_drew)); exact HO_1.out) (Kd.N_base (Kd.S_N (Kd.S_bound ho0))) hb); have n2_ := Aside0.mk (Kd.V_elder' (by (with_reducible repeat (first | apply Kd.V_alloc | apply Kd.V_drewN | apply Kd.V_drew)); exact HO_14.out) (Kd.N_base (Kd.S_N (Kd.S_bound ho0))) hb); have n3_ := Aside0.mk (Kd.V_elder' (by (with_reducible repeat (first | apply Kd.V_alloc | apply Kd.V_drewN | apply Kd.V_drew)); exact HO_16.out) (Kd.N_base (Kd.S_N (Kd.S_bound ho0))) hb); have n4_ := Aside0.mk (Kd.V_elder' (by (with_reducible repeat (first | apply Kd.V_alloc | apply Kd.V_drewN | apply Kd.V_drew)); exact HO358.out) (Kd.N_base (Kd.S_N (Kd.S_bound ho0))) hb); have n5_ := Aside0.mk (Kd.V_elder' (by (with_reducible repeat (first | apply Kd.V_alloc | apply Kd.V_drewN | apply Kd.V_drew)); exact HO361.out) (Kd.N_base (Kd.S_N (Kd.S_bound ho0))) hb); have n6_ := Aside0.mk (Kd.N_lower (Kd.N_mono (ok' := fun k_ => ((P0_ k_ ∨ P1_ k_) ∨ w.heap.size ≤ k_)) (Kd.S_N (Kd.S_bound ho0)) (fun k_ hk_ => (.inr (Nat.le_trans (below_size (by repeat (first | (with_reducible first | exact HB.out | apply below_alloc | apply pw_below_drewN | apply below_drew1) | exact HB.out))) hk_.2.1)))) (below_size (by repeat (first | (with_reducible first | exact HB.out | apply below_alloc | apply pw_below_drewN | apply below_drew1) | exact HB.out)))); have n7_ := Aside0.mk (below_step (by repeat (first | (with_reducible first | exact HB.out | apply below_alloc | apply pw_below_drewN | apply below_drew1) | exact HB.out)) hb); clear HO_0; clear HO_1; clear HO_14; clear HO_16; clear HO358; clear HO361; clear HB; have HO_0 := n0_; have HO_1 := n1_; have HO_14 := n2_; have HO_16 := n3_; have HO358 := n4_; have HO361 := n5_; have HO365 := n6_; have HB := n7_; clear n0_ n1_ n2_ n3_ n4_ n5_ n6_ n7_; (try clear hb); (try clear hb2); (try clear hk); (try clear hi); (try clear hge); (try clear ho0)) | (go_at_call 25; (with_reducible refine (waybillref7_Ops.calls k5 (fun k_ => (((P0_ k_ ∨ P1_ k_) ∨ w.heap.size ≤ k_) ∧ some k_ ≠ (v364 : Value).ownBlock)) _ _ y359 t366 t369 _ ?side1 A45.out).mono ?_); (case side1 => exact HO361.out); rintro e w53 ⟨v367, rfl, ho0, hb⟩; have n0_ := Aside0.mk (Kd.V_elder' (by (with_reducible repeat (first | apply Kd.V_alloc | apply Kd.V_drewN | apply Kd.V_drew)); exact HO_0.out) (Kd.N_base ho0) hb); have n1_ := Aside0.mk (Kd.V_elder' (by (with_reducible repeat (first | apply Kd.V_alloc | apply Kd.V_drewN | apply Kd.V_drew)); exact HO_1.out) (Kd.N_base ho0) hb); have n2_ := Aside0.mk (Kd.V_elder' (by (with_reducible repeat (first | apply Kd.V_alloc | apply Kd.V_drewN | apply Kd.V_drew)); exact HO_14.out) (Kd.N_base ho0) hb); have n3_ := Aside0.mk (Kd.V_elder' (by (with_reducible repeat (first | apply Kd.V_alloc | apply Kd.V_drewN | apply Kd.V_drew)); exact HO_16.out) (Kd.N_base ho0) hb); have n4_ := Aside0.mk (Kd.V_elder' (by (with_reducible repeat (first | apply Kd.V_alloc | apply Kd.V_drewN | apply Kd.V_drew)); exact HO358.out) (Kd.N_base ho0) hb); have n5_ := Aside0.mk (Kd.V_elder' (by (with_reducible repeat (first | apply Kd.V_alloc | apply Kd.V_drewN | apply Kd.V_drew)); exact HO361.out) (Kd.N_base ho0) hb); have n6_ := Aside0.mk (Kd.N_elder' (by (with_reducible repeat (first | apply Kd.N_alloc | apply Kd.N_drewN | apply Kd.N_drew)); exact HO365.out) (Kd.N_base ho0) hb); have n7_ := Aside0.mk (Kd.N_lower (Kd.N_mono (ok' := fun k_ => ((P0_ k_ ∨ P1_ k_) ∨ w.heap.size ≤ k_) ∧ some k_ ≠ (v364 : Value).ownBlock) ho0 (fun k_ hk_ => ⟨Or.elim hk_ (fun hs_ => hs_.1) (fun hn_ => (.inr (Nat.le_trans (below_size (by repeat (first | (with_reducible first | exact HB.out | apply below_alloc | apply pw_below_drewN | apply below_drew1) | exact HB.out))) hn_))), Or.elim hk_ (fun hs_ => hs_.2) (fun hn_ => (Kd.fresh' (Kd.N_lt (by (with_reducible repeat (first | apply Kd.N_alloc | apply Kd.N_drewN | apply Kd.N_drew)); exact HO365.out)) k_ hn_))⟩)) (below_size (by repeat (first | (with_reducible first | exact HB.out | apply below_alloc | apply pw_below_drewN | apply below_drew1) | exact HB.out)))); have n8_ := Aside0.mk (below_step (by repeat (first | (with_reducible first | exact HB.out | apply below_alloc | apply pw_below_drewN | apply below_drew1) | exact HB.out)) hb); clear HO_0; clear HO_1; clear HO_14; clear HO_16; clear HO358; clear HO361; clear HO365; clear HB; have HO_0 := n0_; have HO_1 := n1_; have HO_14 := n2_; have HO_16 := n3_; have HO358 := n4_; have HO361 := n5_; have HO365 := n6_; have HO368 := n7_; have HB := n8_; clear n0_ n1_ n2_ n3_ n4_ n5_ n6_ n7_ n8_; (try clear hb); (try clear hb2); (try clear hk); (try clear hi); (try clear hge); (try clear ho0)) | (go_at_call 26; (with_reducible refine (unit_Places.calls k5 _ _ y359 t370 t371 _ ?side1 ?side2 A46.out).mono ?_); (case side1 => repeat (first | exact (Kd.V_reads' HO361.out).2.2 | (with_reducible refine Kd.C_alloc ?_ _) | (with_reducible refine Kd.C_drewN ?_ _) | (with_reducible refine Kd.C_drew ?_))); (case side2 => exact (Kd.V_reads' HO361.out).2.1); rintro e w54 ⟨v372, rfl, ho0, hb⟩; have n0_ := Aside0.mk (Kd.V_elder' (by (with_reducible repeat (first | apply Kd.V_alloc | apply Kd.V_drewN | apply Kd.V_drew)); exact HO_0.out) (Kd.R_base ho0) hb); have n1_ := Aside0.mk (Kd.V_elder' (by (with_reducible repeat (first | apply Kd.V_alloc | apply Kd.V_drewN | apply Kd.V_drew)); exact HO_1.out) (Kd.R_base ho0) hb); have n2_ := Aside0.mk (Kd.V_elder' (by (with_reducible repeat (first | apply Kd.V_alloc | apply Kd.V_drewN | apply Kd.V_drew)); exact HO_14.out) (Kd.R_base ho0) hb); have n3_ := Aside0.mk (Kd.V_elder' (by (with_reducible repeat (first | apply Kd.V_alloc | apply Kd.V_drewN | apply Kd.V_drew)); exact HO_16.out) (Kd.R_base ho0) hb); have n4_ := Aside0.mk (Kd.V_elder' (by (with_reducible repeat (first | apply Kd.V_alloc | apply Kd.V_drewN | apply Kd.V_drew)); exact HO358.out) (Kd.R_base ho0) hb); have n5_ := Aside0.mk (Kd.V_elder' (by (with_reducible repeat (first | apply Kd.V_alloc | apply Kd.V_drewN | apply Kd.V_drew)); exact HO361.out) (Kd.R_base ho0) hb); have n6_ := Aside0.mk (Kd.N_elder' (by (with_reducible repeat (first | apply Kd.N_alloc | apply Kd.N_drewN | apply Kd.N_drew)); exact HO365.out) (Kd.R_base ho0) hb); have n7_ := Aside0.mk (Kd.N_elder' (by (with_reducible repeat (first | apply Kd.N_alloc | apply Kd.N_drewN | apply Kd.N_drew)); exact HO368.out) (Kd.R_base ho0) hb); have n8_ := Aside0.mk (Kd.R_lower (Kd.R_newM (M := fun k_ => (w.heap.size ≤ k_)) ho0 (below_size (by repeat (first | (with_reducible first | exact HB.out | apply below_alloc | apply pw_below_drewN | apply below_drew1) | exact HB.out))) (fun k_ h_ => h_)) (below_size (by repeat (first | (with_reducible first | exact HB.out | apply below_alloc | apply pw_below_drewN | apply below_drew1) | exact HB.out)))); have n9_ := Aside0.mk (below_step (by repeat (first | (with_reducible first | exact HB.out | apply below_alloc | apply pw_below_drewN | apply below_drew1) | exact HB.out)) hb); clear HO_0; clear HO_1; clear HO_14; clear HO_16; clear HO358; clear HO361; clear HO365; clear HO368; clear HB; have HO_0 := n0_; have HO_1 := n1_; have HO_14 := n2_; have HO_16 := n3_; have HO358 := n4_; have HO361 := n5_; have HO365 := n6_; have HO368 := n7_; have HO373 := n8_; have HB := n9_; clear n0_ n1_ n2_ n3_ n4_ n5_ n6_ n7_ n8_ n9_; (try clear hb); (try clear hb2); (try clear hk); (try clear hi); (try clear hge); (try clear ho0)) | (go_at_call 27; (with_reducible refine (waybillref7_Places.calls k5 _ _ y359 t374 t375 _ ?side1 ?side2 A47.out).mono ?_); (case side1 => repeat (first | exact (Kd.V_reads' HO361.out).2.2 | (with_reducible refine Kd.C_alloc ?_ _) | (with_reducible refine Kd.C_drewN ?_ _) | (with_reducible refine Kd.C_drew ?_))); (case side2 => exact (Kd.V_reads' HO361.out).2.1); rintro e w55 ⟨v376, rfl, ho0, hb⟩; have n0_ := Aside0.mk (Kd.V_elder' (by (with_reducible repeat (first | apply Kd.V_alloc | apply Kd.V_drewN | apply Kd.V_drew)); exact HO_0.out) (Kd.R_base ho0) hb); have n1_ := Aside0.mk (Kd.V_elder' (by (with_reducible repeat (first | apply Kd.V_alloc | apply Kd.V_drewN | apply Kd.V_drew)); exact HO_1.out) (Kd.R_base ho0) hb); have n2_ := Aside0.mk (Kd.V_elder' (by (with_reducible repeat (first | apply Kd.V_alloc | apply Kd.V_drewN | apply Kd.V_drew)); exact HO_14.out) (Kd.R_base ho0) hb); have n3_ := Aside0.mk (Kd.V_elder' (by (with_reducible repeat (first | apply Kd.V_alloc | apply Kd.V_drewN | apply Kd.V_drew)); exact HO_16.out) (Kd.R_base ho0) hb); have n4_ := Aside0.mk (Kd.V_elder' (by (with_reducible repeat (first | apply Kd.V_alloc | apply Kd.V_drewN | apply Kd.V_drew)); exact HO358.out) (Kd.R_base ho0) hb); have n5_ := Aside0.mk (Kd.V_elder' (by (with_reducible repeat (first | apply Kd.V_alloc | apply Kd.V_drewN | apply Kd.V_drew)); exact HO361.out) (Kd.R_base ho0) hb); have n6_ := Aside0.mk (Kd.N_elder' (by (with_reducible repeat (first | apply Kd.N_alloc | apply Kd.N_drewN | apply Kd.N_drew)); exact HO365.out) (Kd.R_base ho0) hb); have n7_ := Aside0.mk (Kd.N_elder' (by (with_reducible repeat (first | apply Kd.N_alloc | apply Kd.N_drewN | apply Kd.N_drew)); exact HO368.out) (Kd.R_base ho0) hb); have n8_ := Aside0.mk (Kd.R_elder' (by (with_reducible repeat (first | apply Kd.R_alloc | apply Kd.R_drewN | apply Kd.R_drew)); exact HO373.out) (Kd.R_base ho0) hb); have n9_ := Aside0.mk (Kd.R_lower (Kd.R_new' (Kd.R_newM (M := fun k_ => (w.heap.size ≤ k_)) ho0 (below_size (by repeat (first | (with_reducible first | exact HB.out | apply below_alloc | apply pw_below_drewN | apply below_drew1) | exact HB.out))) (fun k_ h_ => h_)) (Kd.R_lt (by (with_reducible repeat (first | apply Kd.R_alloc | apply Kd.R_drewN | apply Kd.R_drew)); exact HO373.out))) (below_size (by repeat (first | (with_reducible first | exact HB.out | apply below_alloc | apply pw_below_drewN | apply below_drew1) | exact HB.out)))); have n10_ := Aside0.mk (below_step (by repeat (first | (with_reducible first | exact HB.out | apply below_alloc | apply pw_below_drewN | apply below_drew1) | exact HB.out)) hb); clear HO_0; clear HO_1; clear HO_14; clear HO_16; clear HO358; clear HO361; clear HO365; clear HO368; clear HO373; clear HB; have HO_0 := n0_; have HO_1 := n1_; have HO_14 := n2_; have HO_16 := n3_; have HO358 := n4_; have HO361 := n5_; have HO365 := n6_; have HO368 := n7_; have HO373 := n8_; have HO377 := n9_; have HB := n10_; clear n0_ n1_ n2_ n3_ n4_ n5_ n6_ n7_ n8_ n9_ n10_; (try clear hb); (try clear hb2); (try clear hk); (try clear hi); (try clear hge); (try clear ho0)))
                                        repeat (go_quiet (first | ((with_reducible refine gate_dst (N := 96) rfl ?_); (try (refine gate_guard (by rfl) ?_; dsimp only)); have hvq50 : Kd.AllV (Kd.int .u8) 5 wr w.heap.size (fun k_ => ((P0_ k_ ∨ P1_ k_) ∨ w.heap.size ≤ k_)) [.slice A1 x1_2.length c1, .slice Ao29 x16_23.length co29, .slice Ao28 y354.length co28, .slice Ao28 t339.length co28] ([x1_2, x16_23, y354, t339] : List (List Int)) := ⟨by (with_reducible repeat (first | apply Kd.V_alloc | apply Kd.V_drewN | apply Kd.V_drew)); exact HO_1.out, by (with_reducible repeat (first | apply Kd.V_alloc | apply Kd.V_drewN | apply Kd.V_drew)); exact HO_16.out, by (with_reducible repeat (first | apply Kd.V_alloc | apply Kd.V_drewN | apply Kd.V_drew)); exact HO358.out, by (with_reducible repeat (first | apply Kd.V_alloc | apply Kd.V_drewN | apply Kd.V_drew)); exact HO_14.out, trivial⟩; obtain ⟨v360, hqq50⟩ : ∃ v_, ([.slice A1 x1_2.length c1, .slice Ao29 x16_23.length co29, .slice Ao28 y354.length co28, .slice Ao28 t339.length co28] : List Value).getD (x17_5).toNat undef = v_ := ⟨_, rfl⟩; have hoq50 : Kd.V (Kd.int .u8) 5 wr w.heap.size (fun k_ => ((P0_ k_ ∨ P1_ k_) ∨ w.heap.size ≤ k_)) v360 y359 := (by rw [← hqq50, Ny359.out]; exact Kd.AllV_get _ _ _ hvq50 jlq50); refine Kd.event_run (v := v360) rfl (by rw [← hqq50]; first | done | exact pick_run (by rfl) (by rfl) Try.underlying26 jlq50) ?_; clear hvq50 hqq50; obtain ⟨Apq50_, cpq50_, epq50_⟩ := Kd.V_slice hoq50; subst epq50_; have HO361 := Aside0.mk hoq50; clear hoq50) | (go_at_call 24; (with_reducible refine (unit_Parse.calls k5 _ _ y359 t362 t363 _ ?side1 ?side2 A44.out).mono ?_); (case side1 => repeat (first | exact (Kd.V_reads' HO361.out).2.2 | (with_reducible refine Kd.C_alloc ?_ _) | (with_reducible refine Kd.C_drewN ?_ _) | (with_reducible refine Kd.C_drew ?_))); (case side2 => exact (Kd.V_reads' HO361.out).2.1); rintro e w52 ⟨v364, rfl, ho0, hb⟩; have n0_ := Aside0.mk (Kd.V_elder' (by (with_reducible repeat (first | apply Kd.V_alloc | apply Kd.V_drewN | apply Kd.V_drew)); exact HO_0.out) (Kd.N_base (Kd.S_N (Kd.S_bound ho0))) hb); have n1_ := Aside0.mk (Kd.V_elder' (by (with_reducible repeat (first | apply Kd.V_alloc | apply Kd.V_drewN | apply Kd.V_drew)); exact HO_1.out) (Kd.N_base (Kd.S_N (Kd.S_bound ho0))) hb); have n2_ := Aside0.mk (Kd.V_elder' (by (with_reducible repeat (first | apply Kd.V_alloc | apply Kd.V_drewN | apply Kd.V_drew)); exact HO_14.out) (Kd.N_base (Kd.S_N (Kd.S_bound ho0))) hb); have n3_ := Aside0.mk (Kd.V_elder' (by (with_reducible repeat (first | apply Kd.V_alloc | apply Kd.V_drewN | apply Kd.V_drew)); exact HO_16.out) (Kd.N_base (Kd.S_N (Kd.S_bound ho0))) hb); have n4_ := Aside0.mk (Kd.V_elder' (by (with_reducible repeat (first | apply Kd.V_alloc | apply Kd.V_drewN | apply Kd.V_drew)); exact HO358.out) (Kd.N_base (Kd.S_N (Kd.S_bound ho0))) hb); have n5_ := Aside0.mk (Kd.V_elder' (by (with_reducible repeat (first | apply Kd.V_alloc | apply Kd.V_drewN | apply Kd.V_drew)); exact HO361.out) (Kd.N_base (Kd.S_N (Kd.S_bound ho0))) hb); have n6_ := Aside0.mk (Kd.N_lower (Kd.N_mono (ok' := fun k_ => ((P0_ k_ ∨ P1_ k_) ∨ w.heap.size ≤ k_)) (Kd.S_N (Kd.S_bound ho0)) (fun k_ hk_ => (.inr (Nat.le_trans (below_size (by repeat (first | (with_reducible first | exact HB.out | apply below_alloc | apply pw_below_drewN | apply below_drew1) | exact HB.out))) hk_.2.1)))) (below_size (by repeat (first | (with_reducible first | exact HB.out | apply below_alloc | apply pw_below_drewN | apply below_drew1) | exact HB.out)))); have n7_ := Aside0.mk (below_step (by repeat (first | (with_reducible first | exact HB.out | apply below_alloc | apply pw_below_drewN | apply below_drew1) | exact HB.out)) hb); clear HO_0; clear HO_1; clear HO_14; clear HO_16; clear HO358; clear HO361; clear HB; have HO_0 := n0_; have HO_1 := n1_; have HO_14 := n2_; have HO_16 := n3_; have HO358 := n4_; have HO361 := n5_; have HO365 := n6_; have HB := n7_; clear n0_ n1_ n2_ n3_ n4_ n5_ n6_ n7_; (try clear hb); (try clear hb2); (try clear hk); (try clear hi); (try clear hge); (try clear ho0)) | (go_at_call 25; (with_reducible refine (waybillref7_Ops.calls k5 (fun k_ => (((P0_ k_ ∨ P1_ k_) ∨ w.heap.size ≤ k_) ∧ some k_ ≠ (v364 : Value).ownBlock)) _ _ y359 t366 t369 _ ?side1 A45.out).mono ?_); (case side1 => exact HO361.out); rintro e w53 ⟨v367, rfl, ho0, hb⟩; have n0_ := Aside0.mk (Kd.V_elder' (by (with_reducible repeat (first | apply Kd.V_alloc | apply Kd.V_drewN | apply Kd.V_drew)); exact HO_0.out) (Kd.N_base ho0) hb); have n1_ := Aside0.mk (Kd.V_elder' (by (with_reducible repeat (first | apply Kd.V_alloc | apply Kd.V_drewN | apply Kd.V_drew)); exact HO_1.out) (Kd.N_base ho0) hb); have n2_ := Aside0.mk (Kd.V_elder' (by (with_reducible repeat (first | apply Kd.V_alloc | apply Kd.V_drewN | apply Kd.V_drew)); exact HO_14.out) (Kd.N_base ho0) hb); have n3_ := Aside0.mk (Kd.V_elder' (by (with_reducible repeat (first | apply Kd.V_alloc | apply Kd.V_drewN | apply Kd.V_drew)); exact HO_16.out) (Kd.N_base ho0) hb); have n4_ := Aside0.mk (Kd.V_elder' (by (with_reducible repeat (first | apply Kd.V_alloc | apply Kd.V_drewN | apply Kd.V_drew)); exact HO358.out) (Kd.N_base ho0) hb); have n5_ := Aside0.mk (Kd.V_elder' (by (with_reducible repeat (first | apply Kd.V_alloc | apply Kd.V_drewN | apply Kd.V_drew)); exact HO361.out) (Kd.N_base ho0) hb); have n6_ := Aside0.mk (Kd.N_elder' (by (with_reducible repeat (first | apply Kd.N_alloc | apply Kd.N_drewN | apply Kd.N_drew)); exact HO365.out) (Kd.N_base ho0) hb); have n7_ := Aside0.mk (Kd.N_lower (Kd.N_mono (ok' := fun k_ => ((P0_ k_ ∨ P1_ k_) ∨ w.heap.size ≤ k_) ∧ some k_ ≠ (v364 : Value).ownBlock) ho0 (fun k_ hk_ => ⟨Or.elim hk_ (fun hs_ => hs_.1) (fun hn_ => (.inr (Nat.le_trans (below_size (by repeat (first | (with_reducible first | exact HB.out | apply below_alloc | apply pw_below_drewN | apply below_drew1) | exact HB.out))) hn_))), Or.elim hk_ (fun hs_ => hs_.2) (fun hn_ => (Kd.fresh' (Kd.N_lt (by (with_reducible repeat (first | apply Kd.N_alloc | apply Kd.N_drewN | apply Kd.N_drew)); exact HO365.out)) k_ hn_))⟩)) (below_size (by repeat (first | (with_reducible first | exact HB.out | apply below_alloc | apply pw_below_drewN | apply below_drew1) | exact HB.out)))); have n8_ := Aside0.mk (below_step (by repeat (first | (with_reducible first | exact HB.out | apply below_alloc | apply pw_below_drewN | apply below_drew1) | exact HB.out)) hb); clear HO_0; clear HO_1; clear HO_14; clear HO_16; clear HO358; clear HO361; clear HO365; clear HB; have HO_0 := n0_; have HO_1 := n1_; have HO_14 := n2_; have HO_16 := n3_; have HO358 := n4_; have HO361 := n5_; have HO365 := n6_; have HO368 := n7_; have HB := n8_; clear n0_ n1_ n2_ n3_ n4_ n5_ n6_ n7_ n8_; (try clear hb); (try clear hb2); (try clear hk); (try clear hi); (try clear hge); (try clear ho0)) | (go_at_call 26; (with_reducible refine (unit_Places.calls k5 _ _ y359 t370 t371 _ ?side1 ?side2 A46.out).mono ?_); (case side1 => repeat (first | exact (Kd.V_reads' HO361.out).2.2 | (with_reducible refine Kd.C_alloc ?_ _) | (with_reducible refine Kd.C_drewN ?_ _) | (with_reducible refine Kd.C_drew ?_))); (case side2 => exact (Kd.V_reads' HO361.out).2.1); rintro e w54 ⟨v372, rfl, ho0, hb⟩; have n0_ := Aside0.mk (Kd.V_elder' (by (with_reducible repeat (first | apply Kd.V_alloc | apply Kd.V_drewN | apply Kd.V_drew)); exact HO_0.out) (Kd.R_base ho0) hb); have n1_ := Aside0.mk (Kd.V_elder' (by (with_reducible repeat (first | apply Kd.V_alloc | apply Kd.V_drewN | apply Kd.V_drew)); exact HO_1.out) (Kd.R_base ho0) hb); have n2_ := Aside0.mk (Kd.V_elder' (by (with_reducible repeat (first | apply Kd.V_alloc | apply Kd.V_drewN | apply Kd.V_drew)); exact HO_14.out) (Kd.R_base ho0) hb); have n3_ := Aside0.mk (Kd.V_elder' (by (with_reducible repeat (first | apply Kd.V_alloc | apply Kd.V_drewN | apply Kd.V_drew)); exact HO_16.out) (Kd.R_base ho0) hb); have n4_ := Aside0.mk (Kd.V_elder' (by (with_reducible repeat (first | apply Kd.V_alloc | apply Kd.V_drewN | apply Kd.V_drew)); exact HO358.out) (Kd.R_base ho0) hb); have n5_ := Aside0.mk (Kd.V_elder' (by (with_reducible repeat (first | apply Kd.V_alloc | apply Kd.V_drewN | apply Kd.V_drew)); exact HO361.out) (Kd.R_base ho0) hb); have n6_ := Aside0.mk (Kd.N_elder' (by (with_reducible repeat (first | apply Kd.N_alloc | apply Kd.N_drewN | apply Kd.N_drew)); exact HO365.out) (Kd.R_base ho0) hb); have n7_ := Aside0.mk (Kd.N_elder' (by (with_reducible repeat (first | apply Kd.N_alloc | apply Kd.N_drewN | apply Kd.N_drew)); exact HO368.out) (Kd.R_base ho0) hb); have n8_ := Aside0.mk (Kd.R_lower (Kd.R_newM (M := fun k_ => (w.heap.size ≤ k_)) ho0 (below_size (by repeat (first | (with_reducible first | exact HB.out | apply below_alloc | apply pw_below_drewN | apply below_drew1) | exact HB.out))) (fun k_ h_ => h_)) (below_size (by repeat (first | (with_reducible first | exact HB.out | apply below_alloc | apply pw_below_drewN | apply below_drew1) | exact HB.out)))); have n9_ := Aside0.mk (below_step (by repeat (first | (with_reducible first | exact HB.out | apply below_alloc | apply pw_below_drewN | apply below_drew1) | exact HB.out)) hb); clear HO_0; clear HO_1; clear HO_14; clear HO_16; clear HO358; clear HO361; clear HO365; clear HO368; clear HB; have HO_0 := n0_; have HO_1 := n1_; have HO_14 := n2_; have HO_16 := n3_; have HO358 := n4_; have HO361 := n5_; have HO365 := n6_; have HO368 := n7_; have HO373 := n8_; have HB := n9_; clear n0_ n1_ n2_ n3_ n4_ n5_ n6_ n7_ n8_ n9_; (try clear hb); (try clear hb2); (try clear hk); (try clear hi); (try clear hge); (try clear ho0)) | (go_at_call 27; (with_reducible refine (waybillref7_Places.calls k5 _ _ y359 t374 t375 _ ?side1 ?side2 A47.out).mono ?_); (case side1 => repeat (first | exact (Kd.V_reads' HO361.out).2.2 | (with_reducible refine Kd.C_alloc ?_ _) | (with_reducible refine Kd.C_drewN ?_ _) | (with_reducible refine Kd.C_drew ?_))); (case side2 => exact (Kd.V_reads' HO361.out).2.1); rintro e w55 ⟨v376, rfl, ho0, hb⟩; have n0_ := Aside0.mk (Kd.V_elder' (by (with_reducible repeat (first | apply Kd.V_alloc | apply Kd.V_drewN | apply Kd.V_drew)); exact HO_0.out) (Kd.R_base ho0) hb); have n1_ := Aside0.mk (Kd.V_elder' (by (with_reducible repeat (first | apply Kd.V_alloc | apply Kd.V_drewN | apply Kd.V_drew)); exact HO_1.out) (Kd.R_base ho0) hb); have n2_ := Aside0.mk (Kd.V_elder' (by (with_reducible repeat (first | apply Kd.V_alloc | apply Kd.V_drewN | apply Kd.V_drew)); exact HO_14.out) (Kd.R_base ho0) hb); have n3_ := Aside0.mk (Kd.V_elder' (by (with_reducible repeat (first | apply Kd.V_alloc | apply Kd.V_drewN | apply Kd.V_drew)); exact HO_16.out) (Kd.R_base ho0) hb); have n4_ := Aside0.mk (Kd.V_elder' (by (with_reducible repeat (first | apply Kd.V_alloc | apply Kd.V_drewN | apply Kd.V_drew)); exact HO358.out) (Kd.R_base ho0) hb); have n5_ := Aside0.mk (Kd.V_elder' (by (with_reducible repeat (first | apply Kd.V_alloc | apply Kd.V_drewN | apply Kd.V_drew)); exact HO361.out) (Kd.R_base ho0) hb); have n6_ := Aside0.mk (Kd.N_elder' (by (with_reducible repeat (first | apply Kd.N_alloc | apply Kd.N_drewN | apply Kd.N_drew)); exact HO365.out) (Kd.R_base ho0) hb); have n7_ := Aside0.mk (Kd.N_elder' (by (with_reducible repeat (first | apply Kd.N_alloc | apply Kd.N_drewN | apply Kd.N_drew)); exact HO368.out) (Kd.R_base ho0) hb); have n8_ := Aside0.mk (Kd.R_elder' (by (with_reducible repeat (first | apply Kd.R_alloc | apply Kd.R_drewN | apply Kd.R_drew)); exact HO373.out) (Kd.R_base ho0) hb); have n9_ := Aside0.mk (Kd.R_lower (Kd.R_new' (Kd.R_newM (M := fun k_ => (w.heap.size ≤ k_)) ho0 (below_size (by repeat (first | (with_reducible first | exact HB.out | apply below_alloc | apply pw_below_drewN | apply below_drew1) | exact HB.out))) (fun k_ h_ => h_)) (Kd.R_lt (by (with_reducible repeat (first | apply Kd.R_alloc | apply Kd.R_drewN | apply Kd.R_drew)); exact HO373.out))) (below_size (by repeat (first | (with_reducible first | exact HB.out | apply below_alloc | apply pw_below_drewN | apply below_drew1) | exact HB.out)))); have n10_ := Aside0.mk (below_step (by repeat (first | (with_reducible first | exact HB.out | apply below_alloc | apply pw_below_drewN | apply below_drew1) | exact HB.out)) hb); clear HO_0; clear HO_1; clear HO_14; clear HO_16; clear HO358; clear HO361; clear HO365; clear HO368; clear HO373; clear HB; have HO_0 := n0_; have HO_1 := n1_; have HO_14 := n2_; have HO_16 := n3_; have HO358 := n4_; have HO361 := n5_; have HO365 := n6_; have HO368 := n7_; have HO373 := n8_; have HO377 := n9_; have HB := n10_; clear n0_ n1_ n2_ n3_ n4_ n5_ n6_ n7_ n8_ n9_ n10_; (try clear hb); (try clear hb2); (try clear hk); (try clear hi); (try clear hge); (try clear ho0))); go_upto_region 21 with (first | ((with_reducible refine gate_dst (N := 96) rfl ?_); (try (refine gate_guard (by rfl) ?_; dsimp only)); have hvq50 : Kd.AllV (Kd.int .u8) 5 wr w.heap.size (fun k_ => ((P0_ k_ ∨ P1_ k_) ∨ w.heap.size ≤ k_)) [.slice A1 x1_2.length c1, .slice Ao29 x16_23.length co29, .slice Ao28 y354.length co28, .slice Ao28 t339.length co28] ([x1_2, x16_23, y354, t339] : List (List Int)) := ⟨by (with_reducible repeat (first | apply Kd.V_alloc | apply Kd.V_drewN | apply Kd.V_drew)); exact HO_1.out, by (with_reducible repeat (first | apply Kd.V_alloc | apply Kd.V_drewN | apply Kd.V_drew)); exact HO_16.out, by (with_reducible repeat (first | apply Kd.V_alloc | apply Kd.V_drewN | apply Kd.V_drew)); exact HO358.out, by (with_reducible repeat (first | apply Kd.V_alloc | apply Kd.V_drewN | apply Kd.V_drew)); exact HO_14.out, trivial⟩; obtain ⟨v360, hqq50⟩ : ∃ v_, ([.slice A1 x1_2.length c1, .slice Ao29 x16_23.length co29, .slice Ao28 y354.length co28, .slice Ao28 t339.length co28] : List Value).getD (x17_5).toNat undef = v_ := ⟨_, rfl⟩; have hoq50 : Kd.V (Kd.int .u8) 5 wr w.heap.size (fun k_ => ((P0_ k_ ∨ P1_ k_) ∨ w.heap.size ≤ k_)) v360 y359 := (by rw [← hqq50, Ny359.out]; exact Kd.AllV_get _ _ _ hvq50 jlq50); refine Kd.event_run (v := v360) rfl (by rw [← hqq50]; first | done | exact pick_run (by rfl) (by rfl) Try.underlying26 jlq50) ?_; clear hvq50 hqq50; obtain ⟨Apq50_, cpq50_, epq50_⟩ := Kd.V_slice hoq50; subst epq50_; have HO361 := Aside0.mk hoq50; clear hoq50) | (go_at_call 24; (with_reducible refine (unit_Parse.calls k5 _ _ y359 t362 t363 _ ?side1 ?side2 A44.out).mono ?_); (case side1 => repeat (first | exact (Kd.V_reads' HO361.out).2.2 | (with_reducible refine Kd.C_alloc ?_ _) | (with_reducible refine Kd.C_drewN ?_ _) | (with_reducible refine Kd.C_drew ?_))); (case side2 => exact (Kd.V_reads' HO361.out).2.1); rintro e w52 ⟨v364, rfl, ho0, hb⟩; have n0_ := Aside0.mk (Kd.V_elder' (by (with_reducible repeat (first | apply Kd.V_alloc | apply Kd.V_drewN | apply Kd.V_drew)); exact HO_0.out) (Kd.N_base (Kd.S_N (Kd.S_bound ho0))) hb); have n1_ := Aside0.mk (Kd.V_elder' (by (with_reducible repeat (first | apply Kd.V_alloc | apply Kd.V_drewN | apply Kd.V_drew)); exact HO_1.out) (Kd.N_base (Kd.S_N (Kd.S_bound ho0))) hb); have n2_ := Aside0.mk (Kd.V_elder' (by (with_reducible repeat (first | apply Kd.V_alloc | apply Kd.V_drewN | apply Kd.V_drew)); exact HO_14.out) (Kd.N_base (Kd.S_N (Kd.S_bound ho0))) hb); have n3_ := Aside0.mk (Kd.V_elder' (by (with_reducible repeat (first | apply Kd.V_alloc | apply Kd.V_drewN | apply Kd.V_drew)); exact HO_16.out) (Kd.N_base (Kd.S_N (Kd.S_bound ho0))) hb); have n4_ := Aside0.mk (Kd.V_elder' (by (with_reducible repeat (first | apply Kd.V_alloc | apply Kd.V_drewN | apply Kd.V_drew)); exact HO358.out) (Kd.N_base (Kd.S_N (Kd.S_bound ho0))) hb); have n5_ := Aside0.mk (Kd.V_elder' (by (with_reducible repeat (first | apply Kd.V_alloc | apply Kd.V_drewN | apply Kd.V_drew)); exact HO361.out) (Kd.N_base (Kd.S_N (Kd.S_bound ho0))) hb); have n6_ := Aside0.mk (Kd.N_lower (Kd.N_mono (ok' := fun k_ => ((P0_ k_ ∨ P1_ k_) ∨ w.heap.size ≤ k_)) (Kd.S_N (Kd.S_bound ho0)) (fun k_ hk_ => (.inr (Nat.le_trans (below_size (by repeat (first | (with_reducible first | exact HB.out | apply below_alloc | apply pw_below_drewN | apply below_drew1) | exact HB.out))) hk_.2.1)))) (below_size (by repeat (first | (with_reducible first | exact HB.out | apply below_alloc | apply pw_below_drewN | apply below_drew1) | exact HB.out)))); have n7_ := Aside0.mk (below_step (by repeat (first | (with_reducible first | exact HB.out | apply below_alloc | apply pw_below_drewN | apply below_drew1) | exact HB.out)) hb); clear HO_0; clear HO_1; clear HO_14; clear HO_16; clear HO358; clear HO361; clear HB; have HO_0 := n0_; have HO_1 := n1_; have HO_14 := n2_; have HO_16 := n3_; have HO358 := n4_; have HO361 := n5_; have HO365 := n6_; have HB := n7_; clear n0_ n1_ n2_ n3_ n4_ n5_ n6_ n7_; (try clear hb); (try clear hb2); (try clear hk); (try clear hi); (try clear hge); (try clear ho0)) | (go_at_call 25; (with_reducible refine (waybillref7_Ops.calls k5 (fun k_ => (((P0_ k_ ∨ P1_ k_) ∨ w.heap.size ≤ k_) ∧ some k_ ≠ (v364 : Value).ownBlock)) _ _ y359 t366 t369 _ ?side1 A45.out).mono ?_); (case side1 => exact HO361.out); rintro e w53 ⟨v367, rfl, ho0, hb⟩; have n0_ := Aside0.mk (Kd.V_elder' (by (with_reducible repeat (first | apply Kd.V_alloc | apply Kd.V_drewN | apply Kd.V_drew)); exact HO_0.out) (Kd.N_base ho0) hb); have n1_ := Aside0.mk (Kd.V_elder' (by (with_reducible repeat (first | apply Kd.V_alloc | apply Kd.V_drewN | apply Kd.V_drew)); exact HO_1.out) (Kd.N_base ho0) hb); have n2_ := Aside0.mk (Kd.V_elder' (by (with_reducible repeat (first | apply Kd.V_alloc | apply Kd.V_drewN | apply Kd.V_drew)); exact HO_14.out) (Kd.N_base ho0) hb); have n3_ := Aside0.mk (Kd.V_elder' (by (with_reducible repeat (first | apply Kd.V_alloc | apply Kd.V_drewN | apply Kd.V_drew)); exact HO_16.out) (Kd.N_base ho0) hb); have n4_ := Aside0.mk (Kd.V_elder' (by (with_reducible repeat (first | apply Kd.V_alloc | apply Kd.V_drewN | apply Kd.V_drew)); exact HO358.out) (Kd.N_base ho0) hb); have n5_ := Aside0.mk (Kd.V_elder' (by (with_reducible repeat (first | apply Kd.V_alloc | apply Kd.V_drewN | apply Kd.V_drew)); exact HO361.out) (Kd.N_base ho0) hb); have n6_ := Aside0.mk (Kd.N_elder' (by (with_reducible repeat (first | apply Kd.N_alloc | apply Kd.N_drewN | apply Kd.N_drew)); exact HO365.out) (Kd.N_base ho0) hb); have n7_ := Aside0.mk (Kd.N_lower (Kd.N_mono (ok' := fun k_ => ((P0_ k_ ∨ P1_ k_) ∨ w.heap.size ≤ k_) ∧ some k_ ≠ (v364 : Value).ownBlock) ho0 (fun k_ hk_ => ⟨Or.elim hk_ (fun hs_ => hs_.1) (fun hn_ => (.inr (Nat.le_trans (below_size (by repeat (first | (with_reducible first | exact HB.out | apply below_alloc | apply pw_below_drewN | apply below_drew1) | exact HB.out))) hn_))), Or.elim hk_ (fun hs_ => hs_.2) (fun hn_ => (Kd.fresh' (Kd.N_lt (by (with_reducible repeat (first | apply Kd.N_alloc | apply Kd.N_drewN | apply Kd.N_drew)); exact HO365.out)) k_ hn_))⟩)) (below_size (by repeat (first | (with_reducible first | exact HB.out | apply below_alloc | apply pw_below_drewN | apply below_drew1) | exact HB.out)))); have n8_ := Aside0.mk (below_step (by repeat (first | (with_reducible first | exact HB.out | apply below_alloc | apply pw_below_drewN | apply below_drew1) | exact HB.out)) hb); clear HO_0; clear HO_1; clear HO_14; clear HO_16; clear HO358; clear HO361; clear HO365; clear HB; have HO_0 := n0_; have HO_1 := n1_; have HO_14 := n2_; have HO_16 := n3_; have HO358 := n4_; have HO361 := n5_; have HO365 := n6_; have HO368 := n7_; have HB := n8_; clear n0_ n1_ n2_ n3_ n4_ n5_ n6_ n7_ n8_; (try clear hb); (try clear hb2); (try clear hk); (try clear hi); (try clear hge); (try clear ho0)) | (go_at_call 26; (with_reducible refine (unit_Places.calls k5 _ _ y359 t370 t371 _ ?side1 ?side2 A46.out).mono ?_); (case side1 => repeat (first | exact (Kd.V_reads' HO361.out).2.2 | (with_reducible refine Kd.C_alloc ?_ _) | (with_reducible refine Kd.C_drewN ?_ _) | (with_reducible refine Kd.C_drew ?_))); (case side2 => exact (Kd.V_reads' HO361.out).2.1); rintro e w54 ⟨v372, rfl, ho0, hb⟩; have n0_ := Aside0.mk (Kd.V_elder' (by (with_reducible repeat (first | apply Kd.V_alloc | apply Kd.V_drewN | apply Kd.V_drew)); exact HO_0.out) (Kd.R_base ho0) hb); have n1_ := Aside0.mk (Kd.V_elder' (by (with_reducible repeat (first | apply Kd.V_alloc | apply Kd.V_drewN | apply Kd.V_drew)); exact HO_1.out) (Kd.R_base ho0) hb); have n2_ := Aside0.mk (Kd.V_elder' (by (with_reducible repeat (first | apply Kd.V_alloc | apply Kd.V_drewN | apply Kd.V_drew)); exact HO_14.out) (Kd.R_base ho0) hb); have n3_ := Aside0.mk (Kd.V_elder' (by (with_reducible repeat (first | apply Kd.V_alloc | apply Kd.V_drewN | apply Kd.V_drew)); exact HO_16.out) (Kd.R_base ho0) hb); have n4_ := Aside0.mk (Kd.V_elder' (by (with_reducible repeat (first | apply Kd.V_alloc | apply Kd.V_drewN | apply Kd.V_drew)); exact HO358.out) (Kd.R_base ho0) hb); have n5_ := Aside0.mk (Kd.V_elder' (by (with_reducible repeat (first | apply Kd.V_alloc | apply Kd.V_drewN | apply Kd.V_drew)); exact HO361.out) (Kd.R_base ho0) hb); have n6_ := Aside0.mk (Kd.N_elder' (by (with_reducible repeat (first | apply Kd.N_alloc | apply Kd.N_drewN | apply Kd.N_drew)); exact HO365.out) (Kd.R_base ho0) hb); have n7_ := Aside0.mk (Kd.N_elder' (by (with_reducible repeat (first | apply Kd.N_alloc | apply Kd.N_drewN | apply Kd.N_drew)); exact HO368.out) (Kd.R_base ho0) hb); have n8_ := Aside0.mk (Kd.R_lower (Kd.R_newM (M := fun k_ => (w.heap.size ≤ k_)) ho0 (below_size (by repeat (first | (with_reducible first | exact HB.out | apply below_alloc | apply pw_below_drewN | apply below_drew1) | exact HB.out))) (fun k_ h_ => h_)) (below_size (by repeat (first | (with_reducible first | exact HB.out | apply below_alloc | apply pw_below_drewN | apply below_drew1) | exact HB.out)))); have n9_ := Aside0.mk (below_step (by repeat (first | (with_reducible first | exact HB.out | apply below_alloc | apply pw_below_drewN | apply below_drew1) | exact HB.out)) hb); clear HO_0; clear HO_1; clear HO_14; clear HO_16; clear HO358; clear HO361; clear HO365; clear HO368; clear HB; have HO_0 := n0_; have HO_1 := n1_; have HO_14 := n2_; have HO_16 := n3_; have HO358 := n4_; have HO361 := n5_; have HO365 := n6_; have HO368 := n7_; have HO373 := n8_; have HB := n9_; clear n0_ n1_ n2_ n3_ n4_ n5_ n6_ n7_ n8_ n9_; (try clear hb); (try clear hb2); (try clear hk); (try clear hi); (try clear hge); (try clear ho0)) | (go_at_call 27; (with_reducible refine (waybillref7_Places.calls k5 _ _ y359 t374 t375 _ ?side1 ?side2 A47.out).mono ?_); (case side1 => repeat (first | exact (Kd.V_reads' HO361.out).2.2 | (with_reducible refine Kd.C_alloc ?_ _) | (with_reducible refine Kd.C_drewN ?_ _) | (with_reducible refine Kd.C_drew ?_))); (case side2 => exact (Kd.V_reads' HO361.out).2.1); rintro e w55 ⟨v376, rfl, ho0, hb⟩; have n0_ := Aside0.mk (Kd.V_elder' (by (with_reducible repeat (first | apply Kd.V_alloc | apply Kd.V_drewN | apply Kd.V_drew)); exact HO_0.out) (Kd.R_base ho0) hb); have n1_ := Aside0.mk (Kd.V_elder' (by (with_reducible repeat (first | apply Kd.V_alloc | apply Kd.V_drewN | apply Kd.V_drew)); exact HO_1.out) (Kd.R_base ho0) hb); have n2_ := Aside0.mk (Kd.V_elder' (by (with_reducible repeat (first | apply Kd.V_alloc | apply Kd.V_drewN | apply Kd.V_drew)); exact HO_14.out) (Kd.R_base ho0) hb); have n3_ := Aside0.mk (Kd.V_elder' (by (with_reducible repeat (first | apply Kd.V_alloc | apply Kd.V_drewN | apply Kd.V_drew)); exact HO_16.out) (Kd.R_base ho0) hb); have n4_ := Aside0.mk (Kd.V_elder' (by (with_reducible repeat (first | apply Kd.V_alloc | apply Kd.V_drewN | apply Kd.V_drew)); exact HO358.out) (Kd.R_base ho0) hb); have n5_ := Aside0.mk (Kd.V_elder' (by (with_reducible repeat (first | apply Kd.V_alloc | apply Kd.V_drewN | apply Kd.V_drew)); exact HO361.out) (Kd.R_base ho0) hb); have n6_ := Aside0.mk (Kd.N_elder' (by (with_reducible repeat (first | apply Kd.N_alloc | apply Kd.N_drewN | apply Kd.N_drew)); exact HO365.out) (Kd.R_base ho0) hb); have n7_ := Aside0.mk (Kd.N_elder' (by (with_reducible repeat (first | apply Kd.N_alloc | apply Kd.N_drewN | apply Kd.N_drew)); exact HO368.out) (Kd.R_base ho0) hb); have n8_ := Aside0.mk (Kd.R_elder' (by (with_reducible repeat (first | apply Kd.R_alloc | apply Kd.R_drewN | apply Kd.R_drew)); exact HO373.out) (Kd.R_base ho0) hb); have n9_ := Aside0.mk (Kd.R_lower (Kd.R_new' (Kd.R_newM (M := fun k_ => (w.heap.size ≤ k_)) ho0 (below_size (by repeat (first | (with_reducible first | exact HB.out | apply below_alloc | apply pw_below_drewN | apply below_drew1) | exact HB.out))) (fun k_ h_ => h_)) (Kd.R_lt (by (with_reducible repeat (first | apply Kd.R_alloc | apply Kd.R_drewN | apply Kd.R_drew)); exact HO373.out))) (below_size (by repeat (first | (with_reducible first | exact HB.out | apply below_alloc | apply pw_below_drewN | apply below_drew1) | exact HB.out)))); have n10_ := Aside0.mk (below_step (by repeat (first | (with_reducible first | exact HB.out | apply below_alloc | apply pw_below_drewN | apply below_drew1) | exact HB.out)) hb); clear HO_0; clear HO_1; clear HO_14; clear HO_16; clear HO358; clear HO361; clear HO365; clear HO368; clear HO373; clear HB; have HO_0 := n0_; have HO_1 := n1_; have HO_14 := n2_; have HO_16 := n3_; have HO358 := n4_; have HO361 := n5_; have HO365 := n6_; have HO368 := n7_; have HO373 := n8_; have HO377 := n9_; have HB := n10_; clear n0_ n1_ n2_ n3_ n4_ n5_ n6_ n7_ n8_ n9_ n10_; (try clear hb); (try clear hb2); (try clear hk); (try clear hi); (try clear hge); (try clear ho0))))
                                        (try simp only [Act.put, List.setIfInBounds_toArray, List.set_cons_zero, List.set_cons_succ])
                                        go_cut [137] (fun v137 wc => ∃ (kq : Nat) (x137_47 : Bool), v137 = .bool x137_47 ∧ Aside0 (waybilllaw13_UnitTells.j5 kq x0_2 x1_2 a2 a3 a4 x11_2 t339 x16_23 x17_5 t370 t374 x137_47 = some r) ∧ Aside0 (kq ≤ k5) ∧ Aside0 (Kd.V k38 38 wc w.heap.size (fun k_ => ((P0_ k_ ∨ P1_ k_) ∨ w.heap.size ≤ k_) ∧ some k_ ≠ (v372 : Value).ownBlock ∧ some k_ ≠ (v376 : Value).ownBlock) (.slice Ao16 x0_2.length co16) x0_2) ∧ Aside0 (Kd.V (Kd.int .u8) 5 wc w.heap.size (fun k_ => ((P0_ k_ ∨ P1_ k_) ∨ w.heap.size ≤ k_) ∧ some k_ ≠ (v372 : Value).ownBlock ∧ some k_ ≠ (v376 : Value).ownBlock) (.slice A1 x1_2.length c1) x1_2) ∧ Aside0 (Kd.V (Kd.int .u8) 5 wc w.heap.size (fun k_ => ((P0_ k_ ∨ P1_ k_) ∨ w.heap.size ≤ k_) ∧ some k_ ≠ (v372 : Value).ownBlock ∧ some k_ ≠ (v376 : Value).ownBlock) (.slice Ao28 t339.length co28) t339) ∧ Aside0 (Kd.V (Kd.int .u8) 5 wc w.heap.size (fun k_ => ((P0_ k_ ∨ P1_ k_) ∨ w.heap.size ≤ k_) ∧ some k_ ≠ (v372 : Value).ownBlock ∧ some k_ ≠ (v376 : Value).ownBlock) (.slice Ao29 x16_23.length co29) x16_23) ∧ Aside0 (Kd.R k51 51 wc w.heap.size (fun k_ => (w.heap.size ≤ k_) ∧ some k_ ≠ (v376 : Value).ownBlock) v372 t370) ∧ Aside0 (Kd.R k51 51 wc w.heap.size (fun k_ => (w.heap.size ≤ k_) ∧ some k_ ≠ (v372 : Value).ownBlock) v376 t374) ∧ Aside0 (Below w.heap.size w wc))
                                        case first =>
                                          have H := HC48.out
                                          clear HC48
                                          by_cases c56 : (t363 != t369) = true
                                          · rw [if_pos c56] at H
                                            have c56b0 : (t363 != t369) = true := c56
                                            (try (have c56b1 : decide (t363 = t369) = false := by simpa using c56))
                                            (try (have c56b2 : (t363 == t369) = false := by simpa using c56))
                                            (try (have c56b3 : ¬ (t363 = t369) := by simpa using c56))
                                            clear c56
                                            (first | rw [c56b0] | rw [c56b2] | rw [c56b1] | (simp only [i64_w, i32_w]; rw [c56b0]) | skip)
                                            have H' := Aside0.mk H
                                            clear H
                                            go_wp2
                                            repeat (go_quiet (fail); try go_wp2)
                                            go_meet
                                            case rel => exact ⟨_, (true), (by first | rfl | (simp; done) | (simp [*]; done)), H', ⟨by have := HJ5.out; have := HK2.out; have := HJ14.out; have := HJ23.out; have := HK5.out; first | omega | exact Nat.le_refl _⟩, ⟨by (try simp only [hl1_2]); (try simp only [hl16_23]); (with_reducible repeat (first | apply Kd.V_alloc | apply Kd.V_drewN | apply Kd.V_drew)); exact Kd.V_mono HO_0.out (fun _ hk => ⟨hk.1.1.1.1, ⟨hk.1.2, hk.2⟩⟩)⟩, ⟨by (try simp only [hl1_2]); (try simp only [hl16_23]); (with_reducible repeat (first | apply Kd.V_alloc | apply Kd.V_drewN | apply Kd.V_drew)); exact Kd.V_mono HO_1.out (fun _ hk => ⟨hk.1.1.1.1, ⟨hk.1.2, hk.2⟩⟩)⟩, ⟨by (try simp only [hl1_2]); (try simp only [hl16_23]); (with_reducible repeat (first | apply Kd.V_alloc | apply Kd.V_drewN | apply Kd.V_drew)); exact Kd.V_mono HO_14.out (fun _ hk => ⟨hk.1.1.1.1, ⟨hk.1.2, hk.2⟩⟩)⟩, ⟨by (try simp only [hl1_2]); (try simp only [hl16_23]); (with_reducible repeat (first | apply Kd.V_alloc | apply Kd.V_drewN | apply Kd.V_drew)); exact Kd.V_mono HO_16.out (fun _ hk => ⟨hk.1.1.1.1, ⟨hk.1.2, hk.2⟩⟩)⟩, ⟨by (try simp only [hl1_2]); (try simp only [hl16_23]); (with_reducible repeat (first | apply Kd.R_alloc | apply Kd.R_drewN | apply Kd.R_drew)); exact Kd.R_mono HO373.out (fun _ hk => ⟨hk.1.1, hk.2⟩)⟩, ⟨by (try simp only [hl1_2]); (try simp only [hl16_23]); (with_reducible repeat (first | apply Kd.R_alloc | apply Kd.R_drewN | apply Kd.R_drew)); exact Kd.R_mono HO377.out (fun _ hk => ⟨hk.1.1, hk.2⟩)⟩, ⟨by repeat (first | (with_reducible first | exact HB.out | apply below_alloc | apply pw_below_drewN | apply below_drew1) | exact HB.out)⟩⟩
                                          · rw [if_neg c56] at H
                                            have c56b0 : (t363 != t369) = false := by simpa using c56
                                            (try (have c56b1 : decide (t363 = t369) = true := by simpa using c56))
                                            (try (have c56b2 : (t363 == t369) = true := by simpa using c56))
                                            clear c56
                                            (first | rw [c56b0] | rw [c56b2] | rw [c56b1] | (simp only [i64_w, i32_w]; rw [c56b0]) | skip)
                                            by_cases c57 : (t371 != t375) = true
                                            · rw [if_pos c57] at H
                                              have c57b0 : (t371 != t375) = true := c57
                                              (try (have c57b1 : decide (t371 = t375) = false := by simpa using c57))
                                              (try (have c57b2 : (t371 == t375) = false := by simpa using c57))
                                              (try (have c57b3 : ¬ (t371 = t375) := by simpa using c57))
                                              clear c57
                                              have H' := Aside0.mk H
                                              clear H
                                              go_wp2
                                              repeat (go_quiet (fail); try go_wp2)
                                              go_meet
                                              case rel => exact ⟨_, (true), (by first | rfl | (simp; done) | (simp [*]; done)), H', ⟨by have := HJ5.out; have := HK2.out; have := HJ14.out; have := HJ23.out; have := HK5.out; first | omega | exact Nat.le_refl _⟩, ⟨by (try simp only [hl1_2]); (try simp only [hl16_23]); (with_reducible repeat (first | apply Kd.V_alloc | apply Kd.V_drewN | apply Kd.V_drew)); exact Kd.V_mono HO_0.out (fun _ hk => ⟨hk.1.1.1.1, ⟨hk.1.2, hk.2⟩⟩)⟩, ⟨by (try simp only [hl1_2]); (try simp only [hl16_23]); (with_reducible repeat (first | apply Kd.V_alloc | apply Kd.V_drewN | apply Kd.V_drew)); exact Kd.V_mono HO_1.out (fun _ hk => ⟨hk.1.1.1.1, ⟨hk.1.2, hk.2⟩⟩)⟩, ⟨by (try simp only [hl1_2]); (try simp only [hl16_23]); (with_reducible repeat (first | apply Kd.V_alloc | apply Kd.V_drewN | apply Kd.V_drew)); exact Kd.V_mono HO_14.out (fun _ hk => ⟨hk.1.1.1.1, ⟨hk.1.2, hk.2⟩⟩)⟩, ⟨by (try simp only [hl1_2]); (try simp only [hl16_23]); (with_reducible repeat (first | apply Kd.V_alloc | apply Kd.V_drewN | apply Kd.V_drew)); exact Kd.V_mono HO_16.out (fun _ hk => ⟨hk.1.1.1.1, ⟨hk.1.2, hk.2⟩⟩)⟩, ⟨by (try simp only [hl1_2]); (try simp only [hl16_23]); (with_reducible repeat (first | apply Kd.R_alloc | apply Kd.R_drewN | apply Kd.R_drew)); exact Kd.R_mono HO373.out (fun _ hk => ⟨hk.1.1, hk.2⟩)⟩, ⟨by (try simp only [hl1_2]); (try simp only [hl16_23]); (with_reducible repeat (first | apply Kd.R_alloc | apply Kd.R_drewN | apply Kd.R_drew)); exact Kd.R_mono HO377.out (fun _ hk => ⟨hk.1.1, hk.2⟩)⟩, ⟨by repeat (first | (with_reducible first | exact HB.out | apply below_alloc | apply pw_below_drewN | apply below_drew1) | exact HB.out)⟩⟩
                                            · rw [if_neg c57] at H
                                              have c57b0 : (t371 != t375) = false := by simpa using c57
                                              (try (have c57b1 : decide (t371 = t375) = true := by simpa using c57))
                                              (try (have c57b2 : (t371 == t375) = true := by simpa using c57))
                                              clear c57
                                              replace H := Option.bind_eq_some_iff.mp H
                                              obtain ⟨t378, A580, H⟩ := H
                                              replace H : (if t378 = true then (waybilllaw13_UnitTells.j5 k5 x0_2 x1_2 a2 a3 a4 x11_2 t339 x16_23 x17_5 t370 t374 ((t370.length : Int) != (t374.length : Int))) else (waybilllaw13_UnitTells.j5 k5 x0_2 x1_2 a2 a3 a4 x11_2 t339 x16_23 x17_5 t370 t374 true)) = some r := H
                                              have A58 := Aside0.mk A580
                                              clear A580
                                              by_cases c59 : t378 = true
                                              · subst c59
                                                have H1 : (waybilllaw13_UnitTells.j5 k5 x0_2 x1_2 a2 a3 a4 x11_2 t339 x16_23 x17_5 t370 t374 ((t370.length : Int) != (t374.length : Int))) = some r := by rw [if_pos rfl] at H; exact H
                                                clear H
                                                have H := H1
                                                clear H1
                                                have H' := Aside0.mk H
                                                clear H
                                                obtain ⟨Ao60, co60, eo60⟩ := Kd.N_slice HO365.out
                                                subst eo60
                                                obtain ⟨Ao61, co61, eo61⟩ := Kd.N_slice HO368.out
                                                subst eo61
                                                go_wp2_with (first | (go_at_call 28; (with_reducible refine (waybillref16_SameOps.calls k5 _ _ t362 _ _ t366 true _ ?side1 ?side2 ?side3 ?side4 A58.out).mono ?_); (case side1 => repeat (first | exact (Kd.N_reads' HO365.out).2.2 | (with_reducible refine Kd.C_alloc ?_ _) | (with_reducible refine Kd.C_drewN ?_ _) | (with_reducible refine Kd.C_drew ?_))); (case side2 => exact (Kd.N_reads' HO365.out).2.1); (case side3 => repeat (first | exact (Kd.N_reads' HO368.out).2.2 | (with_reducible refine Kd.C_alloc ?_ _) | (with_reducible refine Kd.C_drewN ?_ _) | (with_reducible refine Kd.C_drew ?_))); (case side4 => exact (Kd.N_reads' HO368.out).2.1); rintro e w' ⟨rfl, ⟨nd, rfl⟩⟩; (try first | exact ⟨rfl, _, World.drewN_drewN _ _ _⟩ | exact ⟨rfl, _, Eq.trans (World.drewN_drewN _ _ _) (congrArg (World.drewN _) (Nat.add_assoc _ _ _))⟩); obtain ⟨Ao62, co62, eo62⟩ := Kd.R_slice HO373.out; subst eo62; obtain ⟨Ao63, co63, eo63⟩ := Kd.R_slice HO377.out; subst eo63))
                                                repeat (go_quiet (first | (go_at_call 28; (with_reducible refine (waybillref16_SameOps.calls k5 _ _ t362 _ _ t366 true _ ?side1 ?side2 ?side3 ?side4 A58.out).mono ?_); (case side1 => repeat (first | exact (Kd.N_reads' HO365.out).2.2 | (with_reducible refine Kd.C_alloc ?_ _) | (with_reducible refine Kd.C_drewN ?_ _) | (with_reducible refine Kd.C_drew ?_))); (case side2 => exact (Kd.N_reads' HO365.out).2.1); (case side3 => repeat (first | exact (Kd.N_reads' HO368.out).2.2 | (with_reducible refine Kd.C_alloc ?_ _) | (with_reducible refine Kd.C_drewN ?_ _) | (with_reducible refine Kd.C_drew ?_))); (case side4 => exact (Kd.N_reads' HO368.out).2.1); rintro e w' ⟨rfl, ⟨nd, rfl⟩⟩; (try first | exact ⟨rfl, _, World.drewN_drewN _ _ _⟩ | exact ⟨rfl, _, Eq.trans (World.drewN_drewN _ _ _) (congrArg (World.drewN _) (Nat.add_assoc _ _ _))⟩); obtain ⟨Ao62, co62, eo62⟩ := Kd.R_slice HO373.out; subst eo62; obtain ⟨Ao63, co63, eo63⟩ := Kd.R_slice HO377.out; subst eo63)); try go_wp2_with (first | (go_at_call 28; (with_reducible refine (waybillref16_SameOps.calls k5 _ _ t362 _ _ t366 true _ ?side1 ?side2 ?side3 ?side4 A58.out).mono ?_); (case side1 => repeat (first | exact (Kd.N_reads' HO365.out).2.2 | (with_reducible refine Kd.C_alloc ?_ _) | (with_reducible refine Kd.C_drewN ?_ _) | (with_reducible refine Kd.C_drew ?_))); (case side2 => exact (Kd.N_reads' HO365.out).2.1); (case side3 => repeat (first | exact (Kd.N_reads' HO368.out).2.2 | (with_reducible refine Kd.C_alloc ?_ _) | (with_reducible refine Kd.C_drewN ?_ _) | (with_reducible refine Kd.C_drew ?_))); (case side4 => exact (Kd.N_reads' HO368.out).2.1); rintro e w' ⟨rfl, ⟨nd, rfl⟩⟩; (try first | exact ⟨rfl, _, World.drewN_drewN _ _ _⟩ | exact ⟨rfl, _, Eq.trans (World.drewN_drewN _ _ _) (congrArg (World.drewN _) (Nat.add_assoc _ _ _))⟩); obtain ⟨Ao62, co62, eo62⟩ := Kd.R_slice HO373.out; subst eo62; obtain ⟨Ao63, co63, eo63⟩ := Kd.R_slice HO377.out; subst eo63)))
                                                go_meet
                                                case rel => exact ⟨_, (((t370.length : Int) != (t374.length : Int))), (by first | rfl | (simp; done) | (simp [*]; done)), H', ⟨by have := HJ5.out; have := HK2.out; have := HJ14.out; have := HJ23.out; have := HK5.out; first | omega | exact Nat.le_refl _⟩, ⟨by (try simp only [hl1_2]); (try simp only [hl16_23]); (with_reducible repeat (first | apply Kd.V_alloc | apply Kd.V_drewN | apply Kd.V_drew)); exact Kd.V_mono HO_0.out (fun _ hk => ⟨hk.1.1.1.1, ⟨hk.1.2, hk.2⟩⟩)⟩, ⟨by (try simp only [hl1_2]); (try simp only [hl16_23]); (with_reducible repeat (first | apply Kd.V_alloc | apply Kd.V_drewN | apply Kd.V_drew)); exact Kd.V_mono HO_1.out (fun _ hk => ⟨hk.1.1.1.1, ⟨hk.1.2, hk.2⟩⟩)⟩, ⟨by (try simp only [hl1_2]); (try simp only [hl16_23]); (with_reducible repeat (first | apply Kd.V_alloc | apply Kd.V_drewN | apply Kd.V_drew)); exact Kd.V_mono HO_14.out (fun _ hk => ⟨hk.1.1.1.1, ⟨hk.1.2, hk.2⟩⟩)⟩, ⟨by (try simp only [hl1_2]); (try simp only [hl16_23]); (with_reducible repeat (first | apply Kd.V_alloc | apply Kd.V_drewN | apply Kd.V_drew)); exact Kd.V_mono HO_16.out (fun _ hk => ⟨hk.1.1.1.1, ⟨hk.1.2, hk.2⟩⟩)⟩, ⟨by (try simp only [hl1_2]); (try simp only [hl16_23]); (with_reducible repeat (first | apply Kd.R_alloc | apply Kd.R_drewN | apply Kd.R_drew)); exact Kd.R_mono HO373.out (fun _ hk => ⟨hk.1.1, hk.2⟩)⟩, ⟨by (try simp only [hl1_2]); (try simp only [hl16_23]); (with_reducible repeat (first | apply Kd.R_alloc | apply Kd.R_drewN | apply Kd.R_drew)); exact Kd.R_mono HO377.out (fun _ hk => ⟨hk.1.1, hk.2⟩)⟩, ⟨by repeat (first | (with_reducible first | exact HB.out | apply below_alloc | apply pw_below_drewN | apply below_drew1) | exact HB.out)⟩⟩
                                              · replace c59 := Bool.eq_false_iff.mpr c59
                                                subst c59
                                                have H1 : (waybilllaw13_UnitTells.j5 k5 x0_2 x1_2 a2 a3 a4 x11_2 t339 x16_23 x17_5 t370 t374 true) = some r := by rw [if_neg (show ¬ (false = true) by decide)] at H; exact H
                                                clear H
                                                have H := H1
                                                clear H1
                                                have H' := Aside0.mk H
                                                clear H
                                                obtain ⟨Ao64, co64, eo64⟩ := Kd.N_slice HO365.out
                                                subst eo64
                                                obtain ⟨Ao65, co65, eo65⟩ := Kd.N_slice HO368.out
                                                subst eo65
                                                go_wp2_with (first | (go_at_call 28; (with_reducible refine (waybillref16_SameOps.calls k5 _ _ t362 _ _ t366 false _ ?side1 ?side2 ?side3 ?side4 A58.out).mono ?_); (case side1 => repeat (first | exact (Kd.N_reads' HO365.out).2.2 | (with_reducible refine Kd.C_alloc ?_ _) | (with_reducible refine Kd.C_drewN ?_ _) | (with_reducible refine Kd.C_drew ?_))); (case side2 => exact (Kd.N_reads' HO365.out).2.1); (case side3 => repeat (first | exact (Kd.N_reads' HO368.out).2.2 | (with_reducible refine Kd.C_alloc ?_ _) | (with_reducible refine Kd.C_drewN ?_ _) | (with_reducible refine Kd.C_drew ?_))); (case side4 => exact (Kd.N_reads' HO368.out).2.1); rintro e w' ⟨rfl, ⟨nd, rfl⟩⟩; (try first | exact ⟨rfl, _, World.drewN_drewN _ _ _⟩ | exact ⟨rfl, _, Eq.trans (World.drewN_drewN _ _ _) (congrArg (World.drewN _) (Nat.add_assoc _ _ _))⟩)))
                                                repeat (go_quiet (first | (go_at_call 28; (with_reducible refine (waybillref16_SameOps.calls k5 _ _ t362 _ _ t366 false _ ?side1 ?side2 ?side3 ?side4 A58.out).mono ?_); (case side1 => repeat (first | exact (Kd.N_reads' HO365.out).2.2 | (with_reducible refine Kd.C_alloc ?_ _) | (with_reducible refine Kd.C_drewN ?_ _) | (with_reducible refine Kd.C_drew ?_))); (case side2 => exact (Kd.N_reads' HO365.out).2.1); (case side3 => repeat (first | exact (Kd.N_reads' HO368.out).2.2 | (with_reducible refine Kd.C_alloc ?_ _) | (with_reducible refine Kd.C_drewN ?_ _) | (with_reducible refine Kd.C_drew ?_))); (case side4 => exact (Kd.N_reads' HO368.out).2.1); rintro e w' ⟨rfl, ⟨nd, rfl⟩⟩; (try first | exact ⟨rfl, _, World.drewN_drewN _ _ _⟩ | exact ⟨rfl, _, Eq.trans (World.drewN_drewN _ _ _) (congrArg (World.drewN _) (Nat.add_assoc _ _ _))⟩))); try go_wp2_with (first | (go_at_call 28; (with_reducible refine (waybillref16_SameOps.calls k5 _ _ t362 _ _ t366 false _ ?side1 ?side2 ?side3 ?side4 A58.out).mono ?_); (case side1 => repeat (first | exact (Kd.N_reads' HO365.out).2.2 | (with_reducible refine Kd.C_alloc ?_ _) | (with_reducible refine Kd.C_drewN ?_ _) | (with_reducible refine Kd.C_drew ?_))); (case side2 => exact (Kd.N_reads' HO365.out).2.1); (case side3 => repeat (first | exact (Kd.N_reads' HO368.out).2.2 | (with_reducible refine Kd.C_alloc ?_ _) | (with_reducible refine Kd.C_drewN ?_ _) | (with_reducible refine Kd.C_drew ?_))); (case side4 => exact (Kd.N_reads' HO368.out).2.1); rintro e w' ⟨rfl, ⟨nd, rfl⟩⟩; (try first | exact ⟨rfl, _, World.drewN_drewN _ _ _⟩ | exact ⟨rfl, _, Eq.trans (World.drewN_drewN _ _ _) (congrArg (World.drewN _) (Nat.add_assoc _ _ _))⟩))))
                                                go_meet
                                                case rel => exact ⟨_, (true), (by first | rfl | (simp; done) | (simp [*]; done)), H', ⟨by have := HJ5.out; have := HK2.out; have := HJ14.out; have := HJ23.out; have := HK5.out; first | omega | exact Nat.le_refl _⟩, ⟨by (try simp only [hl1_2]); (try simp only [hl16_23]); (with_reducible repeat (first | apply Kd.V_alloc | apply Kd.V_drewN | apply Kd.V_drew)); exact Kd.V_mono HO_0.out (fun _ hk => ⟨hk.1.1.1.1, ⟨hk.1.2, hk.2⟩⟩)⟩, ⟨by (try simp only [hl1_2]); (try simp only [hl16_23]); (with_reducible repeat (first | apply Kd.V_alloc | apply Kd.V_drewN | apply Kd.V_drew)); exact Kd.V_mono HO_1.out (fun _ hk => ⟨hk.1.1.1.1, ⟨hk.1.2, hk.2⟩⟩)⟩, ⟨by (try simp only [hl1_2]); (try simp only [hl16_23]); (with_reducible repeat (first | apply Kd.V_alloc | apply Kd.V_drewN | apply Kd.V_drew)); exact Kd.V_mono HO_14.out (fun _ hk => ⟨hk.1.1.1.1, ⟨hk.1.2, hk.2⟩⟩)⟩, ⟨by (try simp only [hl1_2]); (try simp only [hl16_23]); (with_reducible repeat (first | apply Kd.V_alloc | apply Kd.V_drewN | apply Kd.V_drew)); exact Kd.V_mono HO_16.out (fun _ hk => ⟨hk.1.1.1.1, ⟨hk.1.2, hk.2⟩⟩)⟩, ⟨by (try simp only [hl1_2]); (try simp only [hl16_23]); (with_reducible repeat (first | apply Kd.R_alloc | apply Kd.R_drewN | apply Kd.R_drew)); exact Kd.R_mono HO373.out (fun _ hk => ⟨hk.1.1, hk.2⟩)⟩, ⟨by (try simp only [hl1_2]); (try simp only [hl16_23]); (with_reducible repeat (first | apply Kd.R_alloc | apply Kd.R_drewN | apply Kd.R_drew)); exact Kd.R_mono HO377.out (fun _ hk => ⟨hk.1.1, hk.2⟩)⟩, ⟨by repeat (first | (with_reducible first | exact HB.out | apply below_alloc | apply pw_below_drewN | apply below_drew1) | exact HB.out)⟩⟩
                                        case rest =>
                                          clear HC48
                                          try clear c1
                                          try clear c2
                                          try clear p2
                                          try clear hcv2
                                          try clear c3
                                          try clear p3
                                          try clear q3
                                          try clear hx3
                                          try clear c4
                                          try clear q4
                                          try clear c5
                                          try clear q5
                                          try clear c6
                                          try clear p6
                                          try clear c8
                                          try clear c9
                                          try clear c12
                                          try clear c12b0
                                          try clear c19
                                          try clear c19b0
                                          try clear c19b1
                                          try clear c19b2
                                          try clear hcv20
                                          try clear hcv21
                                          try clear c22
                                          try clear c23
                                          try clear c30
                                          try clear c30b0
                                          try clear c30b1
                                          try clear c31
                                          try clear c31b0
                                          try clear c31b1
                                          try clear c31b2
                                          try clear c33
                                          try clear c33b0
                                          try clear c34
                                          try clear c34b0
                                          try clear p34
                                          try clear q34
                                          try clear hx34
                                          try clear p35
                                          try clear q35
                                          try clear hx35
                                          try clear hf35
                                          try clear c38
                                          try clear c38b0
                                          try clear c39
                                          try clear c39b0
                                          try clear c39b1
                                          try clear c41
                                          try clear c41b0
                                          try clear c41b1
                                          try clear c42
                                          try clear c42b0
                                          try clear c42b1
                                          try clear c43
                                          try clear c43b0
                                          try clear q49
                                          try clear q50
                                          try clear c56
                                          try clear c56b0
                                          try clear c56b1
                                          try clear c56b2
                                          try clear c57
                                          try clear c57b0
                                          try clear c57b1
                                          try clear c57b2
                                          try clear c59
                                          try clear p64
                                          try clear hcut49
                                          try clear hx349_0
                                          try clear hx35_0
                                          try clear p2
                                          try clear p3
                                          try clear p34
                                          try clear p349
                                          try clear p35
                                          try clear q3
                                          try clear q34
                                          try clear q349
                                          try clear q35
                                          try clear q49
                                          obtain ⟨kq, x137_47, rfl, HA, HJ47, HO_0, HO_1, HO_14, HO_16, HO_23, HO_25, HB⟩ := hcut
                                          cases kq with
                                          | zero => exact absurd HA.out (by simp [waybilllaw13_UnitTells.j5])
                                          | succ kj47 =>
                                            have H := HA.out
                                            clear HA
                                            simp only [waybilllaw13_UnitTells.j5] at H
                                            by_cases c66 : x137_47 = true
                                            · subst c66
                                              have H1 : (none) = some r := by rw [if_pos rfl] at H; exact H
                                              clear H
                                              have H := H1
                                              clear H1
                                              exact absurd H (by simp)
                                            · replace c66 := Bool.eq_false_iff.mpr c66
                                              subst c66
                                              have H1 : (waybilllaw13_UnitTells.l2 kj47 x0_2 x1_2 a2 a3 a4 x11_2 t339 x16_23 x17_5 t370 t374 0) = some r := by rw [if_neg (show ¬ (false = true) by decide)] at H; exact H
                                              clear H
                                              have H := H1
                                              clear H1
                                              have H' := Aside0.mk H
                                              clear H
                                              go_wp2
                                              repeat (go_quiet (fail); try go_wp2)
                                              go_loopg [27] kj47 (fun kq v27 w' => ∃ (x27_7 : Int), v27 = .int .i64 x27_7 ∧ Aside0 (waybilllaw13_UnitTells.l2 kq x0_2 x1_2 a2 a3 a4 x11_2 t339 x16_23 x17_5 t370 t374 x27_7 = some r) ∧ Aside0 (kq ≤ kj47) ∧ Aside0 (Kd.V k38 38 w' w.heap.size (fun k_ => ((P0_ k_ ∨ P1_ k_) ∨ w.heap.size ≤ k_) ∧ some k_ ≠ (v372 : Value).ownBlock ∧ some k_ ≠ (v376 : Value).ownBlock) (.slice Ao16 x0_2.length co16) x0_2) ∧ Aside0 (Kd.V (Kd.int .u8) 5 w' w.heap.size (fun k_ => ((P0_ k_ ∨ P1_ k_) ∨ w.heap.size ≤ k_) ∧ some k_ ≠ (v372 : Value).ownBlock ∧ some k_ ≠ (v376 : Value).ownBlock) (.slice A1 x1_2.length c1) x1_2) ∧ Aside0 (Kd.V (Kd.int .u8) 5 w' w.heap.size (fun k_ => ((P0_ k_ ∨ P1_ k_) ∨ w.heap.size ≤ k_) ∧ some k_ ≠ (v372 : Value).ownBlock ∧ some k_ ≠ (v376 : Value).ownBlock) (.slice Ao28 t339.length co28) t339) ∧ Aside0 (Kd.V (Kd.int .u8) 5 w' w.heap.size (fun k_ => ((P0_ k_ ∨ P1_ k_) ∨ w.heap.size ≤ k_) ∧ some k_ ≠ (v372 : Value).ownBlock ∧ some k_ ≠ (v376 : Value).ownBlock) (.slice Ao29 x16_23.length co29) x16_23) ∧ Aside0 (Kd.R k51 51 w' w.heap.size (fun k_ => (w.heap.size ≤ k_) ∧ some k_ ≠ (v376 : Value).ownBlock) v372 t370) ∧ Aside0 (Kd.R k51 51 w' w.heap.size (fun k_ => (w.heap.size ≤ k_) ∧ some k_ ≠ (v372 : Value).ownBlock) v376 t374) ∧ Aside0 (Below w.heap.size w w'))
                                              case atStart => exact ⟨(0), (by first | rfl | (simp; done) | (simp [*]; done)), H', ⟨Nat.le_refl _⟩, ⟨by (try simp only [hl1_2]); (try simp only [hl16_23]); (with_reducible repeat (first | apply Kd.V_alloc | apply Kd.V_drewN | apply Kd.V_drew)); exact HO_0.out⟩, ⟨by (try simp only [hl1_2]); (try simp only [hl16_23]); (with_reducible repeat (first | apply Kd.V_alloc | apply Kd.V_drewN | apply Kd.V_drew)); exact HO_1.out⟩, ⟨by (try simp only [hl1_2]); (try simp only [hl16_23]); (with_reducible repeat (first | apply Kd.V_alloc | apply Kd.V_drewN | apply Kd.V_drew)); exact HO_14.out⟩, ⟨by (try simp only [hl1_2]); (try simp only [hl16_23]); (with_reducible repeat (first | apply Kd.V_alloc | apply Kd.V_drewN | apply Kd.V_drew)); exact HO_16.out⟩, ⟨by (try simp only [hl1_2]); (try simp only [hl16_23]); (with_reducible repeat (first | apply Kd.R_alloc | apply Kd.R_drewN | apply Kd.R_drew)); exact HO_23.out⟩, ⟨by (try simp only [hl1_2]); (try simp only [hl16_23]); (with_reducible repeat (first | apply Kd.R_alloc | apply Kd.R_drewN | apply Kd.R_drew)); exact HO_25.out⟩, ⟨by repeat (first | (with_reducible first | exact HB.out | apply below_alloc | apply pw_below_drewN | apply below_drew1) | exact HB.out)⟩⟩
                                              case round =>
                                                clear H'
                                                try clear c1
                                                try clear c2
                                                try clear p2
                                                try clear hcv2
                                                try clear c3
                                                try clear p3
                                                try clear q3
                                                try clear hx3
                                                try clear c4
                                                try clear q4
                                                try clear c5
                                                try clear q5
                                                try clear c6
                                                try clear p6
                                                try clear c8
                                                try clear c9
                                                try clear c12
                                                try clear c12b0
                                                try clear c19
                                                try clear c19b0
                                                try clear c19b1
                                                try clear c19b2
                                                try clear hcv20
                                                try clear hcv21
                                                try clear c22
                                                try clear c23
                                                try clear c30
                                                try clear c30b0
                                                try clear c30b1
                                                try clear c31
                                                try clear c31b0
                                                try clear c31b1
                                                try clear c31b2
                                                try clear c33
                                                try clear c33b0
                                                try clear c34
                                                try clear c34b0
                                                try clear p34
                                                try clear q34
                                                try clear hx34
                                                try clear p35
                                                try clear q35
                                                try clear hx35
                                                try clear hf35
                                                try clear c38
                                                try clear c38b0
                                                try clear c39
                                                try clear c39b0
                                                try clear c39b1
                                                try clear c41
                                                try clear c41b0
                                                try clear c41b1
                                                try clear c42
                                                try clear c42b0
                                                try clear c42b1
                                                try clear c43
                                                try clear c43b0
                                                try clear q49
                                                try clear q50
                                                try clear c56
                                                try clear c56b0
                                                try clear c56b1
                                                try clear c56b2
                                                try clear c57
                                                try clear c57b0
                                                try clear c57b1
                                                try clear c57b2
                                                try clear c59
                                                try clear p64
                                                try clear c66
                                                try clear hcut49
                                                try clear hx349_0
                                                try clear hx35_0
                                                try clear p2
                                                try clear p3
                                                try clear p34
                                                try clear p349
                                                try clear p35
                                                try clear p6
                                                try clear p64
                                                try clear q3
                                                try clear q34
                                                try clear q349
                                                try clear q35
                                                try clear q4
                                                try clear q49
                                                try clear q5
                                                try clear q50
                                                obtain ⟨x27_7, rfl, HA, HK7, HO_0, HO_1, HO_14, HO_16, HO_23, HO_25, HB⟩ := hrel
                                                cases gk with
                                                | zero => exact absurd HA.out (by simp [waybilllaw13_UnitTells.l2])
                                                | succ k7 =>
                                                  have H := HA.out
                                                  clear HA
                                                  simp only [waybilllaw13_UnitTells.l2] at H
                                                  by_cases c67 : x27_7 < (t374.length : Int)
                                                  · rw [if_pos c67] at H
                                                    have c67b0 : decide (x27_7 < (t374.length : Int)) = true := decide_eq_true c67
                                                    clear c67
                                                    by_cases c68 : 0 ≤ x27_7
                                                    · rw [if_pos c68] at H
                                                      have c68b0 : decide (0 ≤ x27_7) = true := decide_eq_true c68
                                                      clear c68
                                                      by_cases c69 : x27_7 < (t370.length : Int)
                                                      · rw [if_pos c69] at H
                                                        have c69b0 : decide (x27_7 < (t370.length : Int)) = true := decide_eq_true c69
                                                        clear c69
                                                        by_cases c70 : (!((((rd_T51 t370 x27_7).f0).toList) == (((rd_T51 t374 x27_7).f0).toList)) || (!(((rd_T51 t370 x27_7).f1) == ((rd_T51 t374 x27_7).f1)) || (!(((rd_T51 t370 x27_7).f2) == ((rd_T51 t374 x27_7).f2)) || (!(((rd_T51 t370 x27_7).f3) == ((rd_T51 t374 x27_7).f3)))))) = true
                                                        · rw [if_pos c70] at H
                                                          exact absurd H (by simp)
                                                        · rw [if_neg c70] at H
                                                          have c70b0 : (!((((rd_T51 t370 x27_7).f0).toList) == (((rd_T51 t374 x27_7).f0).toList)) || (!(((rd_T51 t370 x27_7).f1) == ((rd_T51 t374 x27_7).f1)) || (!(((rd_T51 t370 x27_7).f2) == ((rd_T51 t374 x27_7).f2)) || (!(((rd_T51 t370 x27_7).f3) == ((rd_T51 t374 x27_7).f3)))))) = false := by simpa using c70
                                                          clear c70
                                                          have H' := Aside0.mk H
                                                          clear H
                                                          obtain ⟨Ao71, co71, eo71⟩ := Kd.R_slice HO_25.out
                                                          subst eo71
                                                          obtain ⟨Ao72, co72, eo72⟩ := Kd.R_slice HO_23.out
                                                          subst eo72
                                                          have p379 : 0 ≤ (x27_7 : Int) := of_decide_eq_true (by first | (with_reducible assumption) | assumption)
                                                          have q379 : x27_7 < (t370.length : Int) := of_decide_eq_true (by first | (with_reducible assumption) | assumption)
                                                          obtain ⟨ad379, e379, hx379_0, hx379_1, hx379_2, hx379_3⟩ := at_T51 (Kd.R_reads' HO_23.out).2.2 x27_7 p379 q379
                                                          cases e379
                                                          replace p379 := eq_true p379
                                                          replace q379 := eq_true q379
                                                          have p380 : 0 ≤ (x27_7 : Int) := of_decide_eq_true (by first | (with_reducible assumption) | assumption)
                                                          have q380 : x27_7 < (t374.length : Int) := of_decide_eq_true (by first | (with_reducible assumption) | assumption)
                                                          obtain ⟨ad380, e380, hx380_0, hx380_1, hx380_2, hx380_3⟩ := at_T51 (Kd.R_reads' HO_25.out).2.2 x27_7 p380 q380
                                                          cases e380
                                                          replace p380 := eq_true p380
                                                          replace q380 := eq_true q380
                                                          go_wp2
                                                          repeat (go_quiet (fail); try go_wp2)
                                                          go_roundg k7
                                                          case measure => have := HJ5.out; have := HK2.out; have := HJ14.out; have := HJ23.out; have := HK5.out; have := HJ47.out; have := HK7.out; omega
                                                          case rel => exact ⟨(wrap64 (x27_7 + 1)), (by first | rfl | (simp; done) | (simp [*]; done)), H', ⟨by have := HJ5.out; have := HK2.out; have := HJ14.out; have := HJ23.out; have := HK5.out; have := HJ47.out; have := HK7.out; omega⟩, ⟨by (try simp only [hl1_2]); (try simp only [hl16_23]); (with_reducible repeat (first | apply Kd.V_alloc | apply Kd.V_drewN | apply Kd.V_drew)); exact HO_0.out⟩, ⟨by (try simp only [hl1_2]); (try simp only [hl16_23]); (with_reducible repeat (first | apply Kd.V_alloc | apply Kd.V_drewN | apply Kd.V_drew)); exact HO_1.out⟩, ⟨by (try simp only [hl1_2]); (try simp only [hl16_23]); (with_reducible repeat (first | apply Kd.V_alloc | apply Kd.V_drewN | apply Kd.V_drew)); exact HO_14.out⟩, ⟨by (try simp only [hl1_2]); (try simp only [hl16_23]); (with_reducible repeat (first | apply Kd.V_alloc | apply Kd.V_drewN | apply Kd.V_drew)); exact HO_16.out⟩, ⟨by (try simp only [hl1_2]); (try simp only [hl16_23]); (with_reducible repeat (first | apply Kd.R_alloc | apply Kd.R_drewN | apply Kd.R_drew)); exact HO_23.out⟩, ⟨by (try simp only [hl1_2]); (try simp only [hl16_23]); (with_reducible repeat (first | apply Kd.R_alloc | apply Kd.R_drewN | apply Kd.R_drew)); exact HO_25.out⟩, ⟨by repeat (first | (with_reducible first | exact HB.out | apply below_alloc | apply pw_below_drewN | apply below_drew1) | exact HB.out)⟩⟩
                                                      · rw [if_neg c69] at H
                                                        exact absurd H (by simp)
                                                    · rw [if_neg c68] at H
                                                      exact absurd H (by simp)
                                                  · rw [if_neg c67] at H
                                                    have c67b0 : decide (x27_7 < (t374.length : Int)) = false := decide_eq_false c67
                                                    clear c67
                                                    have H' := Aside0.mk H
                                                    clear H
                                                    obtain ⟨Ao73, co73, eo73⟩ := Kd.R_slice HO_25.out
                                                    subst eo73
                                                    go_wp2
                                                    repeat (go_quiet (fail); try go_wp2)
                                                    go_roundg k7
                                                    case measure => have := HJ5.out; have := HK2.out; have := HJ14.out; have := HJ23.out; have := HK5.out; have := HJ47.out; have := HK7.out; omega
                                                    case rel => exact ⟨(wrap64 (x17_5 + 1)), (by first | rfl | (simp; done) | (simp [*]; done)), H', ⟨by have := HJ5.out; have := HK2.out; have := HJ14.out; have := HJ23.out; have := HK5.out; have := HJ47.out; have := HK7.out; omega⟩, ⟨by (try simp only [hl1_2]); (try simp only [hl16_23]); (with_reducible repeat (first | apply Kd.V_alloc | apply Kd.V_drewN | apply Kd.V_drew)); exact Kd.V_mono HO_0.out (fun _ hk => hk.1)⟩, ⟨by (try simp only [hl1_2]); (try simp only [hl16_23]); (with_reducible repeat (first | apply Kd.V_alloc | apply Kd.V_drewN | apply Kd.V_drew)); exact Kd.V_mono HO_1.out (fun _ hk => hk.1)⟩, ⟨by (try simp only [hl1_2]); (try simp only [hl16_23]); (with_reducible repeat (first | apply Kd.V_alloc | apply Kd.V_drewN | apply Kd.V_drew)); exact Kd.V_mono HO_14.out (fun _ hk => hk.1)⟩, ⟨by (try simp only [hl1_2]); (try simp only [hl16_23]); (with_reducible repeat (first | apply Kd.V_alloc | apply Kd.V_drewN | apply Kd.V_drew)); exact Kd.V_mono HO_16.out (fun _ hk => hk.1)⟩, ⟨by repeat (first | (with_reducible first | exact HB.out | apply below_alloc | apply pw_below_drewN | apply below_drew1) | exact HB.out)⟩⟩
                                      · rw [if_neg c43] at H
                                        exact absurd H (by simp)
                                    · rw [if_neg c42] at H
                                      exact absurd H (by simp)
                                  · rw [if_neg c41] at H
                                    exact absurd H (by simp)
                              · rw [if_neg c38] at H
                                have c38b0 : decide (x17_5 < 4) = false := decide_eq_false c38
                                clear c38
                                replace H := Option.bind_eq_some_iff.mp H
                                obtain ⟨t351, A740, H⟩ := H
                                replace H : (waybilllaw13_UnitTells.l0 k5 t351 x1_2 a2 a3 a4 (wrap64 (x11_2 + 1))) = some r := H
                                have A74 := Aside0.mk A740
                                clear A740
                                have H' := Aside0.mk H
                                clear H
                                go_wp2_with (first | (go_at_call 29; (with_reducible refine (waybilllaw13_Tame.calls k5 (fun k_ => ((P0_ k_ ∨ P1_ k_) ∨ w.heap.size ≤ k_)) _ _ x0_2 t351 _ ?side1 A74.out).mono ?_); (case side1 => exact HO_0.out); rintro e w75 ⟨v352, rfl, ho0, hb⟩; have n0_ := Aside0.mk (Kd.V_elder' (by (with_reducible repeat (first | apply Kd.V_alloc | apply Kd.V_drewN | apply Kd.V_drew)); exact HO_0.out) (Kd.N_base ho0) hb); have n1_ := Aside0.mk (Kd.V_elder' (by (with_reducible repeat (first | apply Kd.V_alloc | apply Kd.V_drewN | apply Kd.V_drew)); exact HO_1.out) (Kd.N_base ho0) hb); have n2_ := Aside0.mk (Kd.V_elder' (by (with_reducible repeat (first | apply Kd.V_alloc | apply Kd.V_drewN | apply Kd.V_drew)); exact HO_14.out) (Kd.N_base ho0) hb); have n3_ := Aside0.mk (Kd.V_elder' (by (with_reducible repeat (first | apply Kd.V_alloc | apply Kd.V_drewN | apply Kd.V_drew)); exact HO_16.out) (Kd.N_base ho0) hb); have n4_ := Aside0.mk (Kd.N_lower (Kd.N_mono (ok' := fun k_ => ((P0_ k_ ∨ P1_ k_) ∨ w.heap.size ≤ k_)) ho0 (fun k_ hk_ => Or.elim hk_ (fun hs_ => hs_) (fun hn_ => (.inr (Nat.le_trans (below_size (by repeat (first | (with_reducible first | exact HB.out | apply below_alloc | apply pw_below_drewN | apply below_drew1) | exact HB.out))) hn_))))) (below_size (by repeat (first | (with_reducible first | exact HB.out | apply below_alloc | apply pw_below_drewN | apply below_drew1) | exact HB.out)))); have n5_ := Aside0.mk (below_step (by repeat (first | (with_reducible first | exact HB.out | apply below_alloc | apply pw_below_drewN | apply below_drew1) | exact HB.out)) hb); clear HO_0; clear HO_1; clear HO_14; clear HO_16; clear HB; have HO_0 := n0_; have HO_1 := n1_; have HO_14 := n2_; have HO_16 := n3_; have HO353 := n4_; have HB := n5_; clear n0_ n1_ n2_ n3_ n4_ n5_; (try clear hb); (try clear hb2); (try clear hk); (try clear hi); (try clear hge); (try clear ho0)))
                                repeat (go_quiet (first | (go_at_call 29; (with_reducible refine (waybilllaw13_Tame.calls k5 (fun k_ => ((P0_ k_ ∨ P1_ k_) ∨ w.heap.size ≤ k_)) _ _ x0_2 t351 _ ?side1 A74.out).mono ?_); (case side1 => exact HO_0.out); rintro e w75 ⟨v352, rfl, ho0, hb⟩; have n0_ := Aside0.mk (Kd.V_elder' (by (with_reducible repeat (first | apply Kd.V_alloc | apply Kd.V_drewN | apply Kd.V_drew)); exact HO_0.out) (Kd.N_base ho0) hb); have n1_ := Aside0.mk (Kd.V_elder' (by (with_reducible repeat (first | apply Kd.V_alloc | apply Kd.V_drewN | apply Kd.V_drew)); exact HO_1.out) (Kd.N_base ho0) hb); have n2_ := Aside0.mk (Kd.V_elder' (by (with_reducible repeat (first | apply Kd.V_alloc | apply Kd.V_drewN | apply Kd.V_drew)); exact HO_14.out) (Kd.N_base ho0) hb); have n3_ := Aside0.mk (Kd.V_elder' (by (with_reducible repeat (first | apply Kd.V_alloc | apply Kd.V_drewN | apply Kd.V_drew)); exact HO_16.out) (Kd.N_base ho0) hb); have n4_ := Aside0.mk (Kd.N_lower (Kd.N_mono (ok' := fun k_ => ((P0_ k_ ∨ P1_ k_) ∨ w.heap.size ≤ k_)) ho0 (fun k_ hk_ => Or.elim hk_ (fun hs_ => hs_) (fun hn_ => (.inr (Nat.le_trans (below_size (by repeat (first | (with_reducible first | exact HB.out | apply below_alloc | apply pw_below_drewN | apply below_drew1) | exact HB.out))) hn_))))) (below_size (by repeat (first | (with_reducible first | exact HB.out | apply below_alloc | apply pw_below_drewN | apply below_drew1) | exact HB.out)))); have n5_ := Aside0.mk (below_step (by repeat (first | (with_reducible first | exact HB.out | apply below_alloc | apply pw_below_drewN | apply below_drew1) | exact HB.out)) hb); clear HO_0; clear HO_1; clear HO_14; clear HO_16; clear HB; have HO_0 := n0_; have HO_1 := n1_; have HO_14 := n2_; have HO_16 := n3_; have HO353 := n4_; have HB := n5_; clear n0_ n1_ n2_ n3_ n4_ n5_; (try clear hb); (try clear hb2); (try clear hk); (try clear hi); (try clear hge); (try clear ho0))); try go_wp2_with (first | (go_at_call 29; (with_reducible refine (waybilllaw13_Tame.calls k5 (fun k_ => ((P0_ k_ ∨ P1_ k_) ∨ w.heap.size ≤ k_)) _ _ x0_2 t351 _ ?side1 A74.out).mono ?_); (case side1 => exact HO_0.out); rintro e w75 ⟨v352, rfl, ho0, hb⟩; have n0_ := Aside0.mk (Kd.V_elder' (by (with_reducible repeat (first | apply Kd.V_alloc | apply Kd.V_drewN | apply Kd.V_drew)); exact HO_0.out) (Kd.N_base ho0) hb); have n1_ := Aside0.mk (Kd.V_elder' (by (with_reducible repeat (first | apply Kd.V_alloc | apply Kd.V_drewN | apply Kd.V_drew)); exact HO_1.out) (Kd.N_base ho0) hb); have n2_ := Aside0.mk (Kd.V_elder' (by (with_reducible repeat (first | apply Kd.V_alloc | apply Kd.V_drewN | apply Kd.V_drew)); exact HO_14.out) (Kd.N_base ho0) hb); have n3_ := Aside0.mk (Kd.V_elder' (by (with_reducible repeat (first | apply Kd.V_alloc | apply Kd.V_drewN | apply Kd.V_drew)); exact HO_16.out) (Kd.N_base ho0) hb); have n4_ := Aside0.mk (Kd.N_lower (Kd.N_mono (ok' := fun k_ => ((P0_ k_ ∨ P1_ k_) ∨ w.heap.size ≤ k_)) ho0 (fun k_ hk_ => Or.elim hk_ (fun hs_ => hs_) (fun hn_ => (.inr (Nat.le_trans (below_size (by repeat (first | (with_reducible first | exact HB.out | apply below_alloc | apply pw_below_drewN | apply below_drew1) | exact HB.out))) hn_))))) (below_size (by repeat (first | (with_reducible first | exact HB.out | apply below_alloc | apply pw_below_drewN | apply below_drew1) | exact HB.out)))); have n5_ := Aside0.mk (below_step (by repeat (first | (with_reducible first | exact HB.out | apply below_alloc | apply pw_below_drewN | apply below_drew1) | exact HB.out)) hb); clear HO_0; clear HO_1; clear HO_14; clear HO_16; clear HB; have HO_0 := n0_; have HO_1 := n1_; have HO_14 := n2_; have HO_16 := n3_; have HO353 := n4_; have HB := n5_; clear n0_ n1_ n2_ n3_ n4_ n5_; (try clear hb); (try clear hb2); (try clear hk); (try clear hi); (try clear hge); (try clear ho0))))
                                (try simp only [← hl1_2, ← hl16_23])
                                go_roundg k5
                                case measure => have := HJ5.out; have := HK2.out; have := HJ14.out; have := HJ23.out; have := HK5.out; omega
                                case rel => exact ⟨(t351), (x1_2), (wrap64 (x11_2 + 1)), (by first | rfl | (simp; done) | (simp [*]; done)), H', ⟨by have := HJ5.out; have := HK2.out; have := HJ14.out; have := HJ23.out; have := HK5.out; omega⟩, ⟨Kd.N_V (by (try simp only [hl1_2]); (try simp only [hl16_23]); (with_reducible repeat (first | apply Kd.N_alloc | apply Kd.N_drewN | apply Kd.N_drew)); exact HO353.out)⟩, ⟨by (try simp only [hl1_2]); (try simp only [hl16_23]); (with_reducible repeat (first | apply Kd.V_alloc | apply Kd.V_drewN | apply Kd.V_drew)); exact Kd.V_mono HO_1.out (fun _ hk => hk.1)⟩, ⟨by repeat (first | (with_reducible first | exact HB.out | apply below_alloc | apply pw_below_drewN | apply below_drew1) | exact HB.out)⟩⟩
                    · rw [if_neg c23] at H
                      exact absurd H (by simp)
            · rw [if_neg c12] at H
              have c12b0 : decide (x11_2 < 2) = false := decide_eq_false c12
              clear c12
              replace H := Option.bind_eq_some_iff.mp H
              obtain ⟨t334, A760, H⟩ := H
              replace H : (some t334) = some r := H
              have A76 := Aside0.mk A760
              clear A760
              obtain rfl := Option.some.inj H
              go_wp2_with (first | (go_at_call 21; (with_reducible refine (waybilllaw13_awake.calls k2  t334 _ A76.out).mono ?_); rintro e w77 ⟨rfl, hb⟩; have n0_ := Aside0.mk (Kd.V_below (by (with_reducible repeat (first | apply Kd.V_alloc | apply Kd.V_drewN | apply Kd.V_drew)); exact HO_0.out) hb); have n1_ := Aside0.mk (Kd.V_below (by (with_reducible repeat (first | apply Kd.V_alloc | apply Kd.V_drewN | apply Kd.V_drew)); exact HO_1.out) hb); have n2_ := Aside0.mk (below_step (by repeat (first | (with_reducible first | exact HB.out | apply below_alloc | apply pw_below_drewN | apply below_drew1) | exact HB.out)) hb); clear HO_0; clear HO_1; clear HB; have HO_0 := n0_; have HO_1 := n1_; have HB := n2_; clear n0_ n1_ n2_; (try clear hb); (try clear hb2); (try clear hk); (try clear hi); (try clear hge)))
              repeat (go_quiet (first | (go_at_call 21; (with_reducible refine (waybilllaw13_awake.calls k2  t334 _ A76.out).mono ?_); rintro e w77 ⟨rfl, hb⟩; have n0_ := Aside0.mk (Kd.V_below (by (with_reducible repeat (first | apply Kd.V_alloc | apply Kd.V_drewN | apply Kd.V_drew)); exact HO_0.out) hb); have n1_ := Aside0.mk (Kd.V_below (by (with_reducible repeat (first | apply Kd.V_alloc | apply Kd.V_drewN | apply Kd.V_drew)); exact HO_1.out) hb); have n2_ := Aside0.mk (below_step (by repeat (first | (with_reducible first | exact HB.out | apply below_alloc | apply pw_below_drewN | apply below_drew1) | exact HB.out)) hb); clear HO_0; clear HO_1; clear HB; have HO_0 := n0_; have HO_1 := n1_; have HB := n2_; clear n0_ n1_ n2_; (try clear hb); (try clear hb2); (try clear hk); (try clear hi); (try clear hge))); try go_wp2_with (first | (go_at_call 21; (with_reducible refine (waybilllaw13_awake.calls k2  t334 _ A76.out).mono ?_); rintro e w77 ⟨rfl, hb⟩; have n0_ := Aside0.mk (Kd.V_below (by (with_reducible repeat (first | apply Kd.V_alloc | apply Kd.V_drewN | apply Kd.V_drew)); exact HO_0.out) hb); have n1_ := Aside0.mk (Kd.V_below (by (with_reducible repeat (first | apply Kd.V_alloc | apply Kd.V_drewN | apply Kd.V_drew)); exact HO_1.out) hb); have n2_ := Aside0.mk (below_step (by repeat (first | (with_reducible first | exact HB.out | apply below_alloc | apply pw_below_drewN | apply below_drew1) | exact HB.out)) hb); clear HO_0; clear HO_1; clear HB; have HO_0 := n0_; have HO_1 := n1_; have HB := n2_; clear n0_ n1_ n2_; (try clear hb); (try clear hb2); (try clear hk); (try clear hi); (try clear hge))))
              all_goals first | (go_ret; exact ⟨by first | rfl | (simp [errW_none, errW_some]; done) | (simp [errW_none, errW_some]; rfl) | (simp [*, errW_none, errW_some]; done) | (simp [*, errW_none, errW_some]; rfl), by repeat (first | (with_reducible first | exact HB.out | apply below_alloc | apply pw_below_drewN | apply below_drew1) | exact HB.out)⟩) | (exfalso; simp_all; done)

end Go.Proofs.Ytpjkaodbcclecaa.PU
