/- What functions of the given program come to, and that they do: written out of the translation by a program of this session; Lean checks it. -/
import Derived.Test.YtfhaffpegncdiaaPNx0
import Derived.Test.YtfhaffpegncdiaaPNx2
import Derived.Test.YtfhaffpegncdiaaPNx3
import Derived.Test.YtfhaffpegncdiaaPNx5
import Derived.Test.YtfhaffpegncdiaaPNx8
import Derived.Test.YtfhaffpegncdiaaPNx9
import Derived.Test.YtfhaffpegncdiaaPNx10
import Derived.Test.YtfhaffpegncdiaaPNx11
import Derived.Test.YtfhaffpegncdiaaPNx12
import Derived.Test.YtfhaffpegncdiaaPNx14
import Derived.Test.YtfhaffpegncdiaaPNx16
import Derived.Test.YtfhaffpegncdiaaPNx17
namespace Go.Proofs.Ytfhaffpegncdiaa.PN
open Go.RowKit Go.Proofs.YtfhaffpegncdiaaW.PrintWords Go.Proofs.YtfhaffpegncdiaaW.PrintLast Go.Proofs.YtfhaffpegncdiaaW.PrintMore
attribute [local go_sem] max2_int min2_int max_two min_two max_three min_three max_four min_four   -- for this text's walks alone
set_option linter.unusedVariables false
set_option linter.unusedSimpArgs false

/-! ### waybilllaw10_NodeTells: function 8 -/
mutual
def waybilllaw10_NodeTells.j0 : Nat → List Int → Int → Int → Int → Bool → Bool → List (S41) → Option (Bool)
 | 0, _, _, _, _, _, _, _ => none
 | k + 1, x0, x2, x3, x4, x30, x349000, x349001 => if x30 = true then ((waybilllaw10_awake.f k).bind fun t350 => (some t350)) else (waybilllaw10_NodeTells.l0 k x0 x2 x3 x4 0 x349000 x349001)
def waybilllaw10_NodeTells.l0 : Nat → List Int → Int → Int → Int → Int → Bool → List (S41) → Option (Bool)
 | 0, _, _, _, _, _, _, _ => none
 | k + 1, x0, x2, x3, x4, x11, x349000, x349001 => if x11 < 2 then ((node_Append.f k x349000 x349001).bind fun bt352 => ((waybillref7_NodeOk.f k x349000 x349001).bind fun t356 => (if (bt352.2 != t356) = true then (waybilllaw10_NodeTells.j2 k x0 x2 x3 x4 x11 bt352.1 t356 true x349000 x349001) else ((node_Ok.f k x349000 x349001).bind fun t357 => (if (t357 != t356) = true then (waybilllaw10_NodeTells.j2 k x0 x2 x3 x4 x11 bt352.1 t356 true x349000 x349001) else ((node_Size.f k x349000 x349001).bind fun t358 => ((waybillref7_NodeSize.f k x349000 x349001).bind fun t359 => (waybilllaw10_NodeTells.j2 k x0 x2 x3 x4 x11 bt352.1 t356 (t358 != t359) x349000 x349001)))))))) else ((waybilllaw10_awake.f k).bind fun t351 => (some t351))
def waybilllaw10_NodeTells.j2 : Nat → List Int → Int → Int → Int → Int → List Int → Bool → Bool → Bool → List (S41) → Option (Bool)
 | 0, _, _, _, _, _, _, _, _, _, _ => none
 | k + 1, x0, x2, x3, x4, x11, x12, x14, x58, x349000, x349001 => if x58 = true then (none) else (if x14 = true then ((waybillref7_Node.f k x349000 x349001).bind fun t360 => (waybilllaw10_NodeTells.j3 k x0 x2 x3 x4 x11 x12 t360 x349000 x349001)) else (waybilllaw10_NodeTells.j3 k x0 x2 x3 x4 x11 x12 ([] : List Int) x349000 x349001))
def waybilllaw10_NodeTells.j3 : Nat → List Int → Int → Int → Int → Int → List Int → List Int → Bool → List (S41) → Option (Bool)
 | 0, _, _, _, _, _, _, _, _, _ => none
 | k + 1, x0, x2, x3, x4, x11, x12, x15, x349000, x349001 => if (strOfNums x12).toList = (strOfNums x15).toList then ((some (([] : List Int) : List Int)).bind fun y363 => (if y363.length + x15.length < 140737488355328 then ((some (y363 ++ x15 : List Int)).bind fun y366 => (if (y366.length : Int) > 0 then (if (y366.length : Int) = 0 then (none) else (if 0 ≤ (Int.tmod (Go.bits .and .i64 x2 65535) (y366.length : Int)) then (if (Int.tmod (Go.bits .and .i64 x2 65535) (y366.length : Int)) < (y366.length : Int) then (waybilllaw10_NodeTells.j4 k x0 x2 x3 x4 x11 x15 (y366.set ((Int.tmod (Go.bits .and .i64 x2 65535) (y366.length : Int)) : Int).toNat (Go.bits .xor .u8 (rd y366 (Int.tmod (Go.bits .and .i64 x2 65535) (y366.length : Int))) x3)) x349000 x349001) else (none)) else (none))) else (waybilllaw10_NodeTells.j4 k x0 x2 x3 x4 x11 x15 y366 x349000 x349001))) else (none))) else (none)
def waybilllaw10_NodeTells.j4 : Nat → List Int → Int → Int → Int → Int → List Int → List Int → Bool → List (S41) → Option (Bool)
 | 0, _, _, _, _, _, _, _, _, _ => none
 | k + 1, x0, x2, x3, x4, x11, x15, x16, x349000, x349001 => waybilllaw10_NodeTells.l1 k x0 x2 x3 x4 x11 x15 x16 0 x349000 x349001
def waybilllaw10_NodeTells.l1 : Nat → List Int → Int → Int → Int → Int → List Int → List Int → Int → Bool → List (S41) → Option (Bool)
 | 0, _, _, _, _, _, _, _, _, _, _ => none
 | k + 1, x0, x2, x3, x4, x11, x15, x16, x17, x349000, x349001 => if x17 < 4 then (if (wrap64 ((x15.length : Int) + 1)) = 0 then (none) else (if 0 ≤ (Int.tmod (Go.bits .and .i64 x4 65535) (wrap64 ((x15.length : Int) + 1))) then (if (Int.tmod (Go.bits .and .i64 x4 65535) (wrap64 ((x15.length : Int) + 1))) ≤ (x15.length : Int) then ((some (([] : List Int) : List Int)).bind fun y380 => (if y380.length + x15.length < 140737488355328 then ((some (y380 ++ x15 : List Int)).bind fun y383 => ((some (([0, 0, x3] : List Int) : List Int)).bind fun y386 => (if y383.length + y386.length < 140737488355328 then (if 0 ≤ x17 then ((some (([x0, x16, (x15.take ((Int.tmod (Go.bits .and .i64 x4 65535) (wrap64 ((x15.length : Int) + 1))) : Int).toNat), (y383 ++ y386)] : List (List Int)).getD (x17).toNat [] : List Int)).bind fun y392 => ((node_Parse.f k y392).bind fun bt395 => ((waybillref7_NodeOf.f k y392).bind fun bt401 => (if (bt395.2.2 != bt401.2.2) = true then (none) else ((waybilllaw10_Same.f k bt395.1 bt395.2.1 bt401.1 bt401.2.1).bind fun t407 => (if t407 = true then (waybilllaw10_NodeTells.l1 k x0 x2 x3 x4 x11 x15 x16 (wrap64 (x17 + 1)) x349000 x349001) else (none))))))) else (none)) else (none)))) else (none))) else (none)) else (none))) else ((waybilllaw10_Tame.f k x349000 x349001).bind fun bt371 => (waybilllaw10_NodeTells.l0 k x0 x2 x3 x4 (wrap64 (x11 + 1)) bt371.1 bt371.2))
end
def waybilllaw10_NodeTells.f (k : Nat) (l0 : List Int) (a1_0 : Bool) (l1_1 : List (S41)) (a2 : Int) (a3 : Int) (a4 : Int) : Option (Bool) := if (l0.length : Int) > 700 then (waybilllaw10_NodeTells.j0 k l0 a2 a3 a4 true a1_0 l1_1) else ((waybilllaw10_Small.f k a1_0 l1_1).bind fun t349 => (waybilllaw10_NodeTells.j0 k l0 a2 a3 a4 (!t349) a1_0 l1_1))
theorem waybilllaw10_NodeTells.mono_l : ∀ k, (∀ y0 y1 y2 y3 y4 y5 y6, LeO (waybilllaw10_NodeTells.j0 k y0 y1 y2 y3 y4 y5 y6) (waybilllaw10_NodeTells.j0 (k + 1) y0 y1 y2 y3 y4 y5 y6)) ∧ (∀ y0 y1 y2 y3 y4 y5 y6, LeO (waybilllaw10_NodeTells.l0 k y0 y1 y2 y3 y4 y5 y6) (waybilllaw10_NodeTells.l0 (k + 1) y0 y1 y2 y3 y4 y5 y6)) ∧ (∀ y0 y1 y2 y3 y4 y5 y6 y7 y8 y9, LeO (waybilllaw10_NodeTells.j2 k y0 y1 y2 y3 y4 y5 y6 y7 y8 y9) (waybilllaw10_NodeTells.j2 (k + 1) y0 y1 y2 y3 y4 y5 y6 y7 y8 y9)) ∧ (∀ y0 y1 y2 y3 y4 y5 y6 y7 y8, LeO (waybilllaw10_NodeTells.j3 k y0 y1 y2 y3 y4 y5 y6 y7 y8) (waybilllaw10_NodeTells.j3 (k + 1) y0 y1 y2 y3 y4 y5 y6 y7 y8)) ∧ (∀ y0 y1 y2 y3 y4 y5 y6 y7 y8, LeO (waybilllaw10_NodeTells.j4 k y0 y1 y2 y3 y4 y5 y6 y7 y8) (waybilllaw10_NodeTells.j4 (k + 1) y0 y1 y2 y3 y4 y5 y6 y7 y8)) ∧ (∀ y0 y1 y2 y3 y4 y5 y6 y7 y8 y9, LeO (waybilllaw10_NodeTells.l1 k y0 y1 y2 y3 y4 y5 y6 y7 y8 y9) (waybilllaw10_NodeTells.l1 (k + 1) y0 y1 y2 y3 y4 y5 y6 y7 y8 y9))
 | 0 => ⟨fun _ _ _ _ _ _ _ r h => by simp [waybilllaw10_NodeTells.j0] at h, fun _ _ _ _ _ _ _ r h => by simp [waybilllaw10_NodeTells.l0] at h, fun _ _ _ _ _ _ _ _ _ _ r h => by simp [waybilllaw10_NodeTells.j2] at h, fun _ _ _ _ _ _ _ _ _ r h => by simp [waybilllaw10_NodeTells.j3] at h, fun _ _ _ _ _ _ _ _ _ r h => by simp [waybilllaw10_NodeTells.j4] at h, fun _ _ _ _ _ _ _ _ _ _ r h => by simp [waybilllaw10_NodeTells.l1] at h⟩
 | k + 1 => by
  obtain ⟨ih0, ih1, ih2, ih3, ih4, ih5⟩ := waybilllaw10_NodeTells.mono_l k
  refine ⟨?_, ?_, ?_, ?_, ?_, ?_⟩
  ·
   intro y0 y1 y2 y3 y4 y5 y6
   unfold waybilllaw10_NodeTells.j0
   repeat' first
   | (with_reducible exact ih0 _ _ _ _ _ _ _)
   | (with_reducible exact ih1 _ _ _ _ _ _ _)
   | (with_reducible exact ih2 _ _ _ _ _ _ _ _ _ _)
   | (with_reducible exact ih3 _ _ _ _ _ _ _ _ _)
   | (with_reducible exact ih4 _ _ _ _ _ _ _ _ _)
   | (with_reducible exact ih5 _ _ _ _ _ _ _ _ _ _)
   | (with_reducible exact node_Append.mono _ _ _)
   | (with_reducible exact node_Ok.mono _ _ _)
   | (with_reducible exact node_Parse.mono _ _)
   | (with_reducible exact node_Size.mono _ _ _)
   | (with_reducible exact waybilllaw10_Same.mono _ _ _ _ _)
   | (with_reducible exact waybilllaw10_Small.mono _ _ _)
   | (with_reducible exact waybilllaw10_Tame.mono _ _ _)
   | (with_reducible exact waybilllaw10_awake.mono _)
   | (with_reducible exact waybillref7_Node.mono _ _ _)
   | (with_reducible exact waybillref7_NodeOf.mono _ _)
   | (with_reducible exact waybillref7_NodeOk.mono _ _ _)
   | (with_reducible exact waybillref7_NodeSize.mono _ _ _)
   | (with_reducible exact LeO.refl _)
   | (with_reducible exact LeO.none _)
   | (with_reducible refine LeO.ite ?_ ?_)
   | (with_reducible refine LeO.bind ?_ (fun _ => ?_))
   | exact ih0 _ _ _ _ _ _ _
   | exact ih1 _ _ _ _ _ _ _
   | exact ih2 _ _ _ _ _ _ _ _ _ _
   | exact ih3 _ _ _ _ _ _ _ _ _
   | exact ih4 _ _ _ _ _ _ _ _ _
   | exact ih5 _ _ _ _ _ _ _ _ _ _
   | exact node_Append.mono _ _ _
   | exact node_Ok.mono _ _ _
   | exact node_Parse.mono _ _
   | exact node_Size.mono _ _ _
   | exact waybilllaw10_Same.mono _ _ _ _ _
   | exact waybilllaw10_Small.mono _ _ _
   | exact waybilllaw10_Tame.mono _ _ _
   | exact waybilllaw10_awake.mono _
   | exact waybillref7_Node.mono _ _ _
   | exact waybillref7_NodeOf.mono _ _
   | exact waybillref7_NodeOk.mono _ _ _
   | exact waybillref7_NodeSize.mono _ _ _
   | exact LeO.none _
   | refine LeO.ite ?_ ?_
   | refine LeO.bind ?_ (fun _ => ?_)
  ·
   intro y0 y1 y2 y3 y4 y5 y6
   unfold waybilllaw10_NodeTells.l0
   repeat' first
   | (with_reducible exact ih0 _ _ _ _ _ _ _)
   | (with_reducible exact ih1 _ _ _ _ _ _ _)
   | (with_reducible exact ih2 _ _ _ _ _ _ _ _ _ _)
   | (with_reducible exact ih3 _ _ _ _ _ _ _ _ _)
   | (with_reducible exact ih4 _ _ _ _ _ _ _ _ _)
   | (with_reducible exact ih5 _ _ _ _ _ _ _ _ _ _)
   | (with_reducible exact node_Append.mono _ _ _)
   | (with_reducible exact node_Ok.mono _ _ _)
   | (with_reducible exact node_Parse.mono _ _)
   | (with_reducible exact node_Size.mono _ _ _)
   | (with_reducible exact waybilllaw10_Same.mono _ _ _ _ _)
   | (with_reducible exact waybilllaw10_Small.mono _ _ _)
   | (with_reducible exact waybilllaw10_Tame.mono _ _ _)
   | (with_reducible exact waybilllaw10_awake.mono _)
   | (with_reducible exact waybillref7_Node.mono _ _ _)
   | (with_reducible exact waybillref7_NodeOf.mono _ _)
   | (with_reducible exact waybillref7_NodeOk.mono _ _ _)
   | (with_reducible exact waybillref7_NodeSize.mono _ _ _)
   | (with_reducible exact LeO.refl _)
   | (with_reducible exact LeO.none _)
   | (with_reducible refine LeO.ite ?_ ?_)
   | (with_reducible refine LeO.bind ?_ (fun _ => ?_))
   | exact ih0 _ _ _ _ _ _ _
   | exact ih1 _ _ _ _ _ _ _
   | exact ih2 _ _ _ _ _ _ _ _ _ _
   | exact ih3 _ _ _ _ _ _ _ _ _
   | exact ih4 _ _ _ _ _ _ _ _ _
   | exact ih5 _ _ _ _ _ _ _ _ _ _
   | exact node_Append.mono _ _ _
   | exact node_Ok.mono _ _ _
   | exact node_Parse.mono _ _
   | exact node_Size.mono _ _ _
   | exact waybilllaw10_Same.mono _ _ _ _ _
   | exact waybilllaw10_Small.mono _ _ _
   | exact waybilllaw10_Tame.mono _ _ _
   | exact waybilllaw10_awake.mono _
   | exact waybillref7_Node.mono _ _ _
   | exact waybillref7_NodeOf.mono _ _
   | exact waybillref7_NodeOk.mono _ _ _
   | exact waybillref7_NodeSize.mono _ _ _
   | exact LeO.none _
   | refine LeO.ite ?_ ?_
   | refine LeO.bind ?_ (fun _ => ?_)
  ·
   intro y0 y1 y2 y3 y4 y5 y6 y7 y8 y9
   unfold waybilllaw10_NodeTells.j2
   repeat' first
   | (with_reducible exact ih0 _ _ _ _ _ _ _)
   | (with_reducible exact ih1 _ _ _ _ _ _ _)
   | (with_reducible exact ih2 _ _ _ _ _ _ _ _ _ _)
   | (with_reducible exact ih3 _ _ _ _ _ _ _ _ _)
   | (with_reducible exact ih4 _ _ _ _ _ _ _ _ _)
   | (with_reducible exact ih5 _ _ _ _ _ _ _ _ _ _)
   | (with_reducible exact node_Append.mono _ _ _)
   | (with_reducible exact node_Ok.mono _ _ _)
   | (with_reducible exact node_Parse.mono _ _)
   | (with_reducible exact node_Size.mono _ _ _)
   | (with_reducible exact waybilllaw10_Same.mono _ _ _ _ _)
   | (with_reducible exact waybilllaw10_Small.mono _ _ _)
   | (with_reducible exact waybilllaw10_Tame.mono _ _ _)
   | (with_reducible exact waybilllaw10_awake.mono _)
   | (with_reducible exact waybillref7_Node.mono _ _ _)
   | (with_reducible exact waybillref7_NodeOf.mono _ _)
   | (with_reducible exact waybillref7_NodeOk.mono _ _ _)
   | (with_reducible exact waybillref7_NodeSize.mono _ _ _)
   | (with_reducible exact LeO.refl _)
   | (with_reducible exact LeO.none _)
   | (with_reducible refine LeO.ite ?_ ?_)
   | (with_reducible refine LeO.bind ?_ (fun _ => ?_))
   | exact ih0 _ _ _ _ _ _ _
   | exact ih1 _ _ _ _ _ _ _
   | exact ih2 _ _ _ _ _ _ _ _ _ _
   | exact ih3 _ _ _ _ _ _ _ _ _
   | exact ih4 _ _ _ _ _ _ _ _ _
   | exact ih5 _ _ _ _ _ _ _ _ _ _
   | exact node_Append.mono _ _ _
   | exact node_Ok.mono _ _ _
   | exact node_Parse.mono _ _
   | exact node_Size.mono _ _ _
   | exact waybilllaw10_Same.mono _ _ _ _ _
   | exact waybilllaw10_Small.mono _ _ _
   | exact waybilllaw10_Tame.mono _ _ _
   | exact waybilllaw10_awake.mono _
   | exact waybillref7_Node.mono _ _ _
   | exact waybillref7_NodeOf.mono _ _
   | exact waybillref7_NodeOk.mono _ _ _
   | exact waybillref7_NodeSize.mono _ _ _
   | exact LeO.none _
   | refine LeO.ite ?_ ?_
   | refine LeO.bind ?_ (fun _ => ?_)
  ·
   intro y0 y1 y2 y3 y4 y5 y6 y7 y8
   unfold waybilllaw10_NodeTells.j3
   repeat' first
   | (with_reducible exact ih0 _ _ _ _ _ _ _)
   | (with_reducible exact ih1 _ _ _ _ _ _ _)
   | (with_reducible exact ih2 _ _ _ _ _ _ _ _ _ _)
   | (with_reducible exact ih3 _ _ _ _ _ _ _ _ _)
   | (with_reducible exact ih4 _ _ _ _ _ _ _ _ _)
   | (with_reducible exact ih5 _ _ _ _ _ _ _ _ _ _)
   | (with_reducible exact node_Append.mono _ _ _)
   | (with_reducible exact node_Ok.mono _ _ _)
   | (with_reducible exact node_Parse.mono _ _)
   | (with_reducible exact node_Size.mono _ _ _)
   | (with_reducible exact waybilllaw10_Same.mono _ _ _ _ _)
   | (with_reducible exact waybilllaw10_Small.mono _ _ _)
   | (with_reducible exact waybilllaw10_Tame.mono _ _ _)
   | (with_reducible exact waybilllaw10_awake.mono _)
   | (with_reducible exact waybillref7_Node.mono _ _ _)
   | (with_reducible exact waybillref7_NodeOf.mono _ _)
   | (with_reducible exact waybillref7_NodeOk.mono _ _ _)
   | (with_reducible exact waybillref7_NodeSize.mono _ _ _)
   | (with_reducible exact LeO.refl _)
   | (with_reducible exact LeO.none _)
   | (with_reducible refine LeO.ite ?_ ?_)
   | (with_reducible refine LeO.bind ?_ (fun _ => ?_))
   | exact ih0 _ _ _ _ _ _ _
   | exact ih1 _ _ _ _ _ _ _
   | exact ih2 _ _ _ _ _ _ _ _ _ _
   | exact ih3 _ _ _ _ _ _ _ _ _
   | exact ih4 _ _ _ _ _ _ _ _ _
   | exact ih5 _ _ _ _ _ _ _ _ _ _
   | exact node_Append.mono _ _ _
   | exact node_Ok.mono _ _ _
   | exact node_Parse.mono _ _
   | exact node_Size.mono _ _ _
   | exact waybilllaw10_Same.mono _ _ _ _ _
   | exact waybilllaw10_Small.mono _ _ _
   | exact waybilllaw10_Tame.mono _ _ _
   | exact waybilllaw10_awake.mono _
   | exact waybillref7_Node.mono _ _ _
   | exact waybillref7_NodeOf.mono _ _
   | exact waybillref7_NodeOk.mono _ _ _
   | exact waybillref7_NodeSize.mono _ _ _
   | exact LeO.none _
   | refine LeO.ite ?_ ?_
   | refine LeO.bind ?_ (fun _ => ?_)
  ·
   intro y0 y1 y2 y3 y4 y5 y6 y7 y8
   unfold waybilllaw10_NodeTells.j4
   repeat' first
   | (with_reducible exact ih0 _ _ _ _ _ _ _)
   | (with_reducible exact ih1 _ _ _ _ _ _ _)
   | (with_reducible exact ih2 _ _ _ _ _ _ _ _ _ _)
   | (with_reducible exact ih3 _ _ _ _ _ _ _ _ _)
   | (with_reducible exact ih4 _ _ _ _ _ _ _ _ _)
   | (with_reducible exact ih5 _ _ _ _ _ _ _ _ _ _)
   | (with_reducible exact node_Append.mono _ _ _)
   | (with_reducible exact node_Ok.mono _ _ _)
   | (with_reducible exact node_Parse.mono _ _)
   | (with_reducible exact node_Size.mono _ _ _)
   | (with_reducible exact waybilllaw10_Same.mono _ _ _ _ _)
   | (with_reducible exact waybilllaw10_Small.mono _ _ _)
   | (with_reducible exact waybilllaw10_Tame.mono _ _ _)
   | (with_reducible exact waybilllaw10_awake.mono _)
   | (with_reducible exact waybillref7_Node.mono _ _ _)
   | (with_reducible exact waybillref7_NodeOf.mono _ _)
   | (with_reducible exact waybillref7_NodeOk.mono _ _ _)
   | (with_reducible exact waybillref7_NodeSize.mono _ _ _)
   | (with_reducible exact LeO.refl _)
   | (with_reducible exact LeO.none _)
   | (with_reducible refine LeO.ite ?_ ?_)
   | (with_reducible refine LeO.bind ?_ (fun _ => ?_))
   | exact ih0 _ _ _ _ _ _ _
   | exact ih1 _ _ _ _ _ _ _
   | exact ih2 _ _ _ _ _ _ _ _ _ _
   | exact ih3 _ _ _ _ _ _ _ _ _
   | exact ih4 _ _ _ _ _ _ _ _ _
   | exact ih5 _ _ _ _ _ _ _ _ _ _
   | exact node_Append.mono _ _ _
   | exact node_Ok.mono _ _ _
   | exact node_Parse.mono _ _
   | exact node_Size.mono _ _ _
   | exact waybilllaw10_Same.mono _ _ _ _ _
   | exact waybilllaw10_Small.mono _ _ _
   | exact waybilllaw10_Tame.mono _ _ _
   | exact waybilllaw10_awake.mono _
   | exact waybillref7_Node.mono _ _ _
   | exact waybillref7_NodeOf.mono _ _
   | exact waybillref7_NodeOk.mono _ _ _
   | exact waybillref7_NodeSize.mono _ _ _
   | exact LeO.none _
   | refine LeO.ite ?_ ?_
   | refine LeO.bind ?_ (fun _ => ?_)
  ·
   intro y0 y1 y2 y3 y4 y5 y6 y7 y8 y9
   unfold waybilllaw10_NodeTells.l1
   repeat' first
   | (with_reducible exact ih0 _ _ _ _ _ _ _)
   | (with_reducible exact ih1 _ _ _ _ _ _ _)
   | (with_reducible exact ih2 _ _ _ _ _ _ _ _ _ _)
   | (with_reducible exact ih3 _ _ _ _ _ _ _ _ _)
   | (with_reducible exact ih4 _ _ _ _ _ _ _ _ _)
   | (with_reducible exact ih5 _ _ _ _ _ _ _ _ _ _)
   | (with_reducible exact node_Append.mono _ _ _)
   | (with_reducible exact node_Ok.mono _ _ _)
   | (with_reducible exact node_Parse.mono _ _)
   | (with_reducible exact node_Size.mono _ _ _)
   | (with_reducible exact waybilllaw10_Same.mono _ _ _ _ _)
   | (with_reducible exact waybilllaw10_Small.mono _ _ _)
   | (with_reducible exact waybilllaw10_Tame.mono _ _ _)
   | (with_reducible exact waybilllaw10_awake.mono _)
   | (with_reducible exact waybillref7_Node.mono _ _ _)
   | (with_reducible exact waybillref7_NodeOf.mono _ _)
   | (with_reducible exact waybillref7_NodeOk.mono _ _ _)
   | (with_reducible exact waybillref7_NodeSize.mono _ _ _)
   | (with_reducible exact LeO.refl _)
   | (with_reducible exact LeO.none _)
   | (with_reducible refine LeO.ite ?_ ?_)
   | (with_reducible refine LeO.bind ?_ (fun _ => ?_))
   | exact ih0 _ _ _ _ _ _ _
   | exact ih1 _ _ _ _ _ _ _
   | exact ih2 _ _ _ _ _ _ _ _ _ _
   | exact ih3 _ _ _ _ _ _ _ _ _
   | exact ih4 _ _ _ _ _ _ _ _ _
   | exact ih5 _ _ _ _ _ _ _ _ _ _
   | exact node_Append.mono _ _ _
   | exact node_Ok.mono _ _ _
   | exact node_Parse.mono _ _
   | exact node_Size.mono _ _ _
   | exact waybilllaw10_Same.mono _ _ _ _ _
   | exact waybilllaw10_Small.mono _ _ _
   | exact waybilllaw10_Tame.mono _ _ _
   | exact waybilllaw10_awake.mono _
   | exact waybillref7_Node.mono _ _ _
   | exact waybillref7_NodeOf.mono _ _
   | exact waybillref7_NodeOk.mono _ _ _
   | exact waybillref7_NodeSize.mono _ _ _
   | exact LeO.none _
   | refine LeO.ite ?_ ?_
   | refine LeO.bind ?_ (fun _ => ?_)
theorem waybilllaw10_NodeTells.mono : ∀ a0 a1 a2 a3 a4 a5 k, LeO (waybilllaw10_NodeTells.f k a0 a1 a2 a3 a4 a5) (waybilllaw10_NodeTells.f (k + 1) a0 a1 a2 a3 a4 a5) := by
 intro a0 a1 a2 a3 a4 a5 k
 obtain ⟨ih0, ih1, ih2, ih3, ih4, ih5⟩ := waybilllaw10_NodeTells.mono_l k
 unfold waybilllaw10_NodeTells.f
 repeat' first
   | (with_reducible exact ih0 _ _ _ _ _ _ _)
   | (with_reducible exact ih1 _ _ _ _ _ _ _)
   | (with_reducible exact ih2 _ _ _ _ _ _ _ _ _ _)
   | (with_reducible exact ih3 _ _ _ _ _ _ _ _ _)
   | (with_reducible exact ih4 _ _ _ _ _ _ _ _ _)
   | (with_reducible exact ih5 _ _ _ _ _ _ _ _ _ _)
   | (with_reducible exact node_Append.mono _ _ _)
   | (with_reducible exact node_Ok.mono _ _ _)
   | (with_reducible exact node_Parse.mono _ _)
   | (with_reducible exact node_Size.mono _ _ _)
   | (with_reducible exact waybilllaw10_Same.mono _ _ _ _ _)
   | (with_reducible exact waybilllaw10_Small.mono _ _ _)
   | (with_reducible exact waybilllaw10_Tame.mono _ _ _)
   | (with_reducible exact waybilllaw10_awake.mono _)
   | (with_reducible exact waybillref7_Node.mono _ _ _)
   | (with_reducible exact waybillref7_NodeOf.mono _ _)
   | (with_reducible exact waybillref7_NodeOk.mono _ _ _)
   | (with_reducible exact waybillref7_NodeSize.mono _ _ _)
   | (with_reducible exact LeO.refl _)
   | (with_reducible exact LeO.none _)
   | (with_reducible refine LeO.ite ?_ ?_)
   | (with_reducible refine LeO.bind ?_ (fun _ => ?_))
   | exact ih0 _ _ _ _ _ _ _
   | exact ih1 _ _ _ _ _ _ _
   | exact ih2 _ _ _ _ _ _ _ _ _ _
   | exact ih3 _ _ _ _ _ _ _ _ _
   | exact ih4 _ _ _ _ _ _ _ _ _
   | exact ih5 _ _ _ _ _ _ _ _ _ _
   | exact node_Append.mono _ _ _
   | exact node_Ok.mono _ _ _
   | exact node_Parse.mono _ _
   | exact node_Size.mono _ _ _
   | exact waybilllaw10_Same.mono _ _ _ _ _
   | exact waybilllaw10_Small.mono _ _ _
   | exact waybilllaw10_Tame.mono _ _ _
   | exact waybilllaw10_awake.mono _
   | exact waybillref7_Node.mono _ _ _
   | exact waybillref7_NodeOf.mono _ _
   | exact waybillref7_NodeOk.mono _ _ _
   | exact waybillref7_NodeSize.mono _ _ _
   | exact LeO.none _
   | refine LeO.ite ?_ ?_
   | refine LeO.bind ?_ (fun _ => ?_)
def waybilllaw10_NodeTells.T8 : Bool × List (List Nat × List Nat) := (true, [([], []), ([], []), ([0, 1], [0, 1]), ([2], [2]), ([3], [3]), ([4, 3, 3], [3, 4]), ([3], [3]), ([5, 6, 3], [3, 5, 6]), ([3, 7], [3, 7]), ([8, 5], [8]), ([9], [9]), ([10, 9, 9], [9, 10]), ([9], [9]), ([12, 11, 9], [9, 12]), ([11, 13, 9], [9, 11, 13]), ([9, 14], [9, 14])])
def waybilllaw10_NodeTells.B8 : List Nat := [0, 0, 3, 7, 15, 31, 15, 127, 255, 511, 1023, 2047, 1023, 8191, 16383, 32767]
theorem waybilllaw10_NodeTells.tab8 : rtab .any (opsOf Try.f8 8) = waybilllaw10_NodeTells.T8 := by kernel_rfl
theorem waybilllaw10_NodeTells.bits8 : waitsOk waybilllaw10_NodeTells.T8.2 waybilllaw10_NodeTells.B8 = true := by kernel_rfl
def waybilllaw10_NodeTells.T21 : Bool × List (List Nat × List Nat) := (true, [([], []), ([], []), ([], []), ([], []), ([3], [3]), ([], []), ([5], [5]), ([6], [6]), ([4, 7], [4, 7]), ([2, 8], [2, 8]), ([], []), ([], []), ([10, 11], [10, 11]), ([], []), ([13], [13]), ([12, 14, 12], [12, 14]), ([0, 1, 9, 15], [0, 1, 9, 15]), ([], []), ([16, 17], [16, 17]), ([18], [18]), ([19, 15, 0, 1, 2, 3, 4, 5, 6, 7, 8, 9, 10, 11, 12, 13, 14, 15, 16, 17, 18, 19], [19])])
def waybilllaw10_NodeTells.B21 : List Nat := [0, 0, 0, 0, 8, 0, 32, 96, 248, 508, 0, 0, 3072, 0, 8192, 31744, 65535, 0, 262143, 524287, 1048575]
theorem waybilllaw10_NodeTells.tab21 : rtab .any (opsOf Try.f8 21) = waybilllaw10_NodeTells.T21 := by kernel_rfl
theorem waybilllaw10_NodeTells.bits21 : waitsOk waybilllaw10_NodeTells.T21.2 waybilllaw10_NodeTells.B21 = true := by kernel_rfl
set_option maxHeartbeats 8000000 in
set_option maxRecDepth 100000 in
theorem waybilllaw10_NodeTells.calls (k : Nat) (P0_ : Nat → Prop) (A0 : Option Addr) (c0 : Nat) (l0 : List Int) (a1_0 : Bool) (P1_1_ : Nat → Prop) (A1_1 : Option Addr) (c1_1 : Nat) (l1_1 : List (S41)) (a2 : Int) (a3 : Int) (a4 : Int) (r : Bool) (w : World) (hs0 : Kd.V (Kd.int .u8) 5 w w.heap.size (fun k_ => P0_ k_) (.slice A0 l0.length c0) l0) (hs1_1 : Kd.V k41 41 w w.heap.size (fun k_ => P1_1_ k_) (.slice A1_1 l1_1.length c1_1) l1_1) (h : waybilllaw10_NodeTells.f k l0 a1_0 l1_1 a2 a3 a4 = some r) :
  Calls Try.prog 8 #[.slice A0 l0.length c0, .agg #[.bool a1_0, .slice A1_1 l1_1.length c1_1], .int .i64 a2, .int .u8 a3, .int .i64 a4] w fun e w' => e = .returned (.bool r) ∧ Below w.heap.size w w' := by
 have hu44 := Try.underlying44
 have HO0 := Aside0.mk (show Kd.V (Kd.int .u8) 5 w w.heap.size (fun k_ => ((P0_ k_ ∨ P1_1_ k_) ∨ w.heap.size ≤ k_)) (.slice A0 l0.length c0) l0 from Kd.V_mono hs0 (fun k_ hk => .inl (.inl hk)))
 have HO1_1 := Aside0.mk (show Kd.V k41 41 w w.heap.size (fun k_ => ((P0_ k_ ∨ P1_1_ k_) ∨ w.heap.size ≤ k_)) (.slice A1_1 l1_1.length c1_1) l1_1 from Kd.V_mono hs1_1 (fun k_ hk => .inl (.inr hk)))
 have HB := Aside0.mk (Below.refl w.heap.size w)
 have H : (if (l0.length : Int) > 700 then (waybilllaw10_NodeTells.j0 k l0 a2 a3 a4 true a1_0 l1_1) else ((waybilllaw10_Small.f k a1_0 l1_1).bind fun t349 => (waybilllaw10_NodeTells.j0 k l0 a2 a3 a4 (!t349) a1_0 l1_1))) = some r := h
 clear h
 have HC6 := Aside0.mk H
 clear H
 go_enter Try.func8, Try.ntmps8
 go_upto_region 1 with (first | ((with_reducible refine gate_dst (N := 6) rfl ?_); refine box_event ?hg (N := 6) ?hd (cs := #[.bool a1_0, .slice A1_1 l1_1.length c1_1]) (t := 44) ?hr ?_; (case hd => rfl); (case hg => rfl); (case hr => first | (go_simp; done) | (go_simp; rfl)); intro gb348 hg w7 hbox hb; have n0_ := Aside0.mk (Kd.V_below (Kd.V_elderB (by exact HO0.out) gb348 (Nat.le_of_eq hg.symm)) hb); have n1_ := Aside0.mk (Kd.V_below (Kd.V_elderB (by exact HO1_1.out) gb348 (Nat.le_of_eq hg.symm)) hb); have n2_ := Aside0.mk (below_step (by repeat (first | (with_reducible first | exact HB.out | apply below_alloc | apply pw_below_drewN | apply below_drew1) | exact HB.out)) hb); have n3_ := Aside0.mk (hbox); have n4_ := Aside0.mk ((by rw [hg]; exact (below_size (by repeat (first | (with_reducible first | exact HB.out | apply below_alloc | apply pw_below_drewN | apply below_drew1) | exact HB.out))) : w.heap.size ≤ gb348)); have n5_ := Aside0.mk ((by rw [hg]; exact (below_size (by repeat (first | (with_reducible first | exact HB.out | apply below_alloc | apply pw_below_drewN | apply below_drew1) | exact HB.out))) : w.heap.size ≤ gb348)); clear HO0; clear HO1_1; clear HB; have HO0 := n0_; have HO1_1 := n1_; have HB := n2_; have BK348 := n3_; have GW348 := n4_; have GE348 := n5_; clear n0_ n1_ n2_ n3_ n4_ n5_; clear hb hbox hg))
 (try simp only [Act.put, List.setIfInBounds_toArray, List.set_cons_zero, List.set_cons_succ])
 go_cut [30] (fun v30 wc => ∃ (kq : Nat) (x30_5 : Bool), v30 = .bool x30_5 ∧ Aside0 (waybilllaw10_NodeTells.j0 kq l0 a2 a3 a4 x30_5 a1_0 l1_1 = some r) ∧ Aside0 (kq ≤ k) ∧ Aside0 (Kd.V (Kd.int .u8) 5 wc w.heap.size (fun k_ => ((P0_ k_ ∨ P1_1_ k_) ∨ w.heap.size ≤ k_) ∧ k_ ≠ gb348) (.slice A0 l0.length c0) l0) ∧ Aside0 (Kd.V k41 41 wc w.heap.size (fun k_ => ((P0_ k_ ∨ P1_1_ k_) ∨ w.heap.size ≤ k_) ∧ k_ ≠ gb348) (.slice A1_1 l1_1.length c1_1) l1_1) ∧ Aside0 (wc.heap[gb348]? = some (.cells #[.bool a1_0, (.slice A1_1 l1_1.length c1_1)] 44 (0, 0))) ∧ Aside0 (Below w.heap.size w wc))
 case first =>
  have H := HC6.out
  clear HC6
  by_cases c8 : (l0.length : Int) > 700
  ·
   rw [if_pos c8] at H
   have c8b0 : decide (700 < (l0.length : Int)) = true := decide_eq_true c8
   have c8b1 : decide (700 < l0.length) = true := decide_eq_true (by omega)
   clear c8
   (first | rw [c8b0] | rw [c8b2] | rw [c8b1] | (simp only [i64_w, i32_w]; rw [c8b0]) | skip)
   have H' := Aside0.mk H
   clear H
   go_wp2
   go_meet
   case rel => exact ⟨_, (true), (by first | rfl | (simp; done) | (simp [*]; done)), H', ⟨by first | omega | exact Nat.le_refl _⟩, ⟨by exact HO0.out⟩, ⟨by exact HO1_1.out⟩, ⟨by exact BK348.out⟩, ⟨by repeat (first | (with_reducible first | exact HB.out | apply below_alloc | apply pw_below_drewN | apply below_drew1 | refine below_set ?_ GE348.out) | exact HB.out)⟩⟩
  ·
   rw [if_neg c8] at H
   have c8b0 : decide (700 < (l0.length : Int)) = false := decide_eq_false c8
   have c8b1 : decide (700 < l0.length) = false := decide_eq_false (by omega)
   clear c8
   (first | rw [c8b0] | rw [c8b2] | rw [c8b1] | (simp only [i64_w, i32_w]; rw [c8b0]) | skip)
   replace H := Option.bind_eq_some_iff.mp H
   obtain ⟨t349, A90, H⟩ := H
   replace H : (waybilllaw10_NodeTells.j0 k l0 a2 a3 a4 (!t349) a1_0 l1_1) = some r := H
   have A9 := Aside0.mk A90
   clear A90
   have H' := Aside0.mk H
   clear H
   have hcz10_0 : w7.cell? ⟨gb348, 0, none⟩ = some (.bool a1_0) := (blk_cell BK348.out 0).trans rfl
   have hcz10_1 : w7.cell? ⟨gb348, 1, none⟩ = some (.slice A1_1 l1_1.length c1_1) := (blk_cell BK348.out 1).trans rfl
   have hfz10_0 := blk_frozen BK348.out 0
   have hfz10_1 := blk_frozen BK348.out 1
   go_wp2_with (first | (go_at_call 22; (with_reducible refine (waybilllaw10_Small.calls k a1_0 _ _ l1_1 t349 _ ?side1 ?side2 A9.out).mono ?_); (case side1 => repeat (first | exact (Kd.V_reads' HO1_1.out).2.2 | (with_reducible refine Kd.C_alloc ?_ _) | (with_reducible refine Kd.C_drewN ?_ _) | (with_reducible refine Kd.C_drew ?_))); (case side2 => exact (Kd.V_reads' HO1_1.out).2.1); rintro e w11 ⟨rfl, hb⟩; have n0_ := Aside0.mk (Kd.V_below (by exact HO0.out) hb); have n1_ := Aside0.mk (Kd.V_below (by exact HO1_1.out) hb); have n2_ := Aside0.mk (blk_below (g := gb348) (o := .cells #[.bool a1_0, .slice A1_1 l1_1.length c1_1] 44 (0, 0)) (by exact BK348.out) hb); have n3_ := Aside0.mk (below_step (by repeat (first | (with_reducible first | exact HB.out | apply below_alloc | apply pw_below_drewN | apply below_drew1 | refine below_set ?_ GE348.out) | exact HB.out)) hb); clear HO0; clear HO1_1; clear BK348; clear HB; have HO0 := n0_; have HO1_1 := n1_; have BK348 := n2_; have HB := n3_; clear n0_ n1_ n2_ n3_; (try clear hb); (try clear hb2); (try clear hk); (try clear hi); (try clear hge)))
   go_meet
   case rel => exact ⟨_, (!t349), (by first | rfl | (simp; done) | (simp [*]; done)), H', ⟨by first | omega | exact Nat.le_refl _⟩, ⟨by exact HO0.out⟩, ⟨by exact HO1_1.out⟩, ⟨by exact BK348.out⟩, ⟨by repeat (first | (with_reducible first | exact HB.out | apply below_alloc | apply pw_below_drewN | apply below_drew1 | refine below_set ?_ GE348.out) | exact HB.out)⟩⟩
 case rest =>
  clear HC6
  try clear c1
  try clear p2
  try clear c8
  try clear c8b0
  try clear c8b1
  try clear hcz10_0
  try clear hcz10_1
  try clear hfz10_0
  try clear hfz10_1
  obtain ⟨kq, x30_5, rfl, HA, HJ5, HO_0, HO_349001, BK348, HB⟩ := hcut
  cases kq with
  | zero => exact absurd HA.out (by simp [waybilllaw10_NodeTells.j0])
  | succ kj5 =>
   have H := HA.out
   clear HA
   simp only [waybilllaw10_NodeTells.j0] at H
   by_cases c12 : x30_5 = true
   ·
    subst c12
    have H1 : ((waybilllaw10_awake.f kj5).bind fun t350 => (some t350)) = some r := by rw [if_pos rfl] at H; exact H
    clear H
    have H := H1
    clear H1
    replace H := Option.bind_eq_some_iff.mp H
    obtain ⟨t350, A130, H⟩ := H
    replace H : (some t350) = some r := H
    have A13 := Aside0.mk A130
    clear A130
    obtain rfl := Option.some.inj H
    go_wp2_with (first | ((with_reducible refine gate_callee (f := 21) rfl ?_); refine goesL_ (some 31) rfl rfl Try.func21 (by kernel_rfl) rfl #[] rfl (by (try simp only [List.map_toArray, List.map_cons, List.map_nil]); first | done | rfl | (simp only [List.length_drop, List.length_take]; rfl)) ?_; (with_reducible refine (waybilllaw10_awake.calls kj5  t350 _ A13.out).mono ?_); rintro e w14 ⟨rfl, hb⟩; refine ⟨_, rfl, ?_⟩; have n0_ := Aside0.mk (Kd.V_below (by exact HO_0.out) hb); have n1_ := Aside0.mk (Kd.V_below (by exact HO_349001.out) hb); have n2_ := Aside0.mk (blk_below (g := gb348) (o := .cells #[.bool a1_0, .slice A1_1 l1_1.length c1_1] 44 (0, 0)) (by exact BK348.out) hb); have n3_ := Aside0.mk (below_step (by repeat (first | (with_reducible first | exact HB.out | apply below_alloc | apply pw_below_drewN | apply below_drew1 | refine below_set ?_ GE348.out) | exact HB.out)) hb); clear HO_0; clear HO_349001; clear BK348; clear HB; have HO_0 := n0_; have HO_349001 := n1_; have BK348 := n2_; have HB := n3_; clear n0_ n1_ n2_ n3_; (try clear hb); (try clear hb2); (try clear hk); (try clear hi); (try clear hge)))
    all_goals first | (go_ret; exact ⟨by first | rfl | (simp [errW_none, errW_some]; done) | (simp [errW_none, errW_some]; rfl) | (simp [*, errW_none, errW_some]; done) | (simp [*, errW_none, errW_some]; rfl), by repeat (first | (with_reducible first | exact HB.out | apply below_alloc | apply pw_below_drewN | apply below_drew1 | refine below_set ?_ GE348.out) | exact HB.out)⟩) | (exfalso; simp_all; done)
   ·
    replace c12 := Bool.eq_false_iff.mpr c12
    subst c12
    have H1 : (waybilllaw10_NodeTells.l0 kj5 l0 a2 a3 a4 0 a1_0 l1_1) = some r := by rw [if_neg (show ¬ (false = true) by decide)] at H; exact H
    clear H
    have H := H1
    clear H1
    have H' := Aside0.mk H
    clear H
    go_wp2
    go_loopg [11] kj5 (fun kq v11 w' => ∃ (x0_2 : List Int) (x11_2 : Int) (x349000_2 : Bool) (x349001_2 : List (S41)) (u349001 : Value), v11 = .int .i64 x11_2 ∧ Aside0 (waybilllaw10_NodeTells.l0 kq x0_2 a2 a3 a4 x11_2 x349000_2 x349001_2 = some r) ∧ Aside0 (kq ≤ kj5) ∧ Aside0 (Kd.V (Kd.int .u8) 5 w' w.heap.size (fun k_ => ((P0_ k_ ∨ P1_1_ k_) ∨ w.heap.size ≤ k_) ∧ k_ ≠ gb348) (.slice A0 l0.length c0) x0_2) ∧ Aside0 (Kd.V k41 41 w' w.heap.size (fun k_ => ((P0_ k_ ∨ P1_1_ k_) ∨ w.heap.size ≤ k_) ∧ k_ ≠ gb348) u349001 x349001_2) ∧ Aside0 (w'.heap[gb348]? = some (.cells #[.bool x349000_2, u349001] 44 (0, 0))) ∧ Aside0 (Below w.heap.size w w'))
    case atStart => exact ⟨(l0), (0), (a1_0), (l1_1), (.slice A1_1 l1_1.length c1_1), (by first | rfl | (simp; done) | (simp [*]; done)), H', ⟨Nat.le_refl _⟩, ⟨by exact HO_0.out⟩, ⟨by exact HO_349001.out⟩, ⟨by exact BK348.out⟩, ⟨by repeat (first | (with_reducible first | exact HB.out | apply below_alloc | apply pw_below_drewN | apply below_drew1 | refine below_set ?_ GE348.out) | exact HB.out)⟩⟩
    case round =>
     clear H'
     try clear c1
     try clear c2
     try clear p2
     try clear c8
     try clear c8b0
     try clear c8b1
     try clear c12
     try clear hcz10_0
     try clear hcz10_1
     try clear hfz10_0
     try clear hfz10_1
     try clear p2
     obtain ⟨x0_2, x11_2, x349000_2, x349001_2, u349001, rfl, HA, HK2, HO_0, HO_349001, BK348, HB⟩ := hrel
     have hl0_2 := (Kd.V_reads' HO_0.out).1
     rw [hl0_2] at HO_0
     (try simp only [hl0_2])
     (try simp only [hl0_2] at BK348)
     (try simp only [hl0_2] at HO_349001)
     cases gk with
     | zero => exact absurd HA.out (by simp [waybilllaw10_NodeTells.l0])
     | succ k2 =>
      have H := HA.out
      clear HA
      simp only [waybilllaw10_NodeTells.l0] at H
      by_cases c15 : x11_2 < 2
      ·
       rw [if_pos c15] at H
       have c15b0 : decide (x11_2 < 2) = true := decide_eq_true c15
       clear c15
       replace H := Option.bind_eq_some_iff.mp H
       obtain ⟨⟨t352, t355⟩, A160, H⟩ := H
       replace H : ((waybillref7_NodeOk.f k2 x349000_2 x349001_2).bind fun t356 => (if (t355 != t356) = true then (waybilllaw10_NodeTells.j2 k2 x0_2 a2 a3 a4 x11_2 t352 t356 true x349000_2 x349001_2) else ((node_Ok.f k2 x349000_2 x349001_2).bind fun t357 => (if (t357 != t356) = true then (waybilllaw10_NodeTells.j2 k2 x0_2 a2 a3 a4 x11_2 t352 t356 true x349000_2 x349001_2) else ((node_Size.f k2 x349000_2 x349001_2).bind fun t358 => ((waybillref7_NodeSize.f k2 x349000_2 x349001_2).bind fun t359 => (waybilllaw10_NodeTells.j2 k2 x0_2 a2 a3 a4 x11_2 t352 t356 (t358 != t359) x349000_2 x349001_2))))))) = some r := H
       have A16 := Aside0.mk A160
       clear A160
       replace H := Option.bind_eq_some_iff.mp H
       obtain ⟨t356, A170, H⟩ := H
       replace H : (if (t355 != t356) = true then (waybilllaw10_NodeTells.j2 k2 x0_2 a2 a3 a4 x11_2 t352 t356 true x349000_2 x349001_2) else ((node_Ok.f k2 x349000_2 x349001_2).bind fun t357 => (if (t357 != t356) = true then (waybilllaw10_NodeTells.j2 k2 x0_2 a2 a3 a4 x11_2 t352 t356 true x349000_2 x349001_2) else ((node_Size.f k2 x349000_2 x349001_2).bind fun t358 => ((waybillref7_NodeSize.f k2 x349000_2 x349001_2).bind fun t359 => (waybilllaw10_NodeTells.j2 k2 x0_2 a2 a3 a4 x11_2 t352 t356 (t358 != t359) x349000_2 x349001_2)))))) = some r := H
       have A17 := Aside0.mk A170
       clear A170
       have HC18 := Aside0.mk H
       clear H
       have hcz19_0 : wr.cell? ⟨gb348, 0, none⟩ = some (.bool x349000_2) := (blk_cell BK348.out 0).trans rfl
       have hcz19_1 : wr.cell? ⟨gb348, 1, none⟩ = some (u349001) := (blk_cell BK348.out 1).trans rfl
       have hfz19_0 := blk_frozen BK348.out 0
       have hfz19_1 := blk_frozen BK348.out 1
       obtain ⟨Ao20, co20, eo20⟩ := Kd.V_slice HO_349001.out
       subst eo20
       go_upto_region 8 with (first | ((with_reducible refine gate_callee (f := 19) rfl ?_); refine goesL_ (some 38) rfl rfl Try.func19 (by kernel_rfl) rfl #[.agg #[.bool x349000_2, .slice Ao20 x349001_2.length co20]] rfl (by (try simp only [List.map_toArray, List.map_cons, List.map_nil]); first | done | rfl | (simp only [List.length_drop, List.length_take]; rfl)) ?_; (with_reducible refine (node_Append.calls k2 x349000_2 _ _ x349001_2 t352 t355 _ ?side1 ?side2 A16.out).mono ?_); (case side1 => repeat (first | exact (Kd.V_reads' HO_349001.out).2.2 | (with_reducible refine Kd.C_alloc ?_ _) | (with_reducible refine Kd.C_drewN ?_ _) | (with_reducible refine Kd.C_drew ?_))); (case side2 => exact (Kd.V_reads' HO_349001.out).2.1); rintro e w21 ⟨v353, rfl, ho0, hb⟩; refine ⟨_, rfl, ?_⟩; have n0_ := Aside0.mk (Kd.V_elder' (by exact HO_0.out) (Kd.R_base ho0) hb); have n1_ := Aside0.mk (Kd.V_elder' (by exact HO_349001.out) (Kd.R_base ho0) hb); have n2_ := Aside0.mk (Kd.R_lower (Kd.R_newM (M := fun k_ => (w.heap.size ≤ k_)) ho0 (below_size (by repeat (first | (with_reducible first | exact HB.out | apply below_alloc | apply pw_below_drewN | apply below_drew1 | refine below_set ?_ GE348.out) | exact HB.out))) (fun k_ h_ => h_)) (below_size (by repeat (first | (with_reducible first | exact HB.out | apply below_alloc | apply pw_below_drewN | apply below_drew1 | refine below_set ?_ GE348.out) | exact HB.out)))); have n3_ := Aside0.mk (blk_below (g := gb348) (o := .cells #[.bool x349000_2, .slice Ao20 x349001_2.length co20] 44 (0, 0)) (by exact BK348.out) hb); have n4_ := Aside0.mk (below_step (by repeat (first | (with_reducible first | exact HB.out | apply below_alloc | apply pw_below_drewN | apply below_drew1 | refine below_set ?_ GE348.out) | exact HB.out)) hb); clear HO_0; clear HO_349001; clear BK348; clear HB; have HO_0 := n0_; have HO_349001 := n1_; have HO354 := n2_; have BK348 := n3_; have HB := n4_; clear n0_ n1_ n2_ n3_ n4_; (try clear hb); (try clear hb2); (try clear hk); (try clear hi); (try clear hge); (try clear ho0); have hcz22_0 : w21.cell? ⟨gb348, 0, none⟩ = some (.bool x349000_2) := (blk_cell BK348.out 0).trans rfl; have hcz22_1 : w21.cell? ⟨gb348, 1, none⟩ = some (.slice Ao20 x349001_2.length co20) := (blk_cell BK348.out 1).trans rfl; have hfz22_0 := blk_frozen BK348.out 0; have hfz22_1 := blk_frozen BK348.out 1) | ((with_reducible refine gate_callee (f := 23) rfl ?_); refine goesL_ (some 42) rfl rfl Try.func23 (by kernel_rfl) rfl #[.agg #[.bool x349000_2, .slice Ao20 x349001_2.length co20]] rfl (by (try simp only [List.map_toArray, List.map_cons, List.map_nil]); first | done | rfl | (simp only [List.length_drop, List.length_take]; rfl)) ?_; (with_reducible refine (waybillref7_NodeOk.calls k2 x349000_2 _ _ x349001_2 t356 _ ?side1 ?side2 A17.out).mono ?_); (case side1 => repeat (first | exact (Kd.V_reads' HO_349001.out).2.2 | (with_reducible refine Kd.C_alloc ?_ _) | (with_reducible refine Kd.C_drewN ?_ _) | (with_reducible refine Kd.C_drew ?_))); (case side2 => exact (Kd.V_reads' HO_349001.out).2.1); rintro e w23 ⟨rfl, hb⟩; refine ⟨_, rfl, ?_⟩; have n0_ := Aside0.mk (Kd.V_below (by exact HO_0.out) hb); have n1_ := Aside0.mk (Kd.V_below (by exact HO_349001.out) hb); have n2_ := Aside0.mk (Kd.R_below (by exact HO354.out) hb); have n3_ := Aside0.mk (blk_below (g := gb348) (o := .cells #[.bool x349000_2, .slice Ao20 x349001_2.length co20] 44 (0, 0)) (by exact BK348.out) hb); have n4_ := Aside0.mk (below_step (by repeat (first | (with_reducible first | exact HB.out | apply below_alloc | apply pw_below_drewN | apply below_drew1 | refine below_set ?_ GE348.out) | exact HB.out)) hb); clear HO_0; clear HO_349001; clear HO354; clear BK348; clear HB; have HO_0 := n0_; have HO_349001 := n1_; have HO354 := n2_; have BK348 := n3_; have HB := n4_; clear n0_ n1_ n2_ n3_ n4_; (try clear hb); (try clear hb2); (try clear hk); (try clear hi); (try clear hge)))
       (try simp only [Act.put, List.setIfInBounds_toArray, List.set_cons_zero, List.set_cons_succ])
       go_cut [58] (fun v58 wc => ∃ (kq : Nat) (x58_17 : Bool), v58 = .bool x58_17 ∧ Aside0 (waybilllaw10_NodeTells.j2 kq x0_2 a2 a3 a4 x11_2 t352 t356 x58_17 x349000_2 x349001_2 = some r) ∧ Aside0 (kq ≤ k2) ∧ Aside0 (Kd.V (Kd.int .u8) 5 wc w.heap.size (fun k_ => ((P0_ k_ ∨ P1_1_ k_) ∨ w.heap.size ≤ k_) ∧ some k_ ≠ (v353 : Value).ownBlock ∧ k_ ≠ gb348) (.slice A0 x0_2.length c0) x0_2) ∧ Aside0 (Kd.R (Kd.int .u8) 5 wc w.heap.size (fun k_ => (w.heap.size ≤ k_)) v353 t352) ∧ Aside0 (Kd.V k41 41 wc w.heap.size (fun k_ => ((P0_ k_ ∨ P1_1_ k_) ∨ w.heap.size ≤ k_) ∧ some k_ ≠ (v353 : Value).ownBlock ∧ k_ ≠ gb348) (.slice Ao20 x349001_2.length co20) x349001_2) ∧ Aside0 (wc.heap[gb348]? = some (.cells #[.bool x349000_2, (.slice Ao20 x349001_2.length co20)] 44 (0, 0))) ∧ Aside0 (Below w.heap.size w wc))
       case first =>
        have H := HC18.out
        clear HC18
        by_cases c24 : (t355 != t356) = true
        ·
         rw [if_pos c24] at H
         have c24b0 : (t355 != t356) = true := c24
         (try (have c24b1 : decide (t355 = t356) = false := by simpa using c24))
         (try (have c24b2 : (t355 == t356) = false := by simpa using c24))
         (try (have c24b3 : ¬ (t355 = t356) := by simpa using c24))
         clear c24
         (first | rw [c24b0] | rw [c24b2] | rw [c24b1] | (simp only [i64_w, i32_w]; rw [c24b0]) | skip)
         have H' := Aside0.mk H
         clear H
         try go_wp2
         have n0_ := Aside0.mk (Kd.V_drew HO_0.out)
         have n1_ := Aside0.mk (Kd.V_drew HO_349001.out)
         have n2_ := Aside0.mk (Kd.R_drew HO354.out)
         have n3_ := Aside0.mk (blk_drew BK348.out)
         have n4_ := Aside0.mk (below_drew1 HB.out)
         clear HO_0
         clear HO_349001
         clear HO354
         clear BK348
         clear HB
         have HO_0 := n0_
         have HO_349001 := n1_
         have HO354 := n2_
         have BK348 := n3_
         have HB := n4_
         clear n0_ n1_ n2_ n3_ n4_
         refine start_ (n := 16) (S := fun w' => True) (ds := []) #[false, false, false, false, false, false, false, false, false, false, false, false, false, false, false, false] (by kernel_rfl) rfl rfl trivial (fun hHeld => ?_); refine with_tabW waybilllaw10_NodeTells.tab8 waybilllaw10_NodeTells.bits8 (fun HT_ HW_ => ?_)
         generalize w23.drew = w25 at HO_0 HO_349001 HO354 BK348 HB hHeld ⊢
         refine pure_ (i := 0) (N := some 43) (v := ?_) (a' := ?_) #[true, false, false, false, false, false, false, false, false, false, false, false, false, false, false, false] rfl rfl (any_of HT_.out (by kernel_rfl)) (fun _ _ _ h => h) (Or.inl ⟨by rfl, ?_⟩) ?_ ?_
         rotate_left
         ·
          intro w'
          go_simp
          with_reducible rfl
         rotate_left
         ·
          simp only [Act.put, List.setIfInBounds_toArray, List.set_cons_zero, List.set_cons_succ, i64_w, i32_w]
          rfl
         refine pure_ (i := 1) (N := some 44) (v := ?_) (a' := ?_) #[true, true, false, false, false, false, false, false, false, false, false, false, false, false, false, false] rfl rfl (any_of HT_.out (by kernel_rfl)) (fun _ _ _ h => h) (Or.inl ⟨by rfl, ?_⟩) ?_ ?_
         rotate_left
         ·
          intro w'
          go_simp
          with_reducible rfl
         rotate_left
         ·
          simp only [Act.put, List.setIfInBounds_toArray, List.set_cons_zero, List.set_cons_succ, i64_w, i32_w]
          rfl
         refine pure_ (i := 2) (N := some 45) (v := ?_) (a' := ?_) #[true, true, true, false, false, false, false, false, false, false, false, false, false, false, false, false] rfl rfl (any_of HT_.out (by kernel_rfl)) (fun _ _ _ h => h) (Or.inl ⟨by rfl, ?_⟩) ?_ ?_
         rotate_left
         ·
          intro w'
          go_simp
          with_reducible rfl
         rotate_left
         ·
          simp only [Act.put, List.setIfInBounds_toArray, List.set_cons_zero, List.set_cons_succ, i64_w, i32_w]
          rfl
         refine pure_ (i := 3) (N := some 46) (v := ?_) (a' := ?_) #[true, true, true, true, false, false, false, false, false, false, false, false, false, false, false, false] rfl rfl (any_of HT_.out (by kernel_rfl)) (fun _ _ _ h => h) (Or.inl ⟨by rfl, ?_⟩) ?_ ?_
         rotate_left
         ·
          intro w'
          go_simp
          with_reducible rfl
         rotate_left
         ·
          simp only [Act.put, List.setIfInBounds_toArray, List.set_cons_zero, List.set_cons_succ, i64_w, i32_w]
          rfl
         refine pure_ (i := 4) (N := some 47) (v := undef) (a' := ?_) #[true, true, true, true, true, false, false, false, false, false, false, false, false, false, false, false] rfl rfl (any_of HT_.out (by kernel_rfl)) (fun _ _ _ h => h) (Or.inr ⟨by rfl, rfl⟩) ?_ ?_
         rotate_left
         ·
          simp only [Act.put, List.setIfInBounds_toArray, List.set_cons_zero, List.set_cons_succ, i64_w, i32_w]
          rfl
         refine pure_ (i := 5) (N := some 48) (v := undef) (a' := ?_) #[true, true, true, true, true, true, false, false, false, false, false, false, false, false, false, false] rfl rfl (any_of HT_.out (by kernel_rfl)) (fun _ _ _ h => h) (Or.inr ⟨by rfl, rfl⟩) ?_ ?_
         rotate_left
         ·
          simp only [Act.put, List.setIfInBounds_toArray, List.set_cons_zero, List.set_cons_succ, i64_w, i32_w]
          rfl
         refine pure_ (i := 6) (N := some 49) (v := undef) (a' := ?_) #[true, true, true, true, true, true, true, false, false, false, false, false, false, false, false, false] rfl rfl (any_of HT_.out (by kernel_rfl)) (fun _ _ _ h => h) (Or.inr ⟨by rfl, rfl⟩) ?_ ?_
         rotate_left
         ·
          simp only [Act.put, List.setIfInBounds_toArray, List.set_cons_zero, List.set_cons_succ, i64_w, i32_w]
          rfl
         refine pure_ (i := 7) (N := some 50) (v := undef) (a' := ?_) #[true, true, true, true, true, true, true, true, false, false, false, false, false, false, false, false] rfl rfl (any_of HT_.out (by kernel_rfl)) (fun _ _ _ h => h) (Or.inr ⟨by rfl, rfl⟩) ?_ ?_
         rotate_left
         ·
          simp only [Act.put, List.setIfInBounds_toArray, List.set_cons_zero, List.set_cons_succ, i64_w, i32_w]
          rfl
         refine pure_ (i := 8) (N := some 51) (v := ?_) (a' := ?_) #[true, true, true, true, true, true, true, true, true, false, false, false, false, false, false, false] rfl rfl (any_of HT_.out (by kernel_rfl)) (fun _ _ _ h => h) (Or.inl ⟨by rfl, ?_⟩) ?_ ?_
         rotate_left
         ·
          intro w'
          go_simp
          with_reducible rfl
         rotate_left
         ·
          simp only [Act.put, List.setIfInBounds_toArray, List.set_cons_zero, List.set_cons_succ, i64_w, i32_w]
          rfl
         refine pure_ (i := 9) (N := some 52) (v := ?_) (a' := ?_) #[true, true, true, true, true, true, true, true, true, true, false, false, false, false, false, false] rfl rfl (any_of HT_.out (by kernel_rfl)) (fun _ _ _ h => h) (Or.inl ⟨by rfl, ?_⟩) ?_ ?_
         rotate_left
         ·
          intro w'
          go_simp
          with_reducible rfl
         rotate_left
         ·
          simp only [Act.put, List.setIfInBounds_toArray, List.set_cons_zero, List.set_cons_succ, i64_w, i32_w]
          rfl
         refine pure_ (i := 10) (N := some 53) (v := undef) (a' := ?_) #[true, true, true, true, true, true, true, true, true, true, true, false, false, false, false, false] rfl rfl (any_of HT_.out (by kernel_rfl)) (fun _ _ _ h => h) (Or.inr ⟨by rfl, rfl⟩) ?_ ?_
         rotate_left
         ·
          simp only [Act.put, List.setIfInBounds_toArray, List.set_cons_zero, List.set_cons_succ, i64_w, i32_w]
          rfl
         refine pure_ (i := 11) (N := some 54) (v := undef) (a' := ?_) #[true, true, true, true, true, true, true, true, true, true, true, true, false, false, false, false] rfl rfl (any_of HT_.out (by kernel_rfl)) (fun _ _ _ h => h) (Or.inr ⟨by rfl, rfl⟩) ?_ ?_
         rotate_left
         ·
          simp only [Act.put, List.setIfInBounds_toArray, List.set_cons_zero, List.set_cons_succ, i64_w, i32_w]
          rfl
         refine pure_ (i := 12) (N := some 55) (v := undef) (a' := ?_) #[true, true, true, true, true, true, true, true, true, true, true, true, true, false, false, false] rfl rfl (any_of HT_.out (by kernel_rfl)) (fun _ _ _ h => h) (Or.inr ⟨by rfl, rfl⟩) ?_ ?_
         rotate_left
         ·
          simp only [Act.put, List.setIfInBounds_toArray, List.set_cons_zero, List.set_cons_succ, i64_w, i32_w]
          rfl
         refine pure_ (i := 13) (N := some 56) (v := undef) (a' := ?_) #[true, true, true, true, true, true, true, true, true, true, true, true, true, true, false, false] rfl rfl (any_of HT_.out (by kernel_rfl)) (fun _ _ _ h => h) (Or.inr ⟨by rfl, rfl⟩) ?_ ?_
         rotate_left
         ·
          simp only [Act.put, List.setIfInBounds_toArray, List.set_cons_zero, List.set_cons_succ, i64_w, i32_w]
          rfl
         refine pure_ (i := 14) (N := some 57) (v := undef) (a' := ?_) #[true, true, true, true, true, true, true, true, true, true, true, true, true, true, true, false] rfl rfl (any_of HT_.out (by kernel_rfl)) (fun _ _ _ h => h) (Or.inr ⟨by rfl, rfl⟩) ?_ ?_
         rotate_left
         ·
          simp only [Act.put, List.setIfInBounds_toArray, List.set_cons_zero, List.set_cons_succ, i64_w, i32_w]
          rfl
         refine pure_ (i := 15) (N := some 58) (v := ?_) (a' := ?_) #[true, true, true, true, true, true, true, true, true, true, true, true, true, true, true, true] rfl rfl (any_of HT_.out (by kernel_rfl)) (fun _ _ _ h => h) (Or.inl ⟨by rfl, ?_⟩) ?_ ?_
         rotate_left
         ·
          intro w'
          go_simp
          with_reducible rfl
         rotate_left
         ·
          simp only [Act.put, List.setIfInBounds_toArray, List.set_cons_zero, List.set_cons_succ, i64_w, i32_w]
          rfl
         refine done_ (done_of HT_.out (by kernel_rfl)) ?_
         try go_wp2
         go_meet
         case rel => exact ⟨_, (true), (by first | rfl | (simp; done) | (simp [*]; done)), H', ⟨by have := HJ5.out; have := HK2.out; first | omega | exact Nat.le_refl _⟩, ⟨by (try simp only [hl0_2]); exact Kd.V_mono HO_0.out (fun _ hk => ⟨hk.1.1, ⟨hk.2, hk.1.2⟩⟩)⟩, ⟨by (try simp only [hl0_2]); exact Kd.R_mono HO354.out (fun _ hk => hk.1)⟩, ⟨by (try simp only [hl0_2]); exact Kd.V_mono HO_349001.out (fun _ hk => ⟨hk.1.1, ⟨hk.2, hk.1.2⟩⟩)⟩, ⟨by (try simp only [hl0_2]); exact BK348.out⟩, ⟨by repeat (first | (with_reducible first | exact HB.out | apply below_alloc | apply pw_below_drewN | apply below_drew1 | refine below_set ?_ GE348.out) | exact HB.out)⟩⟩
        ·
         rw [if_neg c24] at H
         have c24b0 : (t355 != t356) = false := by simpa using c24
         (try (have c24b1 : decide (t355 = t356) = true := by simpa using c24))
         (try (have c24b2 : (t355 == t356) = true := by simpa using c24))
         clear c24
         (first | rw [c24b0] | rw [c24b2] | rw [c24b1] | (simp only [i64_w, i32_w]; rw [c24b0]) | skip)
         replace H := Option.bind_eq_some_iff.mp H
         obtain ⟨t357, A260, H⟩ := H
         replace H : (if (t357 != t356) = true then (waybilllaw10_NodeTells.j2 k2 x0_2 a2 a3 a4 x11_2 t352 t356 true x349000_2 x349001_2) else ((node_Size.f k2 x349000_2 x349001_2).bind fun t358 => ((waybillref7_NodeSize.f k2 x349000_2 x349001_2).bind fun t359 => (waybilllaw10_NodeTells.j2 k2 x0_2 a2 a3 a4 x11_2 t352 t356 (t358 != t359) x349000_2 x349001_2)))) = some r := H
         have A26 := Aside0.mk A260
         clear A260
         by_cases c27 : (t357 != t356) = true
         ·
          rw [if_pos c27] at H
          have c27b0 : (t357 != t356) = true := c27
          (try (have c27b1 : decide (t357 = t356) = false := by simpa using c27))
          (try (have c27b2 : (t357 == t356) = false := by simpa using c27))
          (try (have c27b3 : ¬ (t357 = t356) := by simpa using c27))
          clear c27
          have H' := Aside0.mk H
          clear H
          try go_wp2
          have n0_ := Aside0.mk (Kd.V_drew HO_0.out)
          have n1_ := Aside0.mk (Kd.V_drew HO_349001.out)
          have n2_ := Aside0.mk (Kd.R_drew HO354.out)
          have n3_ := Aside0.mk (blk_drew BK348.out)
          have n4_ := Aside0.mk (below_drew1 HB.out)
          clear HO_0
          clear HO_349001
          clear HO354
          clear BK348
          clear HB
          have HO_0 := n0_
          have HO_349001 := n1_
          have HO354 := n2_
          have BK348 := n3_
          have HB := n4_
          clear n0_ n1_ n2_ n3_ n4_
          refine start_ (n := 16) (S := fun w' => w'.cell? ⟨gb348, 0, none⟩ = some (.bool x349000_2) ∧ w'.cell? ⟨gb348, 1, none⟩ = some (.slice Ao20 x349001_2.length co20)) (ds := []) #[false, false, false, false, false, false, false, false, false, false, false, false, false, false, false, false] (by kernel_rfl) rfl rfl ⟨(blk_cell BK348.out 0).trans rfl, (blk_cell BK348.out 1).trans rfl⟩ (fun hHeld => ?_); refine with_tabW waybilllaw10_NodeTells.tab8 waybilllaw10_NodeTells.bits8 (fun HT_ HW_ => ?_)
          generalize w23.drew = w28 at HO_0 HO_349001 HO354 BK348 HB hHeld ⊢
          refine pure_ (i := 0) (N := some 43) (v := ?_) (a' := ?_) #[true, false, false, false, false, false, false, false, false, false, false, false, false, false, false, false] rfl rfl (any_of HT_.out (by kernel_rfl)) (fun _ _ _ h => h) (Or.inl ⟨by rfl, ?_⟩) ?_ ?_
          rotate_left
          ·
           intro w'
           go_simp
           with_reducible rfl
          rotate_left
          ·
           simp only [Act.put, List.setIfInBounds_toArray, List.set_cons_zero, List.set_cons_succ, i64_w, i32_w]
           rfl
          refine pure_ (i := 1) (N := some 44) (v := ?_) (a' := ?_) #[true, true, false, false, false, false, false, false, false, false, false, false, false, false, false, false] rfl rfl (any_of HT_.out (by kernel_rfl)) (fun _ _ _ h => h) (Or.inl ⟨by rfl, ?_⟩) ?_ ?_
          rotate_left
          ·
           intro w'
           go_simp
           with_reducible rfl
          rotate_left
          ·
           simp only [Act.put, List.setIfInBounds_toArray, List.set_cons_zero, List.set_cons_succ, i64_w, i32_w]
           rfl
          refine pure_ (i := 2) (N := some 45) (v := ?_) (a' := ?_) #[true, true, true, false, false, false, false, false, false, false, false, false, false, false, false, false] rfl rfl (any_of HT_.out (by kernel_rfl)) (fun _ _ _ h => h) (Or.inl ⟨by rfl, ?_⟩) ?_ ?_
          rotate_left
          ·
           intro w'
           go_simp
           with_reducible rfl
          rotate_left
          ·
           simp only [Act.put, List.setIfInBounds_toArray, List.set_cons_zero, List.set_cons_succ, i64_w, i32_w]
           rfl
          refine pure_ (i := 3) (N := some 46) (v := ?_) (a' := ?_) #[true, true, true, true, false, false, false, false, false, false, false, false, false, false, false, false] rfl rfl (any_of HT_.out (by kernel_rfl)) (fun _ _ _ h => h) (Or.inl ⟨by rfl, ?_⟩) ?_ ?_
          rotate_left
          ·
           intro w'
           go_simp
           with_reducible rfl
          rotate_left
          ·
           simp only [Act.put, List.setIfInBounds_toArray, List.set_cons_zero, List.set_cons_succ, i64_w, i32_w]
           rfl
          refine pure_ (i := 6) (N := some 49) (v := ?_) (a' := ?_) #[true, true, true, true, false, false, true, false, false, false, false, false, false, false, false, false] rfl rfl (any_of HT_.out (by kernel_rfl)) (fun _ _ _ h => h) (Or.inl ⟨by rfl, ?_⟩) ?_ ?_
          rotate_left
          ·
           intro w'
           go_simp
           with_reducible rfl
          rotate_left
          ·
           simp only [Act.put, List.setIfInBounds_toArray, List.set_cons_zero, List.set_cons_succ, i64_w, i32_w]
           rfl
          refine take_ (i := 4) (N := some 47) (v := ?_) (a' := ?_) #[true, true, true, true, true, false, true, false, false, false, false, false, false, false, false, false] rfl rfl (take_ofW HT_.out HW_.out (by kernel_rfl)) (fun _ _ _ h => h) (Or.inl ⟨by rfl, ?_⟩) hHeld ?_ ?_
          rotate_left
          ·
           rintro w' ⟨s0, s1⟩
           go_simp
           with_reducible rfl
          rotate_left
          ·
           simp only [Act.put, List.setIfInBounds_toArray, List.set_cons_zero, List.set_cons_succ, i64_w, i32_w]
           rfl
          refine one_ (i := 5) (N := some 48) #[true, true, true, true, true, true, true, false, false, false, false, false, false, false, false, false] rfl rfl (one_of HT_.out (by kernel_rfl)) (by decide) (fun K hK => ?_)
          refine goes_ Try.func20 (by kernel_rfl) rfl #[.agg #[.bool x349000_2, .slice Ao20 x349001_2.length co20]] (by rfl) rfl rfl (by (try simp only [List.map_toArray, List.map_cons, List.map_nil]); first | done | rfl | (simp only [List.length_drop, List.length_take]; rfl)) ?_
          with_reducible refine (node_Ok.calls k2 x349000_2 _ _ x349001_2 t357 _ ?side1 ?side2 A26.out).mono ?_
          (case side1 => repeat (first | exact (Kd.V_reads' HO_349001.out).2.2 | (with_reducible refine Kd.C_alloc ?_ _) | (with_reducible refine Kd.C_drewN ?_ _) | (with_reducible refine Kd.C_drew ?_)))
          (case side2 => exact (Kd.V_reads' HO_349001.out).2.1)
          rintro e w29 ⟨rfl, hb⟩
          refine ⟨_, rfl, ?_⟩
          have n0_ := Aside0.mk (Kd.V_below (by exact HO_0.out) hb)
          have n1_ := Aside0.mk (Kd.V_below (by exact HO_349001.out) hb)
          have n2_ := Aside0.mk (Kd.R_below (by exact HO354.out) hb)
          have n3_ := Aside0.mk (blk_below (g := gb348) (o := .cells #[.bool x349000_2, .slice Ao20 x349001_2.length co20] 44 (0, 0)) (by exact BK348.out) hb)
          have n4_ := Aside0.mk (below_step (by repeat (first | (with_reducible first | exact HB.out | apply below_alloc | apply pw_below_drewN | apply below_drew1 | refine below_set ?_ GE348.out) | exact HB.out)) hb)
          clear HO_0
          clear HO_349001
          clear HO354
          clear BK348
          clear HB
          have HO_0 := n0_
          have HO_349001 := n1_
          have HO354 := n2_
          have BK348 := n3_
          have HB := n4_
          clear n0_ n1_ n2_ n3_ n4_
          (try clear hb)
          (try clear hb2)
          (try clear hk)
          (try clear hi)
          (try clear hge)
          refine hK.out _ _ ⟨(blk_cell BK348.out 0).trans rfl, (blk_cell BK348.out 1).trans rfl⟩ (fun hHeld => ?_)
          clear hK K
          refine norm_ (a' := ?_) ?_ ?_
          rotate_left
          ·
           show Act.put _ (some 48) _ = _
           simp only [Act.put, List.setIfInBounds_toArray, List.set_cons_zero, List.set_cons_succ, i64_w, i32_w]
           rfl
          refine pure_ (i := 7) (N := some 50) (v := ?_) (a' := ?_) #[true, true, true, true, true, true, true, true, false, false, false, false, false, false, false, false] rfl rfl (any_of HT_.out (by kernel_rfl)) (fun _ _ _ h => h) (Or.inl ⟨by rfl, ?_⟩) ?_ ?_
          rotate_left
          ·
           intro w'
           go_simp
           with_reducible rfl
          rotate_left
          ·
           simp only [Act.put, List.setIfInBounds_toArray, List.set_cons_zero, List.set_cons_succ, i64_w, i32_w]
           rfl
          refine pure_ (i := 8) (N := some 51) (v := ?_) (a' := ?_) #[true, true, true, true, true, true, true, true, true, false, false, false, false, false, false, false] rfl rfl (any_of HT_.out (by kernel_rfl)) (fun _ _ _ h => h) (Or.inl ⟨by rfl, ?_⟩) ?_ ?_
          rotate_left
          ·
           intro w'
           go_simp
           with_reducible rfl
          rotate_left
          ·
           simp only [Act.put, List.setIfInBounds_toArray, List.set_cons_zero, List.set_cons_succ, i64_w, i32_w]
           rfl
          refine pure_ (i := 9) (N := some 52) (v := ?_) (a' := ?_) #[true, true, true, true, true, true, true, true, true, true, false, false, false, false, false, false] rfl rfl (any_of HT_.out (by kernel_rfl)) (fun _ _ _ h => h) (Or.inl ⟨by rfl, ?_⟩) ?_ ?_
          rotate_left
          ·
           intro w'
           go_simp
           with_reducible rfl
          rotate_left
          ·
           simp only [Act.put, List.setIfInBounds_toArray, List.set_cons_zero, List.set_cons_succ, i64_w, i32_w]
           rfl
          refine pure_ (i := 10) (N := some 53) (v := undef) (a' := ?_) #[true, true, true, true, true, true, true, true, true, true, true, false, false, false, false, false] rfl rfl (any_of HT_.out (by kernel_rfl)) (fun _ _ _ h => h) (Or.inr ⟨by rfl, rfl⟩) ?_ ?_
          rotate_left
          ·
           simp only [Act.put, List.setIfInBounds_toArray, List.set_cons_zero, List.set_cons_succ, i64_w, i32_w]
           rfl
          refine pure_ (i := 11) (N := some 54) (v := undef) (a' := ?_) #[true, true, true, true, true, true, true, true, true, true, true, true, false, false, false, false] rfl rfl (any_of HT_.out (by kernel_rfl)) (fun _ _ _ h => h) (Or.inr ⟨by rfl, rfl⟩) ?_ ?_
          rotate_left
          ·
           simp only [Act.put, List.setIfInBounds_toArray, List.set_cons_zero, List.set_cons_succ, i64_w, i32_w]
           rfl
          refine pure_ (i := 12) (N := some 55) (v := undef) (a' := ?_) #[true, true, true, true, true, true, true, true, true, true, true, true, true, false, false, false] rfl rfl (any_of HT_.out (by kernel_rfl)) (fun _ _ _ h => h) (Or.inr ⟨by rfl, rfl⟩) ?_ ?_
          rotate_left
          ·
           simp only [Act.put, List.setIfInBounds_toArray, List.set_cons_zero, List.set_cons_succ, i64_w, i32_w]
           rfl
          refine pure_ (i := 13) (N := some 56) (v := undef) (a' := ?_) #[true, true, true, true, true, true, true, true, true, true, true, true, true, true, false, false] rfl rfl (any_of HT_.out (by kernel_rfl)) (fun _ _ _ h => h) (Or.inr ⟨by rfl, rfl⟩) ?_ ?_
          rotate_left
          ·
           simp only [Act.put, List.setIfInBounds_toArray, List.set_cons_zero, List.set_cons_succ, i64_w, i32_w]
           rfl
          refine pure_ (i := 14) (N := some 57) (v := undef) (a' := ?_) #[true, true, true, true, true, true, true, true, true, true, true, true, true, true, true, false] rfl rfl (any_of HT_.out (by kernel_rfl)) (fun _ _ _ h => h) (Or.inr ⟨by rfl, rfl⟩) ?_ ?_
          rotate_left
          ·
           simp only [Act.put, List.setIfInBounds_toArray, List.set_cons_zero, List.set_cons_succ, i64_w, i32_w]
           rfl
          refine pure_ (i := 15) (N := some 58) (v := ?_) (a' := ?_) #[true, true, true, true, true, true, true, true, true, true, true, true, true, true, true, true] rfl rfl (any_of HT_.out (by kernel_rfl)) (fun _ _ _ h => h) (Or.inl ⟨by rfl, ?_⟩) ?_ ?_
          rotate_left
          ·
           intro w'
           go_simp
           with_reducible rfl
          rotate_left
          ·
           simp only [Act.put, List.setIfInBounds_toArray, List.set_cons_zero, List.set_cons_succ, i64_w, i32_w]
           rfl
          refine done_ (done_of HT_.out (by kernel_rfl)) ?_
          try go_wp2
          go_meet
          case rel => exact ⟨_, (true), (by first | rfl | (simp; done) | (simp [*]; done)), H', ⟨by have := HJ5.out; have := HK2.out; first | omega | exact Nat.le_refl _⟩, ⟨by (try simp only [hl0_2]); exact Kd.V_mono HO_0.out (fun _ hk => ⟨hk.1.1, ⟨hk.2, hk.1.2⟩⟩)⟩, ⟨by (try simp only [hl0_2]); exact Kd.R_mono HO354.out (fun _ hk => hk.1)⟩, ⟨by (try simp only [hl0_2]); exact Kd.V_mono HO_349001.out (fun _ hk => ⟨hk.1.1, ⟨hk.2, hk.1.2⟩⟩)⟩, ⟨by (try simp only [hl0_2]); exact BK348.out⟩, ⟨by repeat (first | (with_reducible first | exact HB.out | apply below_alloc | apply pw_below_drewN | apply below_drew1 | refine below_set ?_ GE348.out) | exact HB.out)⟩⟩
         ·
          rw [if_neg c27] at H
          have c27b0 : (t357 != t356) = false := by simpa using c27
          (try (have c27b1 : decide (t357 = t356) = true := by simpa using c27))
          (try (have c27b2 : (t357 == t356) = true := by simpa using c27))
          clear c27
          replace H := Option.bind_eq_some_iff.mp H
          obtain ⟨t358, A300, H⟩ := H
          replace H : ((waybillref7_NodeSize.f k2 x349000_2 x349001_2).bind fun t359 => (waybilllaw10_NodeTells.j2 k2 x0_2 a2 a3 a4 x11_2 t352 t356 (t358 != t359) x349000_2 x349001_2)) = some r := H
          have A30 := Aside0.mk A300
          clear A300
          replace H := Option.bind_eq_some_iff.mp H
          obtain ⟨t359, A310, H⟩ := H
          replace H : (waybilllaw10_NodeTells.j2 k2 x0_2 a2 a3 a4 x11_2 t352 t356 (t358 != t359) x349000_2 x349001_2) = some r := H
          have A31 := Aside0.mk A310
          clear A310
          have H' := Aside0.mk H
          clear H
          try go_wp2
          have n0_ := Aside0.mk (Kd.V_drew HO_0.out)
          have n1_ := Aside0.mk (Kd.V_drew HO_349001.out)
          have n2_ := Aside0.mk (Kd.R_drew HO354.out)
          have n3_ := Aside0.mk (blk_drew BK348.out)
          have n4_ := Aside0.mk (below_drew1 HB.out)
          clear HO_0
          clear HO_349001
          clear HO354
          clear BK348
          clear HB
          have HO_0 := n0_
          have HO_349001 := n1_
          have HO354 := n2_
          have BK348 := n3_
          have HB := n4_
          clear n0_ n1_ n2_ n3_ n4_
          refine start_ (n := 16) (S := fun w' => w'.cell? ⟨gb348, 0, none⟩ = some (.bool x349000_2) ∧ w'.cell? ⟨gb348, 1, none⟩ = some (.slice Ao20 x349001_2.length co20)) (ds := []) #[false, false, false, false, false, false, false, false, false, false, false, false, false, false, false, false] (by kernel_rfl) rfl rfl ⟨(blk_cell BK348.out 0).trans rfl, (blk_cell BK348.out 1).trans rfl⟩ (fun hHeld => ?_); refine with_tabW waybilllaw10_NodeTells.tab8 waybilllaw10_NodeTells.bits8 (fun HT_ HW_ => ?_)
          generalize w23.drew = w32 at HO_0 HO_349001 HO354 BK348 HB hHeld ⊢
          refine pure_ (i := 0) (N := some 43) (v := ?_) (a' := ?_) #[true, false, false, false, false, false, false, false, false, false, false, false, false, false, false, false] rfl rfl (any_of HT_.out (by kernel_rfl)) (fun _ _ _ h => h) (Or.inl ⟨by rfl, ?_⟩) ?_ ?_
          rotate_left
          ·
           intro w'
           go_simp
           with_reducible rfl
          rotate_left
          ·
           simp only [Act.put, List.setIfInBounds_toArray, List.set_cons_zero, List.set_cons_succ, i64_w, i32_w]
           rfl
          refine pure_ (i := 1) (N := some 44) (v := ?_) (a' := ?_) #[true, true, false, false, false, false, false, false, false, false, false, false, false, false, false, false] rfl rfl (any_of HT_.out (by kernel_rfl)) (fun _ _ _ h => h) (Or.inl ⟨by rfl, ?_⟩) ?_ ?_
          rotate_left
          ·
           intro w'
           go_simp
           with_reducible rfl
          rotate_left
          ·
           simp only [Act.put, List.setIfInBounds_toArray, List.set_cons_zero, List.set_cons_succ, i64_w, i32_w]
           rfl
          refine pure_ (i := 2) (N := some 45) (v := ?_) (a' := ?_) #[true, true, true, false, false, false, false, false, false, false, false, false, false, false, false, false] rfl rfl (any_of HT_.out (by kernel_rfl)) (fun _ _ _ h => h) (Or.inl ⟨by rfl, ?_⟩) ?_ ?_
          rotate_left
          ·
           intro w'
           go_simp
           with_reducible rfl
          rotate_left
          ·
           simp only [Act.put, List.setIfInBounds_toArray, List.set_cons_zero, List.set_cons_succ, i64_w, i32_w]
           rfl
          refine pure_ (i := 3) (N := some 46) (v := ?_) (a' := ?_) #[true, true, true, true, false, false, false, false, false, false, false, false, false, false, false, false] rfl rfl (any_of HT_.out (by kernel_rfl)) (fun _ _ _ h => h) (Or.inl ⟨by rfl, ?_⟩) ?_ ?_
          rotate_left
          ·
           intro w'
           go_simp
           with_reducible rfl
          rotate_left
          ·
           simp only [Act.put, List.setIfInBounds_toArray, List.set_cons_zero, List.set_cons_succ, i64_w, i32_w]
           rfl
          refine pure_ (i := 6) (N := some 49) (v := ?_) (a' := ?_) #[true, true, true, true, false, false, true, false, false, false, false, false, false, false, false, false] rfl rfl (any_of HT_.out (by kernel_rfl)) (fun _ _ _ h => h) (Or.inl ⟨by rfl, ?_⟩) ?_ ?_
          rotate_left
          ·
           intro w'
           go_simp
           with_reducible rfl
          rotate_left
          ·
           simp only [Act.put, List.setIfInBounds_toArray, List.set_cons_zero, List.set_cons_succ, i64_w, i32_w]
           rfl
          refine take_ (i := 4) (N := some 47) (v := ?_) (a' := ?_) #[true, true, true, true, true, false, true, false, false, false, false, false, false, false, false, false] rfl rfl (take_ofW HT_.out HW_.out (by kernel_rfl)) (fun _ _ _ h => h) (Or.inl ⟨by rfl, ?_⟩) hHeld ?_ ?_
          rotate_left
          ·
           rintro w' ⟨s0, s1⟩
           go_simp
           with_reducible rfl
          rotate_left
          ·
           simp only [Act.put, List.setIfInBounds_toArray, List.set_cons_zero, List.set_cons_succ, i64_w, i32_w]
           rfl
          refine one_ (i := 5) (N := some 48) #[true, true, true, true, true, true, true, false, false, false, false, false, false, false, false, false] rfl rfl (one_of HT_.out (by kernel_rfl)) (by decide) (fun K hK => ?_)
          refine goes_ Try.func20 (by kernel_rfl) rfl #[.agg #[.bool x349000_2, .slice Ao20 x349001_2.length co20]] (by rfl) rfl rfl (by (try simp only [List.map_toArray, List.map_cons, List.map_nil]); first | done | rfl | (simp only [List.length_drop, List.length_take]; rfl)) ?_
          with_reducible refine (node_Ok.calls k2 x349000_2 _ _ x349001_2 t357 _ ?side1 ?side2 A26.out).mono ?_
          (case side1 => repeat (first | exact (Kd.V_reads' HO_349001.out).2.2 | (with_reducible refine Kd.C_alloc ?_ _) | (with_reducible refine Kd.C_drewN ?_ _) | (with_reducible refine Kd.C_drew ?_)))
          (case side2 => exact (Kd.V_reads' HO_349001.out).2.1)
          rintro e w33 ⟨rfl, hb⟩
          refine ⟨_, rfl, ?_⟩
          have n0_ := Aside0.mk (Kd.V_below (by exact HO_0.out) hb)
          have n1_ := Aside0.mk (Kd.V_below (by exact HO_349001.out) hb)
          have n2_ := Aside0.mk (Kd.R_below (by exact HO354.out) hb)
          have n3_ := Aside0.mk (blk_below (g := gb348) (o := .cells #[.bool x349000_2, .slice Ao20 x349001_2.length co20] 44 (0, 0)) (by exact BK348.out) hb)
          have n4_ := Aside0.mk (below_step (by repeat (first | (with_reducible first | exact HB.out | apply below_alloc | apply pw_below_drewN | apply below_drew1 | refine below_set ?_ GE348.out) | exact HB.out)) hb)
          clear HO_0
          clear HO_349001
          clear HO354
          clear BK348
          clear HB
          have HO_0 := n0_
          have HO_349001 := n1_
          have HO354 := n2_
          have BK348 := n3_
          have HB := n4_
          clear n0_ n1_ n2_ n3_ n4_
          (try clear hb)
          (try clear hb2)
          (try clear hk)
          (try clear hi)
          (try clear hge)
          refine hK.out _ _ ⟨(blk_cell BK348.out 0).trans rfl, (blk_cell BK348.out 1).trans rfl⟩ (fun hHeld => ?_)
          clear hK K
          refine norm_ (a' := ?_) ?_ ?_
          rotate_left
          ·
           show Act.put _ (some 48) _ = _
           simp only [Act.put, List.setIfInBounds_toArray, List.set_cons_zero, List.set_cons_succ, i64_w, i32_w]
           rfl
          refine pure_ (i := 7) (N := some 50) (v := ?_) (a' := ?_) #[true, true, true, true, true, true, true, true, false, false, false, false, false, false, false, false] rfl rfl (any_of HT_.out (by kernel_rfl)) (fun _ _ _ h => h) (Or.inl ⟨by rfl, ?_⟩) ?_ ?_
          rotate_left
          ·
           intro w'
           go_simp
           with_reducible rfl
          rotate_left
          ·
           simp only [Act.put, List.setIfInBounds_toArray, List.set_cons_zero, List.set_cons_succ, i64_w, i32_w]
           rfl
          refine pure_ (i := 8) (N := some 51) (v := ?_) (a' := ?_) #[true, true, true, true, true, true, true, true, true, false, false, false, false, false, false, false] rfl rfl (any_of HT_.out (by kernel_rfl)) (fun _ _ _ h => h) (Or.inl ⟨by rfl, ?_⟩) ?_ ?_
          rotate_left
          ·
           intro w'
           go_simp
           with_reducible rfl
          rotate_left
          ·
           simp only [Act.put, List.setIfInBounds_toArray, List.set_cons_zero, List.set_cons_succ, i64_w, i32_w]
           rfl
          refine pure_ (i := 9) (N := some 52) (v := ?_) (a' := ?_) #[true, true, true, true, true, true, true, true, true, true, false, false, false, false, false, false] rfl rfl (any_of HT_.out (by kernel_rfl)) (fun _ _ _ h => h) (Or.inl ⟨by rfl, ?_⟩) ?_ ?_
          rotate_left
          ·
           intro w'
           go_simp
           with_reducible rfl
          rotate_left
          ·
           simp only [Act.put, List.setIfInBounds_toArray, List.set_cons_zero, List.set_cons_succ, i64_w, i32_w]
           rfl
          refine take_ (i := 10) (N := some 53) (v := ?_) (a' := ?_) #[true, true, true, true, true, true, true, true, true, true, true, false, false, false, false, false] rfl rfl (take_ofW HT_.out HW_.out (by kernel_rfl)) (fun _ _ _ h => h) (Or.inl ⟨by rfl, ?_⟩) hHeld ?_ ?_
          rotate_left
          ·
           rintro w' ⟨s0, s1⟩
           go_simp
           with_reducible rfl
          rotate_left
          ·
           simp only [Act.put, List.setIfInBounds_toArray, List.set_cons_zero, List.set_cons_succ, i64_w, i32_w]
           rfl
          refine take_ (i := 12) (N := some 55) (v := ?_) (a' := ?_) #[true, true, true, true, true, true, true, true, true, true, true, false, true, false, false, false] rfl rfl (take_ofW HT_.out HW_.out (by kernel_rfl)) (fun _ _ _ h => h) (Or.inl ⟨by rfl, ?_⟩) hHeld ?_ ?_
          rotate_left
          ·
           rintro w' ⟨s0, s1⟩
           go_simp
           with_reducible rfl
          rotate_left
          ·
           simp only [Act.put, List.setIfInBounds_toArray, List.set_cons_zero, List.set_cons_succ, i64_w, i32_w]
           rfl
          refine one_ (i := 11) (N := some 54) #[true, true, true, true, true, true, true, true, true, true, true, true, true, false, false, false] rfl rfl (one_of HT_.out (by kernel_rfl)) (by decide) (fun K hK => ?_)
          refine goes_ Try.func24 (by kernel_rfl) rfl #[.agg #[.bool x349000_2, .slice Ao20 x349001_2.length co20]] (by rfl) rfl rfl (by (try simp only [List.map_toArray, List.map_cons, List.map_nil]); first | done | rfl | (simp only [List.length_drop, List.length_take]; rfl)) ?_
          with_reducible refine (node_Size.calls k2 x349000_2 _ _ x349001_2 t358 _ ?side1 ?side2 A30.out).mono ?_
          (case side1 => repeat (first | exact (Kd.V_reads' HO_349001.out).2.2 | (with_reducible refine Kd.C_alloc ?_ _) | (with_reducible refine Kd.C_drewN ?_ _) | (with_reducible refine Kd.C_drew ?_)))
          (case side2 => exact (Kd.V_reads' HO_349001.out).2.1)
          rintro e w34 ⟨rfl, hb⟩
          refine ⟨_, rfl, ?_⟩
          have n0_ := Aside0.mk (Kd.V_below (by exact HO_0.out) hb)
          have n1_ := Aside0.mk (Kd.V_below (by exact HO_349001.out) hb)
          have n2_ := Aside0.mk (Kd.R_below (by exact HO354.out) hb)
          have n3_ := Aside0.mk (blk_below (g := gb348) (o := .cells #[.bool x349000_2, .slice Ao20 x349001_2.length co20] 44 (0, 0)) (by exact BK348.out) hb)
          have n4_ := Aside0.mk (below_step (by repeat (first | (with_reducible first | exact HB.out | apply below_alloc | apply pw_below_drewN | apply below_drew1 | refine below_set ?_ GE348.out) | exact HB.out)) hb)
          clear HO_0
          clear HO_349001
          clear HO354
          clear BK348
          clear HB
          have HO_0 := n0_
          have HO_349001 := n1_
          have HO354 := n2_
          have BK348 := n3_
          have HB := n4_
          clear n0_ n1_ n2_ n3_ n4_
          (try clear hb)
          (try clear hb2)
          (try clear hk)
          (try clear hi)
          (try clear hge)
          refine hK.out _ _ ⟨(blk_cell BK348.out 0).trans rfl, (blk_cell BK348.out 1).trans rfl⟩ (fun hHeld => ?_)
          clear hK K
          refine norm_ (a' := ?_) ?_ ?_
          rotate_left
          ·
           show Act.put _ (some 54) _ = _
           simp only [Act.put, List.setIfInBounds_toArray, List.set_cons_zero, List.set_cons_succ, i64_w, i32_w]
           rfl
          refine one_ (i := 13) (N := some 56) #[true, true, true, true, true, true, true, true, true, true, true, true, true, true, false, false] rfl rfl (one_of HT_.out (by kernel_rfl)) (by decide) (fun K hK => ?_)
          refine goes_ Try.func25 (by kernel_rfl) rfl #[.agg #[.bool x349000_2, .slice Ao20 x349001_2.length co20]] (by rfl) rfl rfl (by (try simp only [List.map_toArray, List.map_cons, List.map_nil]); first | done | rfl | (simp only [List.length_drop, List.length_take]; rfl)) ?_
          with_reducible refine (waybillref7_NodeSize.calls k2 x349000_2 _ _ x349001_2 t359 _ ?side1 ?side2 A31.out).mono ?_
          (case side1 => repeat (first | exact (Kd.V_reads' HO_349001.out).2.2 | (with_reducible refine Kd.C_alloc ?_ _) | (with_reducible refine Kd.C_drewN ?_ _) | (with_reducible refine Kd.C_drew ?_)))
          (case side2 => exact (Kd.V_reads' HO_349001.out).2.1)
          rintro e w35 ⟨rfl, hb⟩
          refine ⟨_, rfl, ?_⟩
          have n0_ := Aside0.mk (Kd.V_below (by exact HO_0.out) hb)
          have n1_ := Aside0.mk (Kd.V_below (by exact HO_349001.out) hb)
          have n2_ := Aside0.mk (Kd.R_below (by exact HO354.out) hb)
          have n3_ := Aside0.mk (blk_below (g := gb348) (o := .cells #[.bool x349000_2, .slice Ao20 x349001_2.length co20] 44 (0, 0)) (by exact BK348.out) hb)
          have n4_ := Aside0.mk (below_step (by repeat (first | (with_reducible first | exact HB.out | apply below_alloc | apply pw_below_drewN | apply below_drew1 | refine below_set ?_ GE348.out) | exact HB.out)) hb)
          clear HO_0
          clear HO_349001
          clear HO354
          clear BK348
          clear HB
          have HO_0 := n0_
          have HO_349001 := n1_
          have HO354 := n2_
          have BK348 := n3_
          have HB := n4_
          clear n0_ n1_ n2_ n3_ n4_
          (try clear hb)
          (try clear hb2)
          (try clear hk)
          (try clear hi)
          (try clear hge)
          refine hK.out _ _ ⟨(blk_cell BK348.out 0).trans rfl, (blk_cell BK348.out 1).trans rfl⟩ (fun hHeld => ?_)
          clear hK K
          refine norm_ (a' := ?_) ?_ ?_
          rotate_left
          ·
           show Act.put _ (some 56) _ = _
           simp only [Act.put, List.setIfInBounds_toArray, List.set_cons_zero, List.set_cons_succ, i64_w, i32_w]
           rfl
          refine pure_ (i := 14) (N := some 57) (v := ?_) (a' := ?_) #[true, true, true, true, true, true, true, true, true, true, true, true, true, true, true, false] rfl rfl (any_of HT_.out (by kernel_rfl)) (fun _ _ _ h => h) (Or.inl ⟨by rfl, ?_⟩) ?_ ?_
          rotate_left
          ·
           intro w'
           go_simp
           with_reducible rfl
          rotate_left
          ·
           simp only [Act.put, List.setIfInBounds_toArray, List.set_cons_zero, List.set_cons_succ, i64_w, i32_w]
           rfl
          refine pure_ (i := 15) (N := some 58) (v := ?_) (a' := ?_) #[true, true, true, true, true, true, true, true, true, true, true, true, true, true, true, true] rfl rfl (any_of HT_.out (by kernel_rfl)) (fun _ _ _ h => h) (Or.inl ⟨by rfl, ?_⟩) ?_ ?_
          rotate_left
          ·
           intro w'
           go_simp
           with_reducible rfl
          rotate_left
          ·
           simp only [Act.put, List.setIfInBounds_toArray, List.set_cons_zero, List.set_cons_succ, i64_w, i32_w]
           rfl
          refine done_ (done_of HT_.out (by kernel_rfl)) ?_
          try go_wp2
          go_meet
          case rel => exact ⟨_, ((t358 != t359)), (by first | rfl | (simp; done) | (simp [*]; done)), H', ⟨by have := HJ5.out; have := HK2.out; first | omega | exact Nat.le_refl _⟩, ⟨by (try simp only [hl0_2]); exact Kd.V_mono HO_0.out (fun _ hk => ⟨hk.1.1, ⟨hk.2, hk.1.2⟩⟩)⟩, ⟨by (try simp only [hl0_2]); exact Kd.R_mono HO354.out (fun _ hk => hk.1)⟩, ⟨by (try simp only [hl0_2]); exact Kd.V_mono HO_349001.out (fun _ hk => ⟨hk.1.1, ⟨hk.2, hk.1.2⟩⟩)⟩, ⟨by (try simp only [hl0_2]); exact BK348.out⟩, ⟨by repeat (first | (with_reducible first | exact HB.out | apply below_alloc | apply pw_below_drewN | apply below_drew1 | refine below_set ?_ GE348.out) | exact HB.out)⟩⟩
       case rest =>
        clear HC18
        try clear c1
        try clear c2
        try clear p2
        try clear c12
        try clear c15
        try clear c15b0
        try clear c19
        try clear c20
        try clear c23
        try clear c24
        try clear c24b0
        try clear c24b1
        try clear c24b2
        try clear c25
        try clear c27
        try clear c27b0
        try clear c27b1
        try clear c27b2
        try clear hcz10_0
        try clear hcz10_1
        try clear hcz19_0
        try clear hcz19_1
        try clear hcz22_0
        try clear hcz22_1
        try clear hfz10_0
        try clear hfz10_1
        try clear hfz19_0
        try clear hfz19_1
        try clear hfz22_0
        try clear hfz22_1
        try clear p2
        obtain ⟨kq, x58_17, rfl, HA, HJ17, HO_0, HO_12, HO_349001, BK348, HB⟩ := hcut
        cases kq with
        | zero => exact absurd HA.out (by simp [waybilllaw10_NodeTells.j2])
        | succ kj17 =>
         have H := HA.out
         clear HA
         simp only [waybilllaw10_NodeTells.j2] at H
         by_cases c36 : x58_17 = true
         ·
          subst c36
          have H1 : (none) = some r := by rw [if_pos rfl] at H; exact H
          clear H
          have H := H1
          clear H1
          exact absurd H (by simp)
         ·
          replace c36 := Bool.eq_false_iff.mpr c36
          subst c36
          have H1 : (if t356 = true then ((waybillref7_Node.f kj17 x349000_2 x349001_2).bind fun t360 => (waybilllaw10_NodeTells.j3 kj17 x0_2 a2 a3 a4 x11_2 t352 t360 x349000_2 x349001_2)) else (waybilllaw10_NodeTells.j3 kj17 x0_2 a2 a3 a4 x11_2 t352 ([] : List Int) x349000_2 x349001_2)) = some r := by rw [if_neg (show ¬ (false = true) by decide)] at H; exact H
          clear H
          have H := H1
          clear H1
          have HC37 := Aside0.mk H
          clear H
          go_upto_if 59 with (fail)
          go_cut [15] (fun v15 wc => ∃ (kq : Nat) (x15_36 : List Int), Aside0 (waybilllaw10_NodeTells.j3 kq x0_2 a2 a3 a4 x11_2 t352 x15_36 x349000_2 x349001_2 = some r) ∧ Aside0 (kq ≤ kj17) ∧ Aside0 (Kd.V (Kd.int .u8) 5 wc w.heap.size (fun k_ => ((P0_ k_ ∨ P1_1_ k_) ∨ w.heap.size ≤ k_) ∧ some k_ ≠ (v353 : Value).ownBlock ∧ some k_ ≠ (v15 : Value).ownBlock ∧ k_ ≠ gb348) (.slice A0 x0_2.length c0) x0_2) ∧ Aside0 (Kd.R (Kd.int .u8) 5 wc w.heap.size (fun k_ => (w.heap.size ≤ k_) ∧ some k_ ≠ (v15 : Value).ownBlock) v353 t352) ∧ Aside0 (Kd.R (Kd.int .u8) 5 wc w.heap.size (fun k_ => (w.heap.size ≤ k_) ∧ some k_ ≠ (v353 : Value).ownBlock) v15 x15_36) ∧ Aside0 (Kd.V k41 41 wc w.heap.size (fun k_ => ((P0_ k_ ∨ P1_1_ k_) ∨ w.heap.size ≤ k_) ∧ some k_ ≠ (v353 : Value).ownBlock ∧ some k_ ≠ (v15 : Value).ownBlock ∧ k_ ≠ gb348) (.slice Ao20 x349001_2.length co20) x349001_2) ∧ Aside0 (wc.heap[gb348]? = some (.cells #[.bool x349000_2, (.slice Ao20 x349001_2.length co20)] 44 (0, 0))) ∧ Aside0 (Below w.heap.size w wc))
          case first =>
           have H := HC37.out
           clear HC37
           by_cases c38 : t356 = true
           ·
            subst c38
            have H1 : ((waybillref7_Node.f kj17 x349000_2 x349001_2).bind fun t360 => (waybilllaw10_NodeTells.j3 kj17 x0_2 a2 a3 a4 x11_2 t352 t360 x349000_2 x349001_2)) = some r := by rw [if_pos rfl] at H; exact H
            clear H
            have H := H1
            clear H1
            replace H := Option.bind_eq_some_iff.mp H
            obtain ⟨t360, A390, H⟩ := H
            replace H : (waybilllaw10_NodeTells.j3 kj17 x0_2 a2 a3 a4 x11_2 t352 t360 x349000_2 x349001_2) = some r := H
            have A39 := Aside0.mk A390
            clear A390
            have H' := Aside0.mk H
            clear H
            have hcz40_0 : wc.cell? ⟨gb348, 0, none⟩ = some (.bool x349000_2) := (blk_cell BK348.out 0).trans rfl
            have hcz40_1 : wc.cell? ⟨gb348, 1, none⟩ = some (.slice Ao20 x349001_2.length co20) := (blk_cell BK348.out 1).trans rfl
            have hfz40_0 := blk_frozen BK348.out 0
            have hfz40_1 := blk_frozen BK348.out 1
            go_wp2_with (first | ((with_reducible refine gate_callee (f := 26) rfl ?_); refine goesL_ (some 61) rfl rfl Try.func26 (by kernel_rfl) rfl #[.agg #[.bool x349000_2, .slice Ao20 x349001_2.length co20]] rfl (by (try simp only [List.map_toArray, List.map_cons, List.map_nil]); first | done | rfl | (simp only [List.length_drop, List.length_take]; rfl)) ?_; (with_reducible refine (waybillref7_Node.calls kj17 x349000_2 _ _ x349001_2 t360 _ ?side1 ?side2 A39.out).mono ?_); (case side1 => repeat (first | exact (Kd.V_reads' HO_349001.out).2.2 | (with_reducible refine Kd.C_alloc ?_ _) | (with_reducible refine Kd.C_drewN ?_ _) | (with_reducible refine Kd.C_drew ?_))); (case side2 => exact (Kd.V_reads' HO_349001.out).2.1); rintro e w41 ⟨v361, rfl, ho0, hb⟩; refine ⟨_, rfl, ?_⟩; have n0_ := Aside0.mk (Kd.V_elder' (by exact HO_0.out) (Kd.R_base ho0) hb); have n1_ := Aside0.mk (Kd.R_elder' (by exact HO_12.out) (Kd.R_base ho0) hb); have n2_ := Aside0.mk (Kd.V_elder' (by exact HO_349001.out) (Kd.R_base ho0) hb); have n3_ := Aside0.mk (Kd.R_lower (Kd.R_new' (Kd.R_newM (M := fun k_ => (w.heap.size ≤ k_)) ho0 (below_size (by repeat (first | (with_reducible first | exact HB.out | apply below_alloc | apply pw_below_drewN | apply below_drew1 | refine below_set ?_ GE348.out) | exact HB.out))) (fun k_ h_ => h_)) (Kd.R_lt (by exact HO_12.out))) (below_size (by repeat (first | (with_reducible first | exact HB.out | apply below_alloc | apply pw_below_drewN | apply below_drew1 | refine below_set ?_ GE348.out) | exact HB.out)))); have n4_ := Aside0.mk (blk_below (g := gb348) (o := .cells #[.bool x349000_2, .slice Ao20 x349001_2.length co20] 44 (0, 0)) (by exact BK348.out) hb); have n5_ := Aside0.mk (below_step (by repeat (first | (with_reducible first | exact HB.out | apply below_alloc | apply pw_below_drewN | apply below_drew1 | refine below_set ?_ GE348.out) | exact HB.out)) hb); clear HO_0; clear HO_12; clear HO_349001; clear BK348; clear HB; have HO_0 := n0_; have HO_12 := n1_; have HO_349001 := n2_; have HO362 := n3_; have BK348 := n4_; have HB := n5_; clear n0_ n1_ n2_ n3_ n4_ n5_; (try clear hb); (try clear hb2); (try clear hk); (try clear hi); (try clear hge); (try clear ho0)))
            go_meet
            case rel => exact ⟨_, (t360), H', ⟨by have := HJ5.out; have := HK2.out; have := HJ17.out; first | omega | exact Nat.le_refl _⟩, ⟨by (try simp only [hl0_2]); exact Kd.V_mono HO_0.out (fun _ hk => ⟨hk.1.1, ⟨hk.1.2.1, ⟨hk.2, hk.1.2.2⟩⟩⟩)⟩, ⟨by (try simp only [hl0_2]); exact HO_12.out⟩, ⟨by (try simp only [hl0_2]); exact Kd.R_mono HO362.out (fun _ hk => ⟨hk.1.1, hk.2⟩)⟩, ⟨by (try simp only [hl0_2]); exact Kd.V_mono HO_349001.out (fun _ hk => ⟨hk.1.1, ⟨hk.1.2.1, ⟨hk.2, hk.1.2.2⟩⟩⟩)⟩, ⟨by (try simp only [hl0_2]); exact BK348.out⟩, ⟨by repeat (first | (with_reducible first | exact HB.out | apply below_alloc | apply pw_below_drewN | apply below_drew1 | refine below_set ?_ GE348.out) | exact HB.out)⟩⟩
           ·
            replace c38 := Bool.eq_false_iff.mpr c38
            subst c38
            have H1 : (waybilllaw10_NodeTells.j3 kj17 x0_2 a2 a3 a4 x11_2 t352 ([] : List Int) x349000_2 x349001_2) = some r := by rw [if_neg (show ¬ (false = true) by decide)] at H; exact H
            clear H
            have H := H1
            clear H1
            have H' := Aside0.mk H
            clear H
            go_wp2
            go_meet
            case rel => exact ⟨_, (([] : List Int)), H', ⟨by have := HJ5.out; have := HK2.out; have := HJ17.out; first | omega | exact Nat.le_refl _⟩, ⟨by (try simp only [hl0_2]); exact Kd.V_mono HO_0.out (fun _ hk => ⟨hk.1, ⟨hk.2.1, ⟨(by simp [Value.ownBlock]), hk.2.2⟩⟩⟩)⟩, ⟨by (try simp only [hl0_2]); exact Kd.R_mono HO_12.out (fun _ hk => ⟨hk, (by simp [Value.ownBlock])⟩)⟩, ⟨by (try simp only [hl0_2]); first | exact Kd.R_nil _ _ _ _ _ | exact Kd.N_nil _ _ _ _ _ | exact Kd.V_nil _ _ _ _ _ | exact Kd.Q_nil _ _ _ _ _ | exact Kd.S_nil _ _ _ _ _⟩, ⟨by (try simp only [hl0_2]); exact Kd.V_mono HO_349001.out (fun _ hk => ⟨hk.1, ⟨hk.2.1, ⟨(by simp [Value.ownBlock]), hk.2.2⟩⟩⟩)⟩, ⟨by (try simp only [hl0_2]); exact BK348.out⟩, ⟨by repeat (first | (with_reducible first | exact HB.out | apply below_alloc | apply pw_below_drewN | apply below_drew1 | refine below_set ?_ GE348.out) | exact HB.out)⟩⟩
          case rest =>
           clear HC37
           try clear c1
           try clear c2
           try clear p2
           try clear c3
           try clear c12
           try clear c15
           try clear c15b0
           try clear c19
           try clear c20
           try clear c23
           try clear c24
           try clear c24b0
           try clear c24b1
           try clear c24b2
           try clear c25
           try clear c26
           try clear c27
           try clear c27b0
           try clear c27b1
           try clear c27b2
           try clear c36
           try clear c38
           try clear hcz10_0
           try clear hcz10_1
           try clear hcz19_0
           try clear hcz19_1
           try clear hcz22_0
           try clear hcz22_1
           try clear hcz40_0
           try clear hcz40_1
           try clear hfz10_0
           try clear hfz10_1
           try clear hfz19_0
           try clear hfz19_1
           try clear hfz22_0
           try clear hfz22_1
           try clear hfz40_0
           try clear hfz40_1
           try clear p2
           obtain ⟨kq, x15_36, HA, HJ36, HO_0, HO_12, HO_15, HO_349001, BK348, HB⟩ := hcut
           cases kq with
           | zero => exact absurd HA.out (by simp [waybilllaw10_NodeTells.j3])
           | succ kj36 =>
            have H := HA.out
            clear HA
            simp only [waybilllaw10_NodeTells.j3] at H
            by_cases c42 : (strOfNums t352).toList = (strOfNums x15_36).toList
            ·
             rw [if_pos c42] at H
             have c42b0 : ((strOfNums t352).toList == (strOfNums x15_36).toList) = true := beq_iff_eq.mpr c42
             have c42b1 : ((strOfNums t352).toList != (strOfNums x15_36).toList) = false := bne_eq_false_iff_eq.mpr c42
             clear c42
             obtain ⟨y363, hy363⟩ : ∃ y_ : List Int, y_ = (([] : List Int)) := ⟨_, rfl⟩
             replace H : (if y363.length + x15_36.length < 140737488355328 then ((some (y363 ++ x15_36 : List Int)).bind fun y366 => (if (y366.length : Int) > 0 then (if (y366.length : Int) = 0 then (none) else (if 0 ≤ (Int.tmod (Go.bits .and .i64 a2 65535) (y366.length : Int)) then (if (Int.tmod (Go.bits .and .i64 a2 65535) (y366.length : Int)) < (y366.length : Int) then (waybilllaw10_NodeTells.j4 kj36 x0_2 a2 a3 a4 x11_2 x15_36 (y366.set ((Int.tmod (Go.bits .and .i64 a2 65535) (y366.length : Int)) : Int).toNat (Go.bits .xor .u8 (rd y366 (Int.tmod (Go.bits .and .i64 a2 65535) (y366.length : Int))) a3)) x349000_2 x349001_2) else (none)) else (none))) else (waybilllaw10_NodeTells.j4 kj36 x0_2 a2 a3 a4 x11_2 x15_36 y366 x349000_2 x349001_2))) else (none)) = some r := by first | (rw [hy363]; with_reducible exact H) | (have H2_ := (Option.bind_some _ _).symm.trans H; rw [hy363]; with_reducible exact H2_) | (have H2_ := (Option.bind_some _ _).symm.trans H; with_reducible exact H2_) | with_reducible exact H | (rw [hy363]; exact H) | exact H
             have Ny363 := Aside0.mk hy363
             clear hy363
             by_cases c43 : y363.length + x15_36.length < 140737488355328
             ·
              rw [if_pos c43] at H
              have LMc43 := Aside0.mk c43
              clear c43
              obtain ⟨y366, hy366⟩ : ∃ y_ : List Int, y_ = (y363 ++ x15_36) := ⟨_, rfl⟩
              replace H : (if (y366.length : Int) > 0 then (if (y366.length : Int) = 0 then (none) else (if 0 ≤ (Int.tmod (Go.bits .and .i64 a2 65535) (y366.length : Int)) then (if (Int.tmod (Go.bits .and .i64 a2 65535) (y366.length : Int)) < (y366.length : Int) then (waybilllaw10_NodeTells.j4 kj36 x0_2 a2 a3 a4 x11_2 x15_36 (y366.set ((Int.tmod (Go.bits .and .i64 a2 65535) (y366.length : Int)) : Int).toNat (Go.bits .xor .u8 (rd y366 (Int.tmod (Go.bits .and .i64 a2 65535) (y366.length : Int))) a3)) x349000_2 x349001_2) else (none)) else (none))) else (waybilllaw10_NodeTells.j4 kj36 x0_2 a2 a3 a4 x11_2 x15_36 y366 x349000_2 x349001_2)) = some r := by first | (rw [hy366]; with_reducible exact H) | (have H2_ := (Option.bind_some _ _).symm.trans H; rw [hy366]; with_reducible exact H2_) | (have H2_ := (Option.bind_some _ _).symm.trans H; with_reducible exact H2_) | with_reducible exact H | (rw [hy366]; exact H) | exact H
              have Ny366 := Aside0.mk hy366
              clear hy366
              have HC44 := Aside0.mk H
              clear H
              have hcv45 := own_string (P := Try.prog) Try.underlying25 Try.underlying5 Try.underlying9 (Kd.own_of_R HO_12.out)
              have hcv46 := own_string (P := Try.prog) Try.underlying25 Try.underlying5 Try.underlying9 (Kd.own_of_R HO_15.out)
              go_upto_if 72 with (first | ((with_reducible refine gate_dst (N := 67) rfl ?_); refine Kd.R_lit (Kd.int .u8) _ 5 ?hg (N := 67) ?hd (xs := ([] : List Int)) (inner := []) (ok := fun _ => True) (okp := fun _ => True) ?hr ?hp (fun _ hk => hk) trivial (Below.refl _ _) (Nat.le_refl _) (by simp) ?_; (case hd => rfl); (case hg => rfl); (case hr => first | (go_simp; done) | (go_simp; rfl)); (case hp => exact (Reps.none _ _)); intro v364 w47 ho48 hb hg_ hnew_; clear hg_ hnew_; (first | rw [← Ny363.out] at ho48 | (simp only [Int.reduceToNat] at ho48; rw [← Ny363.out] at ho48)); have n0_ := Aside0.mk (Kd.V_elder' (by exact HO_0.out) (Kd.R_base ho48) hb); have n1_ := Aside0.mk (Kd.R_elder' (by exact HO_12.out) (Kd.R_base ho48) hb); have n2_ := Aside0.mk (Kd.R_elder' (by exact HO_15.out) (Kd.R_base ho48) hb); have n3_ := Aside0.mk (Kd.V_elder' (by exact HO_349001.out) (Kd.R_base ho48) hb); have n4_ := Aside0.mk (Kd.R_lower (Kd.R_new' (Kd.R_new' (Kd.R_newM (M := fun k_ => (w.heap.size ≤ k_)) ho48 (below_size (by repeat (first | (with_reducible first | exact HB.out | apply below_alloc | apply pw_below_drewN | apply below_drew1 | refine below_set ?_ GE348.out) | exact HB.out))) (fun k_ h_ => h_)) (Kd.R_lt (by exact HO_12.out))) (Kd.R_lt (by exact HO_15.out))) (below_size (by repeat (first | (with_reducible first | exact HB.out | apply below_alloc | apply pw_below_drewN | apply below_drew1 | refine below_set ?_ GE348.out) | exact HB.out)))); have n5_ := Aside0.mk (blk_below (g := gb348) (o := .cells #[.bool x349000_2, .slice Ao20 x349001_2.length co20] 44 (0, 0)) (by exact BK348.out) hb); have n6_ := Aside0.mk (below_step (by repeat (first | (with_reducible first | exact HB.out | apply below_alloc | apply pw_below_drewN | apply below_drew1 | refine below_set ?_ GE348.out) | exact HB.out)) hb); clear HO_0; clear HO_12; clear HO_15; clear HO_349001; clear BK348; clear HB; have HO_0 := n0_; have HO_12 := n1_; have HO_15 := n2_; have HO_349001 := n3_; have HO365 := n4_; have BK348 := n5_; have HB := n6_; clear n0_ n1_ n2_ n3_ n4_ n5_ n6_; clear hb ho48; obtain ⟨Ao50, co50, eo50⟩ := Kd.R_slice HO_15.out; subst eo50) | ((with_reducible refine gate_builtin (b := .append) (xs := #[.tmp 67, .tmp 68]) rfl ?_); at_builtin; refine Kd.R_append_rows (Kd.int .u8) (w0 := w) w.heap.size rfl (.tmp 67) (.tmp 68) 25 5 (.int .u8 0) 1 rfl Try.underlying25 info5 rfl (by decide) (by omega) v364 y363 x15_36 _ _ _ (fun k_ => (w.heap.size ≤ k_) ∧ some k_ ≠ (v353 : Value).ownBlock ∧ some k_ ≠ (.slice Ao50 x15_36.length co50 : Value).ownBlock) (fun _ => False) rfl rfl ?aO ?aR (fun _ _ h => h) (fun _ h => h.elim) ?aF ?aB ?aS ?aL ?_; (case aR => repeat (first | exact (Kd.R_reads' HO_15.out).2.2 | (with_reducible refine Kd.C_alloc ?_ _) | (with_reducible refine Kd.C_drewN ?_ _) | (with_reducible refine Kd.C_drew ?_))); (case aB => exact (by repeat (first | (with_reducible first | exact HB.out | apply below_alloc | apply pw_below_drewN | apply below_drew1 | refine below_set ?_ GE348.out) | exact HB.out))); (case aF => exact (fun k_ hk => ⟨(Nat.le_trans (below_size (by repeat (first | (with_reducible first | exact HB.out | apply below_alloc | apply pw_below_drewN | apply below_drew1 | refine below_set ?_ GE348.out) | exact HB.out))) hk), Kd.fresh' (Kd.R_lt (by exact HO_12.out)) k_ hk, Kd.fresh' (Kd.R_lt (by exact HO_15.out)) k_ hk⟩)); (case aO => exact (by exact Kd.R_mono HO365.out (fun _ hk => ⟨hk.1.1.1, ⟨hk.1.2, hk.2⟩⟩))); (case aS => exact (below_size (by repeat (first | (with_reducible first | exact HB.out | apply below_alloc | apply pw_below_drewN | apply below_drew1 | refine below_set ?_ GE348.out) | exact HB.out)))); (case aL => have := LMc43.out; omega); intro v367 w49 ho hb hg hat; rw [← Ny366.out] at ho; have n0_ := Aside0.mk (Kd.V_afterv (ok := (fun k_ => ((P0_ k_ ∨ P1_1_ k_) ∨ w.heap.size ≤ k_) ∧ some k_ ≠ (v353 : Value).ownBlock ∧ some k_ ≠ (.slice Ao50 x15_36.length co50 : Value).ownBlock ∧ k_ ≠ gb348)) (by exact HO_0.out) hg hat); have n1_ := Aside0.mk (Kd.R_after (ok := (fun k_ => (w.heap.size ≤ k_) ∧ some k_ ≠ (.slice Ao50 x15_36.length co50 : Value).ownBlock)) (by exact HO_12.out) hg hat); have n2_ := Aside0.mk (Kd.R_after (ok := (fun k_ => (w.heap.size ≤ k_) ∧ some k_ ≠ (v353 : Value).ownBlock)) (by exact HO_15.out) hg hat); have n3_ := Aside0.mk (Kd.V_afterv (ok := (fun k_ => ((P0_ k_ ∨ P1_1_ k_) ∨ w.heap.size ≤ k_) ∧ some k_ ≠ (v353 : Value).ownBlock ∧ some k_ ≠ (.slice Ao50 x15_36.length co50 : Value).ownBlock ∧ k_ ≠ gb348)) (by exact HO_349001.out) hg hat); have n4_ := Aside0.mk (blk_grown (g := gb348) (o := .cells #[.bool x349000_2, .slice Ao20 x349001_2.length co20] 44 (0, 0)) (by exact BK348.out) hg (Kd.R_ne HO365.out BK348.out (by decide))); have n5_ := Aside0.mk (hb); have n6_ := Aside0.mk (ho); clear HO_0; clear HO_12; clear HO_15; clear HO_349001; clear BK348; clear HB; clear HO365; have HO_0 := n0_; have HO_12 := n1_; have HO_15 := n2_; have HO_349001 := n3_; have BK348 := n4_; have HB := n5_; have HO368 := n6_; clear n0_ n1_ n2_ n3_ n4_ n5_ n6_; clear ho hb hg hat; obtain ⟨Ao51, co51, eo51⟩ := Kd.R_slice HO368.out; subst eo51))
              (try simp only [Act.put, List.setIfInBounds_toArray, List.set_cons_zero, List.set_cons_succ])
              go_cut [] (fun wc => ∃ (kq : Nat) (x16_43 : List Int), Aside0 (waybilllaw10_NodeTells.j4 kq x0_2 a2 a3 a4 x11_2 x15_36 x16_43 x349000_2 x349001_2 = some r) ∧ Aside0 (kq ≤ kj36) ∧ Aside0 (Kd.V (Kd.int .u8) 5 wc w.heap.size (fun k_ => ((P0_ k_ ∨ P1_1_ k_) ∨ w.heap.size ≤ k_) ∧ some k_ ≠ ((.slice Ao50 x15_36.length co50) : Value).ownBlock ∧ some k_ ≠ ((.slice Ao51 y366.length co51) : Value).ownBlock ∧ k_ ≠ gb348) (.slice A0 x0_2.length c0) x0_2) ∧ Aside0 (Kd.R (Kd.int .u8) 5 wc w.heap.size (fun k_ => (w.heap.size ≤ k_) ∧ some k_ ≠ ((.slice Ao51 y366.length co51) : Value).ownBlock) (.slice Ao50 x15_36.length co50) x15_36) ∧ Aside0 (Kd.R (Kd.int .u8) 5 wc w.heap.size (fun k_ => (w.heap.size ≤ k_) ∧ some k_ ≠ ((.slice Ao50 x15_36.length co50) : Value).ownBlock) (.slice Ao51 y366.length co51) x16_43) ∧ Aside0 (Kd.V k41 41 wc w.heap.size (fun k_ => ((P0_ k_ ∨ P1_1_ k_) ∨ w.heap.size ≤ k_) ∧ some k_ ≠ ((.slice Ao50 x15_36.length co50) : Value).ownBlock ∧ some k_ ≠ ((.slice Ao51 y366.length co51) : Value).ownBlock ∧ k_ ≠ gb348) (.slice Ao20 x349001_2.length co20) x349001_2) ∧ Aside0 (wc.heap[gb348]? = some (.cells #[.bool x349000_2, (.slice Ao20 x349001_2.length co20)] 44 (0, 0))) ∧ Aside0 (Below w.heap.size w wc))
              case first =>
               have H := HC44.out
               clear HC44
               by_cases c52 : (y366.length : Int) > 0
               ·
                rw [if_pos c52] at H
                have c52b0 : decide (0 < (y366.length : Int)) = true := decide_eq_true c52
                have c52b1 : decide (0 < y366.length) = true := decide_eq_true (by omega)
                clear c52
                (first | rw [c52b0] | rw [c52b2] | rw [c52b1] | (simp only [i64_w, i32_w]; rw [c52b0]) | skip)
                by_cases c53 : (y366.length : Int) = 0
                ·
                 rw [if_pos c53] at H
                 exact absurd H (by simp)
                ·
                 rw [if_neg c53] at H
                 have c53b0 : ((y366.length : Int) == 0) = false := beq_eq_false_iff_ne.mpr c53
                 have c53b1 : ((y366.length : Int) != 0) = true := bne_iff_ne.mpr c53
                 have c53b2 : ¬ (y366 = []) := fun h_ => c53 (by rw [h_]; rfl)
                 obtain ⟨ji54, hji54⟩ : ∃ j_ : Int, (Int.tmod (Go.bits .and .i64 a2 65535) (y366.length : Int)) = j_ := ⟨_, rfl⟩
                 replace H : (if 0 ≤ (ji54) then (if (ji54) < (y366.length : Int) then (waybilllaw10_NodeTells.j4 kj36 x0_2 a2 a3 a4 x11_2 x15_36 (y366.set ((ji54) : Int).toNat (Go.bits .xor .u8 (rd y366 (ji54)) a3)) x349000_2 x349001_2) else (none)) else (none)) = some r := by first | (rw [hji54] at H; exact H) | (simp only [hji54] at H ⊢; exact H)
                 by_cases c55 : 0 ≤ (ji54)
                 ·
                  rw [if_pos c55] at H
                  have c55b0 : decide (0 ≤ (ji54)) = true := decide_eq_true c55
                  clear c55
                  by_cases c56 : (ji54) < (y366.length : Int)
                  ·
                   rw [if_pos c56] at H
                   have c56b0 : decide ((ji54) < (y366.length : Int)) = true := decide_eq_true c56
                   clear c56
                   obtain ⟨y370, hy370⟩ : ∃ y_ : List Int, y_ = (y366.set ((ji54) : Int).toNat (Go.bits .xor .u8 (rd y366 (ji54)) a3)) := ⟨_, rfl⟩
                   replace H : (waybilllaw10_NodeTells.j4 kj36 x0_2 a2 a3 a4 x11_2 x15_36 y370 x349000_2 x349001_2) = some r := by first | (rw [hy370]; with_reducible exact H) | (have H2_ := (Option.bind_some _ _).symm.trans H; rw [hy370]; with_reducible exact H2_) | (have H2_ := (Option.bind_some _ _).symm.trans H; with_reducible exact H2_) | with_reducible exact H | (rw [hy370]; exact H) | exact H
                   have Ny370 := Aside0.mk hy370
                   clear hy370
                   have H' := Aside0.mk H
                   clear H
                   have p369 : 0 ≤ ((ji54) : Int) := of_decide_eq_true (by first | (with_reducible assumption) | assumption)
                   have q369 : (ji54) < (y366.length : Int) := of_decide_eq_true (by first | (with_reducible assumption) | assumption)
                   obtain ⟨ad369, e369, hx369_0⟩ := Kd.at_int (Kd.R_reads' HO368.out).2.2 (ji54) p369 q369
                   cases e369
                   replace p369 := eq_true p369
                   replace q369 := eq_true q369
                   have p57 : 0 ≤ ((ji54) : Int) := of_decide_eq_true (by first | (with_reducible assumption) | assumption)
                   have q57 : ((ji54) : Int) < ((y366.length : Int) : Int) := of_decide_eq_true (by first | (with_reducible assumption) | assumption)
                   obtain ⟨go57, co57, eo57, gb57, gl57, cl57, HG57⟩ := Kd.R_form HO368.out (by omega)
                   (first | cases eo57 | (injection eo57 with ea_ en_ ec_; (first | subst ea_ | (injection ea_ with ea_; subst ea_)); subst ec_; clear en_))
                   have GB57 := Aside0.mk gb57
                   have GG57 := Aside0.mk HG57
                   clear gb57 gl57 HG57
                   (first | simp only [add_plain] at hx369_0 | skip)
                   obtain ⟨hx57_0, hf57_0⟩ := Kd.R_celln 0 HO368.out ((ji54) : Int) p57 q57
                   replace p57 := eq_true p57
                   replace q57 := eq_true q57
                   have HP58 := Kd.R_putg HO368.out ((ji54) : Int) (Go.bits .xor .u8 (rd y366 (ji54)) a3)
                   go_wp2_with (first | ((with_reducible refine gate_store (t := 5) (p := 83) rfl ?_); refine store_event (t := 5) (p := 83) (v := ?vo_w59) (w1 := (w49.setCell ⟨go57, ((ji54) : Int).toNat, none⟩ (.int .u8 (Go.bits .xor .u8 (rd y366 (ji54)) a3)))) ?hg ?ho ?hn ?hr ?_; (case ho => rfl); (case hg => rfl); (case hn => rfl); (case hr => first | (go_simp; done) | (go_simp; rfl)); intro w59 hw; have hg : w49.grownBy w59 (some go57) := (by rw [hw]; exact HP58.2); have hp_ : Kd.R (Kd.int .u8) 5 w59 w.heap.size (fun k_ => (w.heap.size ≤ k_) ∧ some k_ ≠ (v353 : Value).ownBlock ∧ some k_ ≠ (.slice Ao50 x15_36.length co50 : Value).ownBlock) (.slice (some ⟨go57, 0, none⟩) y366.length co51) y370 := (by rw [hw, Ny370.out]; exact HP58.1); clear HP58; have n0_ := Aside0.mk (Kd.V_afterv (v := (.slice (some ⟨go57, 0, none⟩) y366.length co51)) (v1 := (.slice (some ⟨go57, 0, none⟩) y366.length co51)) (ok := (fun k_ => ((P0_ k_ ∨ P1_1_ k_) ∨ w.heap.size ≤ k_) ∧ some k_ ≠ (v353 : Value).ownBlock ∧ some k_ ≠ (.slice Ao50 x15_36.length co50 : Value).ownBlock ∧ k_ ≠ gb348)) (by exact HO_0.out) hg (.inl rfl)); have n1_ := Aside0.mk (Kd.R_after (v := (.slice (some ⟨go57, 0, none⟩) y366.length co51)) (v1 := (.slice (some ⟨go57, 0, none⟩) y366.length co51)) (ok := (fun k_ => (w.heap.size ≤ k_) ∧ some k_ ≠ (.slice Ao50 x15_36.length co50 : Value).ownBlock)) (by exact HO_12.out) hg (.inl rfl)); have n2_ := Aside0.mk (Kd.R_after (v := (.slice (some ⟨go57, 0, none⟩) y366.length co51)) (v1 := (.slice (some ⟨go57, 0, none⟩) y366.length co51)) (ok := (fun k_ => (w.heap.size ≤ k_) ∧ some k_ ≠ (v353 : Value).ownBlock)) (by exact HO_15.out) hg (.inl rfl)); have n3_ := Aside0.mk (Kd.V_afterv (v := (.slice (some ⟨go57, 0, none⟩) y366.length co51)) (v1 := (.slice (some ⟨go57, 0, none⟩) y366.length co51)) (ok := (fun k_ => ((P0_ k_ ∨ P1_1_ k_) ∨ w.heap.size ≤ k_) ∧ some k_ ≠ (v353 : Value).ownBlock ∧ some k_ ≠ (.slice Ao50 x15_36.length co50 : Value).ownBlock ∧ k_ ≠ gb348)) (by exact HO_349001.out) hg (.inl rfl)); have n4_ := Aside0.mk (blk_grown (g := gb348) (o := .cells #[.bool x349000_2, .slice Ao20 x349001_2.length co20] 44 (0, 0)) (by exact BK348.out) hg (Kd.R_ne HO368.out BK348.out (by decide))); have n5_ := Aside0.mk (hp_); have n6_ := Aside0.mk ((by rw [hw]; exact below_set (HB.out) GB57.out : Below w.heap.size w w59)); clear HO_0; clear HO_12; clear HO_15; clear HO_349001; clear BK348; clear HO368; clear HB; have HO_0 := n0_; have HO_12 := n1_; have HO_15 := n2_; have HO_349001 := n3_; have BK348 := n4_; have HO368 := n5_; have HB := n6_; clear n0_ n1_ n2_ n3_ n4_ n5_ n6_; clear hg hw hp_))
                   go_meet
                   case rel => exact ⟨_, (y370), H', ⟨by have := HJ5.out; have := HK2.out; have := HJ17.out; have := HJ36.out; first | omega | exact Nat.le_refl _⟩, ⟨by (try simp only [hl0_2]); exact Kd.V_mono HO_0.out (fun _ hk => ⟨hk.1.1, ⟨hk.1.2.2.1, ⟨hk.2, hk.1.2.2.2⟩⟩⟩)⟩, ⟨by (try simp only [hl0_2]); exact Kd.R_mono HO_15.out (fun _ hk => ⟨hk.1.1, hk.2⟩)⟩, ⟨by (try simp only [hl0_2]); exact Kd.R_mono HO368.out (fun _ hk => ⟨hk.1, hk.2.2⟩)⟩, ⟨by (try simp only [hl0_2]); exact Kd.V_mono HO_349001.out (fun _ hk => ⟨hk.1.1, ⟨hk.1.2.2.1, ⟨hk.2, hk.1.2.2.2⟩⟩⟩)⟩, ⟨by (try simp only [hl0_2]); exact BK348.out⟩, ⟨by repeat (first | (with_reducible first | exact HB.out | apply below_alloc | apply pw_below_drewN | apply below_drew1 | refine below_set ?_ GE348.out) | exact HB.out)⟩⟩
                  ·
                   rw [if_neg c56] at H
                   exact absurd H (by simp)
                 ·
                  rw [if_neg c55] at H
                  exact absurd H (by simp)
               ·
                rw [if_neg c52] at H
                have c52b0 : decide (0 < (y366.length : Int)) = false := decide_eq_false c52
                have c52b1 : decide (0 < y366.length) = false := decide_eq_false (by omega)
                clear c52
                (first | rw [c52b0] | rw [c52b2] | rw [c52b1] | (simp only [i64_w, i32_w]; rw [c52b0]) | skip)
                have H' := Aside0.mk H
                clear H
                go_wp2
                go_meet
                case rel => exact ⟨_, (y366), H', ⟨by have := HJ5.out; have := HK2.out; have := HJ17.out; have := HJ36.out; first | omega | exact Nat.le_refl _⟩, ⟨by (try simp only [hl0_2]); exact Kd.V_mono HO_0.out (fun _ hk => ⟨hk.1.1, ⟨hk.1.2.2.1, ⟨hk.2, hk.1.2.2.2⟩⟩⟩)⟩, ⟨by (try simp only [hl0_2]); exact Kd.R_mono HO_15.out (fun _ hk => ⟨hk.1.1, hk.2⟩)⟩, ⟨by (try simp only [hl0_2]); exact Kd.R_mono HO368.out (fun _ hk => ⟨hk.1, hk.2.2⟩)⟩, ⟨by (try simp only [hl0_2]); exact Kd.V_mono HO_349001.out (fun _ hk => ⟨hk.1.1, ⟨hk.1.2.2.1, ⟨hk.2, hk.1.2.2.2⟩⟩⟩)⟩, ⟨by (try simp only [hl0_2]); exact BK348.out⟩, ⟨by repeat (first | (with_reducible first | exact HB.out | apply below_alloc | apply pw_below_drewN | apply below_drew1 | refine below_set ?_ GE348.out) | exact HB.out)⟩⟩
              case rest =>
               clear HC44
               try clear c1
               try clear c2
               try clear p2
               try clear c3
               try clear p3
               try clear q3
               try clear hx3
               try clear c4
               try clear hcv4
               try clear c5
               try clear p5
               try clear q5
               try clear hx5
               try clear hf5
               try clear c12
               try clear c15
               try clear c15b0
               try clear c19
               try clear c20
               try clear c23
               try clear c24
               try clear c24b0
               try clear c24b1
               try clear c24b2
               try clear c25
               try clear c26
               try clear c27
               try clear c27b0
               try clear c27b1
               try clear c27b2
               try clear c36
               try clear p36
               try clear q36
               try clear hx36
               try clear c38
               try clear c42
               try clear c42b0
               try clear c42b1
               try clear c43
               try clear hcv45
               try clear hcv46
               try clear c52
               try clear c52b0
               try clear c52b1
               try clear c53
               try clear c53b0
               try clear c53b1
               try clear c53b2
               try clear c55
               try clear c55b0
               try clear c56
               try clear c56b0
               try clear p57
               try clear q57
               try clear hx57
               try clear hf57
               try clear hcz10_0
               try clear hcz10_1
               try clear hcz19_0
               try clear hcz19_1
               try clear hcz22_0
               try clear hcz22_1
               try clear hcz40_0
               try clear hcz40_1
               try clear hfz10_0
               try clear hfz10_1
               try clear hfz19_0
               try clear hfz19_1
               try clear hfz22_0
               try clear hfz22_1
               try clear hfz40_0
               try clear hfz40_1
               try clear hx369_0
               try clear hx57_0
               try clear p2
               try clear p369
               try clear p57
               try clear q369
               try clear q57
               obtain ⟨kq, x16_43, HA, HJ43, HO_0, HO_15, HO_16, HO_349001, BK348, HB⟩ := hcut
               have hl16_43 := (Kd.R_reads' HO_16.out).1
               rw [hl16_43] at HO_16
               (try simp only [hl16_43])
               (try simp only [hl16_43] at BK348)
               (try simp only [hl16_43] at HO_0)
               (try simp only [hl16_43] at HO_15)
               (try simp only [hl16_43] at HO_349001)
               cases kq with
               | zero => exact absurd HA.out (by simp [waybilllaw10_NodeTells.j4])
               | succ kj43 =>
                have H := HA.out
                clear HA
                simp only [waybilllaw10_NodeTells.j4] at H
                have H' := Aside0.mk H
                clear H
                go_wp2
                go_loopg [17] kj43 (fun kq v17 w' => ∃ (x17_6 : Int), v17 = .int .i64 x17_6 ∧ Aside0 (waybilllaw10_NodeTells.l1 kq x0_2 a2 a3 a4 x11_2 x15_36 x16_43 x17_6 x349000_2 x349001_2 = some r) ∧ Aside0 (kq ≤ kj43) ∧ Aside0 (Kd.V (Kd.int .u8) 5 w' w.heap.size (fun k_ => ((P0_ k_ ∨ P1_1_ k_) ∨ w.heap.size ≤ k_) ∧ k_ ≠ gb348) (.slice A0 x0_2.length c0) x0_2) ∧ Aside0 (Kd.V (Kd.int .u8) 5 w' w.heap.size (fun k_ => ((P0_ k_ ∨ P1_1_ k_) ∨ w.heap.size ≤ k_) ∧ k_ ≠ gb348) (.slice Ao50 x15_36.length co50) x15_36) ∧ Aside0 (Kd.V (Kd.int .u8) 5 w' w.heap.size (fun k_ => ((P0_ k_ ∨ P1_1_ k_) ∨ w.heap.size ≤ k_) ∧ k_ ≠ gb348) (.slice Ao51 x16_43.length co51) x16_43) ∧ Aside0 (Kd.V k41 41 w' w.heap.size (fun k_ => ((P0_ k_ ∨ P1_1_ k_) ∨ w.heap.size ≤ k_) ∧ k_ ≠ gb348) (.slice Ao20 x349001_2.length co20) x349001_2) ∧ Aside0 (w'.heap[gb348]? = some (.cells #[.bool x349000_2, (.slice Ao20 x349001_2.length co20)] 44 (0, 0))) ∧ Aside0 (Below w.heap.size w w'))
                case atStart => exact ⟨(0), (by first | rfl | (simp; done) | (simp [*]; done)), H', ⟨Nat.le_refl _⟩, ⟨by (try simp only [hl0_2]); (try simp only [hl16_43]); exact Kd.V_mono HO_0.out (fun _ hk => ⟨hk.1, hk.2.2.2⟩)⟩, ⟨Kd.V_mono (Kd.R_V (ok := fun k_ => ((w.heap.size ≤ k_) ∧ k_ ≠ gb348)) (by (try simp only [hl0_2]); (try simp only [hl16_43]); exact Kd.R_mono (Kd.R_types HO_15.out BK348.out (by decide)) (fun _ hk => ⟨hk.1.1, hk.2⟩))) (fun k_ hk => by first | exact ⟨(.inr (hk.1)), hk.2⟩ | exact (.inr (hk)))⟩, ⟨Kd.V_mono (Kd.R_V (ok := fun k_ => ((w.heap.size ≤ k_) ∧ k_ ≠ gb348)) (by (try simp only [hl0_2]); (try simp only [hl16_43]); exact Kd.R_mono (Kd.R_types HO_16.out BK348.out (by decide)) (fun _ hk => ⟨hk.1.1, hk.2⟩))) (fun k_ hk => by first | exact ⟨(.inr (hk.1)), hk.2⟩ | exact (.inr (hk)))⟩, ⟨by (try simp only [hl0_2]); (try simp only [hl16_43]); exact Kd.V_mono HO_349001.out (fun _ hk => ⟨hk.1, hk.2.2.2⟩)⟩, ⟨by (try simp only [hl0_2]); (try simp only [hl16_43]); exact BK348.out⟩, ⟨by repeat (first | (with_reducible first | exact HB.out | apply below_alloc | apply pw_below_drewN | apply below_drew1 | refine below_set ?_ GE348.out) | exact HB.out)⟩⟩
                case round =>
                 clear H'
                 try clear c1
                 try clear c2
                 try clear p2
                 try clear c3
                 try clear p3
                 try clear q3
                 try clear hx3
                 try clear c4
                 try clear hcv4
                 try clear c5
                 try clear p5
                 try clear q5
                 try clear hx5
                 try clear hf5
                 try clear c12
                 try clear c15
                 try clear c15b0
                 try clear c19
                 try clear c20
                 try clear c23
                 try clear c24
                 try clear c24b0
                 try clear c24b1
                 try clear c24b2
                 try clear c25
                 try clear c26
                 try clear c27
                 try clear c27b0
                 try clear c27b1
                 try clear c27b2
                 try clear c36
                 try clear p36
                 try clear q36
                 try clear hx36
                 try clear c38
                 try clear c42
                 try clear c42b0
                 try clear c42b1
                 try clear c43
                 try clear hcv45
                 try clear hcv46
                 try clear c52
                 try clear c52b0
                 try clear c52b1
                 try clear c53
                 try clear c53b0
                 try clear c53b1
                 try clear c53b2
                 try clear c55
                 try clear c55b0
                 try clear c56
                 try clear c56b0
                 try clear p57
                 try clear q57
                 try clear hx57
                 try clear hf57
                 try clear hcz10_0
                 try clear hcz10_1
                 try clear hcz19_0
                 try clear hcz19_1
                 try clear hcz22_0
                 try clear hcz22_1
                 try clear hcz40_0
                 try clear hcz40_1
                 try clear hfz10_0
                 try clear hfz10_1
                 try clear hfz19_0
                 try clear hfz19_1
                 try clear hfz22_0
                 try clear hfz22_1
                 try clear hfz40_0
                 try clear hfz40_1
                 try clear hx369_0
                 try clear hx57_0
                 try clear p2
                 try clear p3
                 try clear p36
                 try clear p369
                 try clear p5
                 try clear p57
                 try clear q3
                 try clear q36
                 try clear q369
                 try clear q5
                 try clear q57
                 obtain ⟨x17_6, rfl, HA, HK6, HO_0, HO_15, HO_16, HO_349001, BK348, HB⟩ := hrel
                 cases gk with
                 | zero => exact absurd HA.out (by simp [waybilllaw10_NodeTells.l1])
                 | succ k6 =>
                  have H := HA.out
                  clear HA
                  simp only [waybilllaw10_NodeTells.l1] at H
                  by_cases c60 : x17_6 < 4
                  ·
                   rw [if_pos c60] at H
                   have c60b0 : decide (x17_6 < 4) = true := decide_eq_true c60
                   clear c60
                   by_cases c61 : (wrap64 ((x15_36.length : Int) + 1)) = 0
                   ·
                    rw [if_pos c61] at H
                    exact absurd H (by simp)
                   ·
                    rw [if_neg c61] at H
                    have c61b0 : ((wrap64 ((x15_36.length : Int) + 1)) == 0) = false := beq_eq_false_iff_ne.mpr c61
                    have c61b1 : ((wrap64 ((x15_36.length : Int) + 1)) != 0) = true := bne_iff_ne.mpr c61
                    obtain ⟨ji62, hji62⟩ : ∃ j_ : Int, (Int.tmod (Go.bits .and .i64 a4 65535) (wrap64 ((x15_36.length : Int) + 1))) = j_ := ⟨_, rfl⟩
                    replace H : (if 0 ≤ (ji62) then (if (ji62) ≤ (x15_36.length : Int) then ((some (([] : List Int) : List Int)).bind fun y380 => (if y380.length + x15_36.length < 140737488355328 then ((some (y380 ++ x15_36 : List Int)).bind fun y383 => ((some (([0, 0, a3] : List Int) : List Int)).bind fun y386 => (if y383.length + y386.length < 140737488355328 then (if 0 ≤ x17_6 then ((some (([x0_2, x16_43, (x15_36.take ((ji62) : Int).toNat), (y383 ++ y386)] : List (List Int)).getD (x17_6).toNat [] : List Int)).bind fun y392 => ((node_Parse.f k6 y392).bind fun bt395 => ((waybillref7_NodeOf.f k6 y392).bind fun bt401 => (if (bt395.2.2 != bt401.2.2) = true then (none) else ((waybilllaw10_Same.f k6 bt395.1 bt395.2.1 bt401.1 bt401.2.1).bind fun t407 => (if t407 = true then (waybilllaw10_NodeTells.l1 k6 x0_2 a2 a3 a4 x11_2 x15_36 x16_43 (wrap64 (x17_6 + 1)) x349000_2 x349001_2) else (none))))))) else (none)) else (none)))) else (none))) else (none)) else (none)) = some r := by first | (rw [hji62] at H; exact H) | (simp only [hji62] at H ⊢; exact H)
                    by_cases c63 : 0 ≤ (ji62)
                    ·
                     rw [if_pos c63] at H
                     have c63b0 := eq_true c63
                     have c63b1 : decide (0 ≤ (ji62)) = true := decide_eq_true c63
                     clear c63
                     by_cases c64 : (ji62) ≤ (x15_36.length : Int)
                     ·
                      rw [if_pos c64] at H
                      have c64b0 := eq_true c64
                      have c64b1 : decide ((ji62) ≤ (x15_36.length : Int)) = true := decide_eq_true c64
                      clear c64
                      obtain ⟨y375, hy375⟩ : ∃ y_ : List Int, y_ = (x15_36.take ((ji62) : Int).toNat) := ⟨_, rfl⟩
                      replace H : ((some (([] : List Int) : List Int)).bind fun y380 => (if y380.length + x15_36.length < 140737488355328 then ((some (y380 ++ x15_36 : List Int)).bind fun y383 => ((some (([0, 0, a3] : List Int) : List Int)).bind fun y386 => (if y383.length + y386.length < 140737488355328 then (if 0 ≤ x17_6 then ((some (([x0_2, x16_43, y375, (y383 ++ y386)] : List (List Int)).getD (x17_6).toNat [] : List Int)).bind fun y392 => ((node_Parse.f k6 y392).bind fun bt395 => ((waybillref7_NodeOf.f k6 y392).bind fun bt401 => (if (bt395.2.2 != bt401.2.2) = true then (none) else ((waybilllaw10_Same.f k6 bt395.1 bt395.2.1 bt401.1 bt401.2.1).bind fun t407 => (if t407 = true then (waybilllaw10_NodeTells.l1 k6 x0_2 a2 a3 a4 x11_2 x15_36 x16_43 (wrap64 (x17_6 + 1)) x349000_2 x349001_2) else (none))))))) else (none)) else (none)))) else (none))) = some r := by first | (rw [hy375]; with_reducible exact H) | (have H2_ := (Option.bind_some _ _).symm.trans H; rw [hy375]; with_reducible exact H2_) | (have H2_ := (Option.bind_some _ _).symm.trans H; with_reducible exact H2_) | with_reducible exact H | (rw [hy375]; exact H) | exact H
                      have Ny375 := Aside0.mk hy375
                      clear hy375
                      obtain ⟨y380, hy380⟩ : ∃ y_ : List Int, y_ = (([] : List Int)) := ⟨_, rfl⟩
                      replace H : (if y380.length + x15_36.length < 140737488355328 then ((some (y380 ++ x15_36 : List Int)).bind fun y383 => ((some (([0, 0, a3] : List Int) : List Int)).bind fun y386 => (if y383.length + y386.length < 140737488355328 then (if 0 ≤ x17_6 then ((some (([x0_2, x16_43, y375, (y383 ++ y386)] : List (List Int)).getD (x17_6).toNat [] : List Int)).bind fun y392 => ((node_Parse.f k6 y392).bind fun bt395 => ((waybillref7_NodeOf.f k6 y392).bind fun bt401 => (if (bt395.2.2 != bt401.2.2) = true then (none) else ((waybilllaw10_Same.f k6 bt395.1 bt395.2.1 bt401.1 bt401.2.1).bind fun t407 => (if t407 = true then (waybilllaw10_NodeTells.l1 k6 x0_2 a2 a3 a4 x11_2 x15_36 x16_43 (wrap64 (x17_6 + 1)) x349000_2 x349001_2) else (none))))))) else (none)) else (none)))) else (none)) = some r := by first | (rw [hy380]; with_reducible exact H) | (have H2_ := (Option.bind_some _ _).symm.trans H; rw [hy380]; with_reducible exact H2_) | (have H2_ := (Option.bind_some _ _).symm.trans H; with_reducible exact H2_) | with_reducible exact H | (rw [hy380]; exact H) | exact H
                      have Ny380 := Aside0.mk hy380
                      clear hy380
                      by_cases c65 : y380.length + x15_36.length < 140737488355328
                      ·
                       rw [if_pos c65] at H
                       have LMc65 := Aside0.mk c65
                       clear c65
                       obtain ⟨y383, hy383⟩ : ∃ y_ : List Int, y_ = (y380 ++ x15_36) := ⟨_, rfl⟩
                       replace H : ((some (([0, 0, a3] : List Int) : List Int)).bind fun y386 => (if y383.length + y386.length < 140737488355328 then (if 0 ≤ x17_6 then ((some (([x0_2, x16_43, y375, (y383 ++ y386)] : List (List Int)).getD (x17_6).toNat [] : List Int)).bind fun y392 => ((node_Parse.f k6 y392).bind fun bt395 => ((waybillref7_NodeOf.f k6 y392).bind fun bt401 => (if (bt395.2.2 != bt401.2.2) = true then (none) else ((waybilllaw10_Same.f k6 bt395.1 bt395.2.1 bt401.1 bt401.2.1).bind fun t407 => (if t407 = true then (waybilllaw10_NodeTells.l1 k6 x0_2 a2 a3 a4 x11_2 x15_36 x16_43 (wrap64 (x17_6 + 1)) x349000_2 x349001_2) else (none))))))) else (none)) else (none))) = some r := by first | (rw [hy383]; with_reducible exact H) | (have H2_ := (Option.bind_some _ _).symm.trans H; rw [hy383]; with_reducible exact H2_) | (have H2_ := (Option.bind_some _ _).symm.trans H; with_reducible exact H2_) | with_reducible exact H | (rw [hy383]; exact H) | exact H
                       have Ny383 := Aside0.mk hy383
                       clear hy383
                       obtain ⟨y386, hy386⟩ : ∃ y_ : List Int, y_ = (([0, 0, a3] : List Int)) := ⟨_, rfl⟩
                       replace H : (if y383.length + y386.length < 140737488355328 then (if 0 ≤ x17_6 then ((some (([x0_2, x16_43, y375, (y383 ++ y386)] : List (List Int)).getD (x17_6).toNat [] : List Int)).bind fun y392 => ((node_Parse.f k6 y392).bind fun bt395 => ((waybillref7_NodeOf.f k6 y392).bind fun bt401 => (if (bt395.2.2 != bt401.2.2) = true then (none) else ((waybilllaw10_Same.f k6 bt395.1 bt395.2.1 bt401.1 bt401.2.1).bind fun t407 => (if t407 = true then (waybilllaw10_NodeTells.l1 k6 x0_2 a2 a3 a4 x11_2 x15_36 x16_43 (wrap64 (x17_6 + 1)) x349000_2 x349001_2) else (none))))))) else (none)) else (none)) = some r := by first | (rw [hy386]; with_reducible exact H) | (have H2_ := (Option.bind_some _ _).symm.trans H; rw [hy386]; with_reducible exact H2_) | (have H2_ := (Option.bind_some _ _).symm.trans H; with_reducible exact H2_) | with_reducible exact H | (rw [hy386]; exact H) | exact H
                       have Ny386 := Aside0.mk hy386
                       clear hy386
                       by_cases c66 : y383.length + y386.length < 140737488355328
                       ·
                        rw [if_pos c66] at H
                        have LMc66 := Aside0.mk c66
                        clear c66
                        obtain ⟨y389, hy389⟩ : ∃ y_ : List Int, y_ = (y383 ++ y386) := ⟨_, rfl⟩
                        replace H : (if 0 ≤ x17_6 then ((some (([x0_2, x16_43, y375, y389] : List (List Int)).getD (x17_6).toNat [] : List Int)).bind fun y392 => ((node_Parse.f k6 y392).bind fun bt395 => ((waybillref7_NodeOf.f k6 y392).bind fun bt401 => (if (bt395.2.2 != bt401.2.2) = true then (none) else ((waybilllaw10_Same.f k6 bt395.1 bt395.2.1 bt401.1 bt401.2.1).bind fun t407 => (if t407 = true then (waybilllaw10_NodeTells.l1 k6 x0_2 a2 a3 a4 x11_2 x15_36 x16_43 (wrap64 (x17_6 + 1)) x349000_2 x349001_2) else (none))))))) else (none)) = some r := by first | (rw [hy389]; with_reducible exact H) | (have H2_ := (Option.bind_some _ _).symm.trans H; rw [hy389]; with_reducible exact H2_) | (have H2_ := (Option.bind_some _ _).symm.trans H; with_reducible exact H2_) | with_reducible exact H | (rw [hy389]; exact H) | exact H
                        have Ny389 := Aside0.mk hy389
                        clear hy389
                        by_cases c67 : 0 ≤ x17_6
                        ·
                         rw [if_pos c67] at H
                         have c67b0 : decide (0 ≤ x17_6) = true := decide_eq_true c67
                         clear c67
                         obtain ⟨y392, hy392⟩ : ∃ y_ : List Int, y_ = (([x0_2, x16_43, y375, y389] : List (List Int)).getD (x17_6).toNat []) := ⟨_, rfl⟩
                         replace H : ((node_Parse.f k6 y392).bind fun bt395 => ((waybillref7_NodeOf.f k6 y392).bind fun bt401 => (if (bt395.2.2 != bt401.2.2) = true then (none) else ((waybilllaw10_Same.f k6 bt395.1 bt395.2.1 bt401.1 bt401.2.1).bind fun t407 => (if t407 = true then (waybilllaw10_NodeTells.l1 k6 x0_2 a2 a3 a4 x11_2 x15_36 x16_43 (wrap64 (x17_6 + 1)) x349000_2 x349001_2) else (none)))))) = some r := by first | (rw [hy392]; with_reducible exact H) | (have H2_ := (Option.bind_some _ _).symm.trans H; rw [hy392]; with_reducible exact H2_) | (have H2_ := (Option.bind_some _ _).symm.trans H; with_reducible exact H2_) | with_reducible exact H | (rw [hy392]; exact H) | exact H
                         have Ny392 := Aside0.mk hy392
                         clear hy392
                         replace H := Option.bind_eq_some_iff.mp H
                         obtain ⟨⟨t395, t396, t399⟩, A680, H⟩ := H
                         replace H : ((waybillref7_NodeOf.f k6 y392).bind fun bt401 => (if (t399 != bt401.2.2) = true then (none) else ((waybilllaw10_Same.f k6 t395 t396 bt401.1 bt401.2.1).bind fun t407 => (if t407 = true then (waybilllaw10_NodeTells.l1 k6 x0_2 a2 a3 a4 x11_2 x15_36 x16_43 (wrap64 (x17_6 + 1)) x349000_2 x349001_2) else (none))))) = some r := H
                         have A68 := Aside0.mk A680
                         clear A680
                         replace H := Option.bind_eq_some_iff.mp H
                         obtain ⟨⟨t401, t402, t405⟩, A690, H⟩ := H
                         replace H : (if (t399 != t405) = true then (none) else ((waybilllaw10_Same.f k6 t395 t396 t401 t402).bind fun t407 => (if t407 = true then (waybilllaw10_NodeTells.l1 k6 x0_2 a2 a3 a4 x11_2 x15_36 x16_43 (wrap64 (x17_6 + 1)) x349000_2 x349001_2) else (none)))) = some r := H
                         have A69 := Aside0.mk A690
                         clear A690
                         by_cases c70 : (t399 != t405) = true
                         ·
                          rw [if_pos c70] at H
                          exact absurd H (by simp)
                         ·
                          rw [if_neg c70] at H
                          have c70b0 : (t399 != t405) = false := by simpa using c70
                          (try (have c70b1 : decide (t399 = t405) = true := by simpa using c70))
                          (try (have c70b2 : (t399 == t405) = true := by simpa using c70))
                          clear c70
                          replace H := Option.bind_eq_some_iff.mp H
                          obtain ⟨t407, A710, H⟩ := H
                          replace H : (if t407 = true then (waybilllaw10_NodeTells.l1 k6 x0_2 a2 a3 a4 x11_2 x15_36 x16_43 (wrap64 (x17_6 + 1)) x349000_2 x349001_2) else (none)) = some r := H
                          have A71 := Aside0.mk A710
                          clear A710
                          by_cases c72 : t407 = true
                          ·
                           subst c72
                           have H1 : (waybilllaw10_NodeTells.l1 k6 x0_2 a2 a3 a4 x11_2 x15_36 x16_43 (wrap64 (x17_6 + 1)) x349000_2 x349001_2) = some r := by rw [if_pos rfl] at H; exact H
                           clear H
                           have H := H1
                           clear H1
                           have H' := Aside0.mk H
                           clear H
                           try go_wp2
                           have n0_ := Aside0.mk (Kd.V_drew HO_0.out)
                           have n1_ := Aside0.mk (Kd.V_drew HO_15.out)
                           have n2_ := Aside0.mk (Kd.V_drew HO_16.out)
                           have n3_ := Aside0.mk (Kd.V_drew HO_349001.out)
                           have n4_ := Aside0.mk (blk_drew BK348.out)
                           have n5_ := Aside0.mk (below_drew1 HB.out)
                           clear HO_0
                           clear HO_15
                           clear HO_16
                           clear HO_349001
                           clear BK348
                           clear HB
                           have HO_0 := n0_
                           have HO_15 := n1_
                           have HO_16 := n2_
                           have HO_349001 := n3_
                           have BK348 := n4_
                           have HB := n5_
                           clear n0_ n1_ n2_ n3_ n4_ n5_
                           have q74 : ((ji62) : Int) ≤ ((x15_36.length : Int) : Int) := of_decide_eq_true (by first | (with_reducible assumption) | assumption)
                           obtain ⟨i074, hi074, _, hsz74, _⟩ := info_parts info5
                           have hroom74 : x15_36.length ≤ co50 := (Kd.V_reads' HO_15.out).2.1
                           have hC74 : Kd.F (Kd.int .u8) _ _ Ao50 x15_36.length x15_36 := (Kd.V_at (base := w.heap.size) HO_15.out).2.2
                           have hcut74 := cut_to (P := Try.prog) 25 5 .i64 Try.underlying25 hi074 Ao50 x15_36.length co50 (ji62) (of_decide_eq_true (by first | (with_reducible assumption) | assumption)) q74 hroom74
                           have hr74 := Kd.F_take (m := ((ji62) : Int).toNat) hC74 (by omega)
                           have hy74 : y375.length = ((ji62) : Int).toNat := (by rw [Ny375.out, List.length_take]; omega)
                           rw [← Ny375.out] at hr74
                           rw [← hy74] at hcut74
                           have HO379 := Aside0.mk (show Kd.V (Kd.int .u8) 5 _ w.heap.size _ (.slice Ao50 y375.length co50) y375 from Kd.V_mk (by omega) hr74)
                           have HC379 := Aside0.mk (show y375.length ≤ co50 from by omega)
                           clear hr74 hC74 hroom74 hi074 hsz74
                           have KY74 := Aside0.mk hy74
                           clear hy74
                           replace q74 := eq_true q74
                           have plq84 : (0 ≤ x17_6) = True := eq_true (of_decide_eq_true (by first | (with_reducible assumption) | assumption))
                           have qlq84 : (x17_6 < 4) = True := eq_true (of_decide_eq_true (by first | (with_reducible assumption) | assumption))
                           have jlq84 : (x17_6).toNat < 4 := by have h1_ := of_eq_true plq84; have h2_ := of_eq_true qlq84; omega
                           refine start_ (n := 21) (S := fun w' => True) (ds := [16, 19]) #[false, false, false, false, false, false, false, false, false, false, false, false, false, false, false, false, false, false, false, false, false] (by kernel_rfl) rfl rfl trivial (fun hHeld => ?_); refine with_tabW waybilllaw10_NodeTells.tab21 waybilllaw10_NodeTells.bits21 (fun HT_ HW_ => ?_)
                           generalize wr.drew = w73 at HO_0 HO_15 HO_16 HO_349001 BK348 HB HO379 hHeld ⊢
                           refine pure_ (i := 0) (N := some 88) (v := ?_) (a' := ?_) #[true, false, false, false, false, false, false, false, false, false, false, false, false, false, false, false, false, false, false, false, false] rfl rfl (any_of HT_.out (by kernel_rfl)) (fun _ _ _ h => h) (Or.inl ⟨by rfl, ?_⟩) ?_ ?_
                           rotate_left
                           ·
                            intro w'
                            go_simp
                            with_reducible rfl
                           rotate_left
                           ·
                            simp only [Act.put, List.setIfInBounds_toArray, List.set_cons_zero, List.set_cons_succ, i64_w, i32_w]
                            rfl
                           refine pure_ (i := 1) (N := some 89) (v := ?_) (a' := ?_) #[true, true, false, false, false, false, false, false, false, false, false, false, false, false, false, false, false, false, false, false, false] rfl rfl (any_of HT_.out (by kernel_rfl)) (fun _ _ _ h => h) (Or.inl ⟨by rfl, ?_⟩) ?_ ?_
                           rotate_left
                           ·
                            intro w'
                            go_simp
                            with_reducible rfl
                           rotate_left
                           ·
                            simp only [Act.put, List.setIfInBounds_toArray, List.set_cons_zero, List.set_cons_succ, i64_w, i32_w]
                            rfl
                           refine pure_ (i := 2) (N := some 90) (v := ?_) (a' := ?_) #[true, true, true, false, false, false, false, false, false, false, false, false, false, false, false, false, false, false, false, false, false] rfl rfl (any_of HT_.out (by kernel_rfl)) (fun _ _ _ h => h) (Or.inl ⟨by rfl, ?_⟩) ?_ ?_
                           rotate_left
                           ·
                            intro w'
                            go_simp
                            with_reducible rfl
                           rotate_left
                           ·
                            simp only [Act.put, List.setIfInBounds_toArray, List.set_cons_zero, List.set_cons_succ, i64_w, i32_w]
                            rfl
                           refine pure_ (i := 3) (N := some 91) (v := ?_) (a' := ?_) #[true, true, true, true, false, false, false, false, false, false, false, false, false, false, false, false, false, false, false, false, false] rfl rfl (any_of HT_.out (by kernel_rfl)) (fun _ _ _ h => h) (Or.inl ⟨by rfl, ?_⟩) ?_ ?_
                           rotate_left
                           ·
                            intro w'
                            go_simp
                            with_reducible rfl
                           rotate_left
                           ·
                            simp only [Act.put, List.setIfInBounds_toArray, List.set_cons_zero, List.set_cons_succ, i64_w, i32_w]
                            rfl
                           refine pure_ (i := 4) (N := some 92) (v := ?_) (a' := ?_) #[true, true, true, true, true, false, false, false, false, false, false, false, false, false, false, false, false, false, false, false, false] rfl rfl (any_of HT_.out (by kernel_rfl)) (fun _ _ _ h => h) (Or.inl ⟨by rfl, ?_⟩) ?_ ?_
                           rotate_left
                           ·
                            intro w'
                            go_simp
                            with_reducible rfl
                           rotate_left
                           ·
                            simp only [Act.put, List.setIfInBounds_toArray, List.set_cons_zero, List.set_cons_succ, i64_w, i32_w]
                            rfl
                           refine pure_ (i := 5) (N := some 93) (v := ?_) (a' := ?_) #[true, true, true, true, true, true, false, false, false, false, false, false, false, false, false, false, false, false, false, false, false] rfl rfl (any_of HT_.out (by kernel_rfl)) (fun _ _ _ h => h) (Or.inl ⟨by rfl, ?_⟩) ?_ ?_
                           rotate_left
                           ·
                            intro w'
                            go_simp
                            with_reducible rfl
                           rotate_left
                           ·
                            simp only [Act.put, List.setIfInBounds_toArray, List.set_cons_zero, List.set_cons_succ, i64_w, i32_w]
                            rfl
                           refine pure_ (i := 6) (N := some 94) (v := ?_) (a' := ?_) #[true, true, true, true, true, true, true, false, false, false, false, false, false, false, false, false, false, false, false, false, false] rfl rfl (any_of HT_.out (by kernel_rfl)) (fun _ _ _ h => h) (Or.inl ⟨by rfl, ?_⟩) ?_ ?_
                           rotate_left
                           ·
                            intro w'
                            go_simp
                            with_reducible rfl
                           rotate_left
                           ·
                            simp only [Act.put, List.setIfInBounds_toArray, List.set_cons_zero, List.set_cons_succ, i64_w, i32_w]
                            rfl
                           refine pure_ (i := 7) (N := some 95) (v := ?_) (a' := ?_) #[true, true, true, true, true, true, true, true, false, false, false, false, false, false, false, false, false, false, false, false, false] rfl rfl (any_of HT_.out (by kernel_rfl)) (fun _ _ _ h => h) (Or.inl ⟨by rfl, ?_⟩) ?_ ?_
                           rotate_left
                           ·
                            intro w'
                            go_simp
                            with_reducible rfl
                           rotate_left
                           ·
                            simp only [Act.put, List.setIfInBounds_toArray, List.set_cons_zero, List.set_cons_succ, i64_w, i32_w]
                            rfl
                           refine pure_ (i := 8) (N := some 96) (v := ?_) (a' := ?_) #[true, true, true, true, true, true, true, true, true, false, false, false, false, false, false, false, false, false, false, false, false] rfl rfl (any_of HT_.out (by kernel_rfl)) (fun _ _ _ h => h) (Or.inl ⟨by rfl, ?_⟩) ?_ ?_
                           rotate_left
                           ·
                            intro w'
                            go_simp
                            with_reducible rfl
                           rotate_left
                           ·
                            simp only [Act.put, List.setIfInBounds_toArray, List.set_cons_zero, List.set_cons_succ, i64_w, i32_w]
                            rfl
                           refine pure_ (i := 9) (N := some 97) (v := ?_) (a' := ?_) #[true, true, true, true, true, true, true, true, true, true, false, false, false, false, false, false, false, false, false, false, false] rfl rfl (any_of HT_.out (by kernel_rfl)) (fun _ _ _ h => h) (Or.inl ⟨by rfl, ?_⟩) ?_ ?_
                           rotate_left
                           ·
                            intro w'
                            go_simp
                            with_reducible rfl
                           rotate_left
                           ·
                            simp only [Act.put, List.setIfInBounds_toArray, List.set_cons_zero, List.set_cons_succ, i64_w, i32_w]
                            rfl
                           refine pure_ (i := 11) (N := some 99) (v := ?_) (a' := ?_) #[true, true, true, true, true, true, true, true, true, true, false, true, false, false, false, false, false, false, false, false, false] rfl rfl (any_of HT_.out (by kernel_rfl)) (fun _ _ _ h => h) (Or.inl ⟨by rfl, ?_⟩) ?_ ?_
                           rotate_left
                           ·
                            intro w'
                            go_simp
                            with_reducible rfl
                           rotate_left
                           ·
                            simp only [Act.put, List.setIfInBounds_toArray, List.set_cons_zero, List.set_cons_succ, i64_w, i32_w]
                            rfl
                           refine pure_ (i := 13) (N := some 101) (v := ?_) (a' := ?_) #[true, true, true, true, true, true, true, true, true, true, false, true, false, true, false, false, false, false, false, false, false] rfl rfl (any_of HT_.out (by kernel_rfl)) (fun _ _ _ h => h) (Or.inl ⟨by rfl, ?_⟩) ?_ ?_
                           rotate_left
                           ·
                            intro w'
                            go_simp
                            with_reducible rfl
                           rotate_left
                           ·
                            simp only [Act.put, List.setIfInBounds_toArray, List.set_cons_zero, List.set_cons_succ, i64_w, i32_w]
                            rfl
                           refine pure_ (i := 17) (N := some 105) (v := ?_) (a' := ?_) #[true, true, true, true, true, true, true, true, true, true, false, true, false, true, false, false, false, true, false, false, false] rfl rfl (any_of HT_.out (by kernel_rfl)) (fun _ _ _ h => h) (Or.inl ⟨by rfl, ?_⟩) ?_ ?_
                           rotate_left
                           ·
                            intro w'
                            go_simp
                            with_reducible rfl
                           rotate_left
                           ·
                            simp only [Act.put, List.setIfInBounds_toArray, List.set_cons_zero, List.set_cons_succ, i64_w, i32_w]
                            rfl
                           refine join_ (σ := Value × Value × Value) 5 #[true, true, true, true, true, true, true, true, true, true, true, true, true, true, true, false, false, true, false, false, false] (fun s_ => [(98, s_.1), (100, s_.2.1), (102, s_.2.2)]) (fun s_ w' => (Kd.V (Kd.int .u8) 5 w' w.heap.size (fun k_ => ((P0_ k_ ∨ P1_1_ k_) ∨ w.heap.size ≤ k_) ∧ some k_ ≠ (s_.2.1 : Value).ownBlock ∧ some k_ ≠ (s_.2.2 : Value).ownBlock ∧ k_ ≠ gb348) (.slice Ao50 y375.length co50) y375) ∧ (Kd.R (Kd.int .u8) 5 w' w.heap.size (fun k_ => (w.heap.size ≤ k_) ∧ some k_ ≠ (s_.2.2 : Value).ownBlock) s_.2.1 y383) ∧ (Kd.R (Kd.int .u8) 5 w' w.heap.size (fun k_ => (w.heap.size ≤ k_) ∧ some k_ ≠ (s_.2.1 : Value).ownBlock) s_.2.2 y386) ∧ (Kd.V (Kd.int .u8) 5 w' w.heap.size (fun k_ => ((P0_ k_ ∨ P1_1_ k_) ∨ w.heap.size ≤ k_) ∧ some k_ ≠ (s_.2.1 : Value).ownBlock ∧ some k_ ≠ (s_.2.2 : Value).ownBlock ∧ k_ ≠ gb348) (.slice A0 x0_2.length c0) x0_2) ∧ (Kd.V (Kd.int .u8) 5 w' w.heap.size (fun k_ => ((P0_ k_ ∨ P1_1_ k_) ∨ w.heap.size ≤ k_) ∧ some k_ ≠ (s_.2.1 : Value).ownBlock ∧ some k_ ≠ (s_.2.2 : Value).ownBlock ∧ k_ ≠ gb348) (.slice Ao50 x15_36.length co50) x15_36) ∧ (Kd.V (Kd.int .u8) 5 w' w.heap.size (fun k_ => ((P0_ k_ ∨ P1_1_ k_) ∨ w.heap.size ≤ k_) ∧ some k_ ≠ (s_.2.1 : Value).ownBlock ∧ some k_ ≠ (s_.2.2 : Value).ownBlock ∧ k_ ≠ gb348) (.slice Ao51 x16_43.length co51) x16_43) ∧ (Kd.V k41 41 w' w.heap.size (fun k_ => ((P0_ k_ ∨ P1_1_ k_) ∨ w.heap.size ≤ k_) ∧ some k_ ≠ (s_.2.1 : Value).ownBlock ∧ some k_ ≠ (s_.2.2 : Value).ownBlock ∧ k_ ≠ gb348) (.slice Ao20 x349001_2.length co20) x349001_2) ∧ (w'.heap[gb348]? = some (.cells #[.bool x349000_2, .slice Ao20 x349001_2.length co20] 44 (0, 0))) ∧ (Below w.heap.size w w')) ?_ ?_
                           rotate_left
                           ·
                            intro hCont
                            refine two_ (i := 10) (j := 14) (Ni := some 98) (Nj := some 102) #[true, true, true, true, true, true, true, true, true, true, true, true, false, true, false, false, false, true, false, false, false] #[true, true, true, true, true, true, true, true, true, true, false, true, false, true, true, false, false, true, false, false, false] rfl rfl rfl rfl (two_of HT_.out (by kernel_rfl)) (by decide) (by decide) (fun K hK => ?_) (fun K hK => ?_)
                            ·
                             skip
                             refine Kd.R_lit_step (Kd.int .u8) _ 5 ?hg (N := 98) ?hd (xs := ([] : List Int)) (inner := []) (ok := fun _ => True) (okp := fun _ => True) ?hr ?hp (fun _ hk => hk) trivial (Below.refl _ _) (Nat.le_refl _) (by simp) ?_; (case hd => rfl); (case hg => rfl); (case hr => first | (go_simp; done) | (go_simp; rfl)); (case hp => exact (Reps.none _ _))
                             intro v381 w75 ho76 hb hg_ hnew_
                             clear hg_ hnew_
                             (first | rw [← Ny380.out] at ho76 | (simp only [Int.reduceToNat] at ho76; rw [← Ny380.out] at ho76))
                             have n0_ := Aside0.mk (Kd.V_elder' (by exact HO_0.out) (Kd.R_base ho76) hb)
                             have n1_ := Aside0.mk (Kd.V_elder' (by exact HO_15.out) (Kd.R_base ho76) hb)
                             have n2_ := Aside0.mk (Kd.V_elder' (by exact HO_16.out) (Kd.R_base ho76) hb)
                             have n3_ := Aside0.mk (Kd.V_elder' (by exact HO_349001.out) (Kd.R_base ho76) hb)
                             have n4_ := Aside0.mk (Kd.V_elder' (by exact HO379.out) (Kd.R_base ho76) hb)
                             have n5_ := Aside0.mk (Kd.R_lower (Kd.R_newM (M := fun k_ => (w.heap.size ≤ k_)) ho76 (below_size (by repeat (first | (with_reducible first | exact HB.out | apply below_alloc | apply pw_below_drewN | apply below_drew1 | refine below_set ?_ GE348.out) | exact HB.out))) (fun k_ h_ => h_)) (below_size (by repeat (first | (with_reducible first | exact HB.out | apply below_alloc | apply pw_below_drewN | apply below_drew1 | refine below_set ?_ GE348.out) | exact HB.out))))
                             have n6_ := Aside0.mk (blk_below (g := gb348) (o := .cells #[.bool x349000_2, .slice Ao20 x349001_2.length co20] 44 (0, 0)) (by exact BK348.out) hb)
                             have n7_ := Aside0.mk (below_step (by repeat (first | (with_reducible first | exact HB.out | apply below_alloc | apply pw_below_drewN | apply below_drew1 | refine below_set ?_ GE348.out) | exact HB.out)) hb)
                             clear HO_0
                             clear HO_15
                             clear HO_16
                             clear HO_349001
                             clear HO379
                             clear BK348
                             clear HB
                             have HO_0 := n0_
                             have HO_15 := n1_
                             have HO_16 := n2_
                             have HO_349001 := n3_
                             have HO379 := n4_
                             have HO382 := n5_
                             have BK348 := n6_
                             have HB := n7_
                             clear n0_ n1_ n2_ n3_ n4_ n5_ n6_ n7_
                             clear hb ho76
                             refine hK.out _ _ trivial (fun hHeld => ?_)
                             clear hK K
                             refine norm_ (a' := ?_) ?_ ?_
                             rotate_left
                             ·
                              show Act.put _ (some 98) _ = _
                              simp only [Act.put, List.setIfInBounds_toArray, List.set_cons_zero, List.set_cons_succ, i64_w, i32_w]
                              rfl
                             refine two_ (i := 12) (j := 14) (Ni := some 100) (Nj := some 102) #[true, true, true, true, true, true, true, true, true, true, true, true, true, true, false, false, false, true, false, false, false] #[true, true, true, true, true, true, true, true, true, true, true, true, false, true, true, false, false, true, false, false, false] rfl rfl rfl rfl (two_of HT_.out (by kernel_rfl)) (by decide) (by decide) (fun K hK => ?_) (fun K hK => ?_)
                             ·
                              skip
                              refine Kd.R_append_rows_step (Kd.int .u8) (w0 := w) w.heap.size (by rfl) (.tmp 98) (.tmp 99) 25 5 (.int .u8 0) 1 rfl Try.underlying25 info5 rfl (by decide) (by omega) v381 y380 x15_36 _ _ _ (fun k_ => (w.heap.size ≤ k_)) (fun _ => False) rfl rfl ?aO ?aR (fun _ _ h => h) (fun _ h => h.elim) ?aF ?aB ?aS ?aL ?_
                              (case aR => repeat (first | exact (Kd.V_reads' HO_15.out).2.2 | (with_reducible refine Kd.C_alloc ?_ _) | (with_reducible refine Kd.C_drewN ?_ _) | (with_reducible refine Kd.C_drew ?_)))
                              (case aB => exact (by repeat (first | (with_reducible first | exact HB.out | apply below_alloc | apply pw_below_drewN | apply below_drew1 | refine below_set ?_ GE348.out) | exact HB.out)))
                              (case aF => exact (fun k_ hk => (Nat.le_trans (below_size (by repeat (first | (with_reducible first | exact HB.out | apply below_alloc | apply pw_below_drewN | apply below_drew1 | refine below_set ?_ GE348.out) | exact HB.out))) hk)))
                              (case aO => exact (by exact Kd.R_mono HO382.out (fun _ hk => hk.1)))
                              (case aS => exact (below_size (by repeat (first | (with_reducible first | exact HB.out | apply below_alloc | apply pw_below_drewN | apply below_drew1 | refine below_set ?_ GE348.out) | exact HB.out))))
                              (case aL => have := LMc65.out; omega)
                              intro v384 w77 ho hb hg hat
                              rw [← Ny383.out] at ho
                              have n0_ := Aside0.mk (Kd.V_afterv (ok := (fun k_ => ((P0_ k_ ∨ P1_1_ k_) ∨ w.heap.size ≤ k_) ∧ k_ ≠ gb348)) (by exact HO_0.out) hg hat)
                              have n1_ := Aside0.mk (Kd.V_afterv (ok := (fun k_ => ((P0_ k_ ∨ P1_1_ k_) ∨ w.heap.size ≤ k_) ∧ k_ ≠ gb348)) (by exact HO_15.out) hg hat)
                              have n2_ := Aside0.mk (Kd.V_afterv (ok := (fun k_ => ((P0_ k_ ∨ P1_1_ k_) ∨ w.heap.size ≤ k_) ∧ k_ ≠ gb348)) (by exact HO_16.out) hg hat)
                              have n3_ := Aside0.mk (Kd.V_afterv (ok := (fun k_ => ((P0_ k_ ∨ P1_1_ k_) ∨ w.heap.size ≤ k_) ∧ k_ ≠ gb348)) (by exact HO_349001.out) hg hat)
                              have n4_ := Aside0.mk (blk_grown (g := gb348) (o := .cells #[.bool x349000_2, .slice Ao20 x349001_2.length co20] 44 (0, 0)) (by exact BK348.out) hg (Kd.R_ne HO382.out BK348.out (by decide)))
                              have n5_ := Aside0.mk (Kd.V_afterv (ok := (fun k_ => ((P0_ k_ ∨ P1_1_ k_) ∨ w.heap.size ≤ k_) ∧ k_ ≠ gb348)) (by exact HO379.out) hg hat)
                              have n6_ := Aside0.mk (hb)
                              have n7_ := Aside0.mk (ho)
                              clear HO_0
                              clear HO_15
                              clear HO_16
                              clear HO_349001
                              clear BK348
                              clear HO379
                              clear HB
                              clear HO382
                              have HO_0 := n0_
                              have HO_15 := n1_
                              have HO_16 := n2_
                              have HO_349001 := n3_
                              have BK348 := n4_
                              have HO379 := n5_
                              have HB := n6_
                              have HO385 := n7_
                              clear n0_ n1_ n2_ n3_ n4_ n5_ n6_ n7_
                              clear ho hb hg hat
                              refine hK.out _ _ trivial (fun hHeld => ?_)
                              clear hK K
                              refine norm_ (a' := ?_) ?_ ?_
                              rotate_left
                              ·
                               show Act.put _ (some 100) _ = _
                               simp only [Act.put, List.setIfInBounds_toArray, List.set_cons_zero, List.set_cons_succ, i64_w, i32_w]
                               rfl
                              refine one_ (i := 14) (N := some 102) #[true, true, true, true, true, true, true, true, true, true, true, true, true, true, true, false, false, true, false, false, false] rfl rfl (one_of HT_.out (by kernel_rfl)) (by decide) (fun K hK => ?_)
                              refine Kd.R_lit_step (Kd.int .u8) _ 5 ?hg (N := 102) ?hd (xs := ([0, 0, a3] : List Int)) (inner := [.int .u8 0, .int .u8 0, .int .u8 a3]) (ok := fun _ => True) (okp := fun _ => True) ?hr ?hp (fun _ hk => hk) trivial (Below.refl _ _) (Nat.le_refl _) (by simp) ?_; (case hd => rfl); (case hg => rfl); (case hr => first | (go_simp; done) | (go_simp; rfl)); (case hp => exact (Reps.one (show Kd.M (Kd.int .u8) _ _ _ 0 [.int .u8 0] from rfl) (Reps.one (show Kd.M (Kd.int .u8) _ _ _ 0 [.int .u8 0] from rfl) (Reps.one (show Kd.M (Kd.int .u8) _ _ _ a3 [.int .u8 a3] from rfl) (Reps.none _ _)))))
                              intro v387 w78 ho79 hb hg_ hnew_
                              clear hg_ hnew_
                              (first | rw [← Ny386.out] at ho79 | (simp only [Int.reduceToNat] at ho79; rw [← Ny386.out] at ho79))
                              have n0_ := Aside0.mk (Kd.V_elder' (by exact HO_0.out) (Kd.R_base ho79) hb)
                              have n1_ := Aside0.mk (Kd.V_elder' (by exact HO_15.out) (Kd.R_base ho79) hb)
                              have n2_ := Aside0.mk (Kd.V_elder' (by exact HO_16.out) (Kd.R_base ho79) hb)
                              have n3_ := Aside0.mk (Kd.V_elder' (by exact HO_349001.out) (Kd.R_base ho79) hb)
                              have n4_ := Aside0.mk (Kd.V_elder' (by exact HO379.out) (Kd.R_base ho79) hb)
                              have n5_ := Aside0.mk (Kd.R_elder' (by exact HO385.out) (Kd.R_base ho79) hb)
                              have n6_ := Aside0.mk (Kd.R_lower (Kd.R_new' (Kd.R_newM (M := fun k_ => (w.heap.size ≤ k_)) ho79 (below_size (by repeat (first | (with_reducible first | exact HB.out | apply below_alloc | apply pw_below_drewN | apply below_drew1 | refine below_set ?_ GE348.out) | exact HB.out))) (fun k_ h_ => h_)) (Kd.R_lt (by exact HO385.out))) (below_size (by repeat (first | (with_reducible first | exact HB.out | apply below_alloc | apply pw_below_drewN | apply below_drew1 | refine below_set ?_ GE348.out) | exact HB.out))))
                              have n7_ := Aside0.mk (blk_below (g := gb348) (o := .cells #[.bool x349000_2, .slice Ao20 x349001_2.length co20] 44 (0, 0)) (by exact BK348.out) hb)
                              have n8_ := Aside0.mk (below_step (by repeat (first | (with_reducible first | exact HB.out | apply below_alloc | apply pw_below_drewN | apply below_drew1 | refine below_set ?_ GE348.out) | exact HB.out)) hb)
                              clear HO_0
                              clear HO_15
                              clear HO_16
                              clear HO_349001
                              clear HO379
                              clear HO385
                              clear BK348
                              clear HB
                              have HO_0 := n0_
                              have HO_15 := n1_
                              have HO_16 := n2_
                              have HO_349001 := n3_
                              have HO379 := n4_
                              have HO385 := n5_
                              have HO388 := n6_
                              have BK348 := n7_
                              have HB := n8_
                              clear n0_ n1_ n2_ n3_ n4_ n5_ n6_ n7_ n8_
                              clear hb ho79
                              refine hK.out _ _ trivial (fun hHeld => ?_)
                              clear hK K
                              refine norm_ (a' := ?_) ?_ ?_
                              rotate_left
                              ·
                               show Act.put _ (some 102) _ = _
                               simp only [Act.put, List.setIfInBounds_toArray, List.set_cons_zero, List.set_cons_succ, i64_w, i32_w]
                               rfl
                              exact norm_ (by simp only [putAll, Act.put, List.setIfInBounds_toArray, List.set_cons_zero, List.set_cons_succ]) (hCont (v381, v384, v387) _ ⟨(by exact Kd.V_mono HO379.out (fun _ hk => ⟨hk.1.1.1, ⟨hk.1.2, ⟨hk.2, hk.1.1.2⟩⟩⟩)), (by exact HO385.out), (by exact Kd.R_mono HO388.out (fun _ hk => ⟨hk.1.1, hk.2⟩)), (by exact Kd.V_mono HO_0.out (fun _ hk => ⟨hk.1.1.1, ⟨hk.1.2, ⟨hk.2, hk.1.1.2⟩⟩⟩)), (by exact Kd.V_mono HO_15.out (fun _ hk => ⟨hk.1.1.1, ⟨hk.1.2, ⟨hk.2, hk.1.1.2⟩⟩⟩)), (by exact Kd.V_mono HO_16.out (fun _ hk => ⟨hk.1.1.1, ⟨hk.1.2, ⟨hk.2, hk.1.1.2⟩⟩⟩)), (by exact Kd.V_mono HO_349001.out (fun _ hk => ⟨hk.1.1.1, ⟨hk.1.2, ⟨hk.2, hk.1.1.2⟩⟩⟩)), (by exact BK348.out), (by repeat (first | (with_reducible first | exact HB.out | apply below_alloc | apply pw_below_drewN | apply below_drew1 | refine below_set ?_ GE348.out) | exact HB.out))⟩)
                             ·
                              skip
                              refine Kd.R_lit_step (Kd.int .u8) _ 5 ?hg (N := 102) ?hd (xs := ([0, 0, a3] : List Int)) (inner := [.int .u8 0, .int .u8 0, .int .u8 a3]) (ok := fun _ => True) (okp := fun _ => True) ?hr ?hp (fun _ hk => hk) trivial (Below.refl _ _) (Nat.le_refl _) (by simp) ?_; (case hd => rfl); (case hg => rfl); (case hr => first | (go_simp; done) | (go_simp; rfl)); (case hp => exact (Reps.one (show Kd.M (Kd.int .u8) _ _ _ 0 [.int .u8 0] from rfl) (Reps.one (show Kd.M (Kd.int .u8) _ _ _ 0 [.int .u8 0] from rfl) (Reps.one (show Kd.M (Kd.int .u8) _ _ _ a3 [.int .u8 a3] from rfl) (Reps.none _ _)))))
                              intro v387 w77 ho78 hb hg_ hnew_
                              clear hg_ hnew_
                              (first | rw [← Ny386.out] at ho78 | (simp only [Int.reduceToNat] at ho78; rw [← Ny386.out] at ho78))
                              have n0_ := Aside0.mk (Kd.V_elder' (by exact HO_0.out) (Kd.R_base ho78) hb)
                              have n1_ := Aside0.mk (Kd.V_elder' (by exact HO_15.out) (Kd.R_base ho78) hb)
                              have n2_ := Aside0.mk (Kd.V_elder' (by exact HO_16.out) (Kd.R_base ho78) hb)
                              have n3_ := Aside0.mk (Kd.V_elder' (by exact HO_349001.out) (Kd.R_base ho78) hb)
                              have n4_ := Aside0.mk (Kd.V_elder' (by exact HO379.out) (Kd.R_base ho78) hb)
                              have n5_ := Aside0.mk (Kd.R_elder' (by exact HO382.out) (Kd.R_base ho78) hb)
                              have n6_ := Aside0.mk (Kd.R_lower (Kd.R_new' (Kd.R_newM (M := fun k_ => (w.heap.size ≤ k_)) ho78 (below_size (by repeat (first | (with_reducible first | exact HB.out | apply below_alloc | apply pw_below_drewN | apply below_drew1 | refine below_set ?_ GE348.out) | exact HB.out))) (fun k_ h_ => h_)) (Kd.R_lt (by exact HO382.out))) (below_size (by repeat (first | (with_reducible first | exact HB.out | apply below_alloc | apply pw_below_drewN | apply below_drew1 | refine below_set ?_ GE348.out) | exact HB.out))))
                              have n7_ := Aside0.mk (blk_below (g := gb348) (o := .cells #[.bool x349000_2, .slice Ao20 x349001_2.length co20] 44 (0, 0)) (by exact BK348.out) hb)
                              have n8_ := Aside0.mk (below_step (by repeat (first | (with_reducible first | exact HB.out | apply below_alloc | apply pw_below_drewN | apply below_drew1 | refine below_set ?_ GE348.out) | exact HB.out)) hb)
                              clear HO_0
                              clear HO_15
                              clear HO_16
                              clear HO_349001
                              clear HO379
                              clear HO382
                              clear BK348
                              clear HB
                              have HO_0 := n0_
                              have HO_15 := n1_
                              have HO_16 := n2_
                              have HO_349001 := n3_
                              have HO379 := n4_
                              have HO382 := n5_
                              have HO388 := n6_
                              have BK348 := n7_
                              have HB := n8_
                              clear n0_ n1_ n2_ n3_ n4_ n5_ n6_ n7_ n8_
                              clear hb ho78
                              refine hK.out _ _ trivial (fun hHeld => ?_)
                              clear hK K
                              refine norm_ (a' := ?_) ?_ ?_
                              rotate_left
                              ·
                               show Act.put _ (some 102) _ = _
                               simp only [Act.put, List.setIfInBounds_toArray, List.set_cons_zero, List.set_cons_succ, i64_w, i32_w]
                               rfl
                              refine one_ (i := 12) (N := some 100) #[true, true, true, true, true, true, true, true, true, true, true, true, true, true, true, false, false, true, false, false, false] rfl rfl (one_of HT_.out (by kernel_rfl)) (by decide) (fun K hK => ?_)
                              refine Kd.R_append_rows_step (Kd.int .u8) (w0 := w) w.heap.size (by rfl) (.tmp 98) (.tmp 99) 25 5 (.int .u8 0) 1 rfl Try.underlying25 info5 rfl (by decide) (by omega) v381 y380 x15_36 _ _ _ (fun k_ => (w.heap.size ≤ k_) ∧ some k_ ≠ (v387 : Value).ownBlock) (fun _ => False) rfl rfl ?aO ?aR (fun _ _ h => h) (fun _ h => h.elim) ?aF ?aB ?aS ?aL ?_
                              (case aR => repeat (first | exact (Kd.V_reads' HO_15.out).2.2 | (with_reducible refine Kd.C_alloc ?_ _) | (with_reducible refine Kd.C_drewN ?_ _) | (with_reducible refine Kd.C_drew ?_)))
                              (case aB => exact (by repeat (first | (with_reducible first | exact HB.out | apply below_alloc | apply pw_below_drewN | apply below_drew1 | refine below_set ?_ GE348.out) | exact HB.out)))
                              (case aF => exact (fun k_ hk => ⟨(Nat.le_trans (below_size (by repeat (first | (with_reducible first | exact HB.out | apply below_alloc | apply pw_below_drewN | apply below_drew1 | refine below_set ?_ GE348.out) | exact HB.out))) hk), Kd.fresh' (Kd.R_lt (by exact HO388.out)) k_ hk⟩))
                              (case aO => exact (by exact Kd.R_mono HO382.out (fun _ hk => ⟨hk.1.1, hk.2⟩)))
                              (case aS => exact (below_size (by repeat (first | (with_reducible first | exact HB.out | apply below_alloc | apply pw_below_drewN | apply below_drew1 | refine below_set ?_ GE348.out) | exact HB.out))))
                              (case aL => have := LMc65.out; omega)
                              intro v384 w79 ho hb hg hat
                              rw [← Ny383.out] at ho
                              have n0_ := Aside0.mk (Kd.V_afterv (ok := (fun k_ => ((P0_ k_ ∨ P1_1_ k_) ∨ w.heap.size ≤ k_) ∧ some k_ ≠ (v387 : Value).ownBlock ∧ k_ ≠ gb348)) (by exact Kd.V_mono HO_0.out (fun _ hk => ⟨⟨hk.1.1.1, ⟨hk.2, hk.1.1.2⟩⟩, hk.1.2⟩)) hg hat)
                              have n1_ := Aside0.mk (Kd.V_afterv (ok := (fun k_ => ((P0_ k_ ∨ P1_1_ k_) ∨ w.heap.size ≤ k_) ∧ some k_ ≠ (v387 : Value).ownBlock ∧ k_ ≠ gb348)) (by exact Kd.V_mono HO_15.out (fun _ hk => ⟨⟨hk.1.1.1, ⟨hk.2, hk.1.1.2⟩⟩, hk.1.2⟩)) hg hat)
                              have n2_ := Aside0.mk (Kd.V_afterv (ok := (fun k_ => ((P0_ k_ ∨ P1_1_ k_) ∨ w.heap.size ≤ k_) ∧ some k_ ≠ (v387 : Value).ownBlock ∧ k_ ≠ gb348)) (by exact Kd.V_mono HO_16.out (fun _ hk => ⟨⟨hk.1.1.1, ⟨hk.2, hk.1.1.2⟩⟩, hk.1.2⟩)) hg hat)
                              have n3_ := Aside0.mk (Kd.V_afterv (ok := (fun k_ => ((P0_ k_ ∨ P1_1_ k_) ∨ w.heap.size ≤ k_) ∧ some k_ ≠ (v387 : Value).ownBlock ∧ k_ ≠ gb348)) (by exact Kd.V_mono HO_349001.out (fun _ hk => ⟨⟨hk.1.1.1, ⟨hk.2, hk.1.1.2⟩⟩, hk.1.2⟩)) hg hat)
                              have n4_ := Aside0.mk (blk_grown (g := gb348) (o := .cells #[.bool x349000_2, .slice Ao20 x349001_2.length co20] 44 (0, 0)) (by exact BK348.out) hg (Kd.R_ne HO382.out BK348.out (by decide)))
                              have n5_ := Aside0.mk (Kd.V_afterv (ok := (fun k_ => ((P0_ k_ ∨ P1_1_ k_) ∨ w.heap.size ≤ k_) ∧ some k_ ≠ (v387 : Value).ownBlock ∧ k_ ≠ gb348)) (by exact Kd.V_mono HO379.out (fun _ hk => ⟨⟨hk.1.1.1, ⟨hk.2, hk.1.1.2⟩⟩, hk.1.2⟩)) hg hat)
                              have n6_ := Aside0.mk (Kd.R_after (ok := (fun k_ => (w.heap.size ≤ k_))) (by exact Kd.R_mono HO388.out (fun _ hk => ⟨hk.1.1, hk.2⟩)) hg hat)
                              have n7_ := Aside0.mk (hb)
                              have n8_ := Aside0.mk (ho)
                              clear HO_0
                              clear HO_15
                              clear HO_16
                              clear HO_349001
                              clear BK348
                              clear HO379
                              clear HO388
                              clear HB
                              clear HO382
                              have HO_0 := n0_
                              have HO_15 := n1_
                              have HO_16 := n2_
                              have HO_349001 := n3_
                              have BK348 := n4_
                              have HO379 := n5_
                              have HO388 := n6_
                              have HB := n7_
                              have HO385 := n8_
                              clear n0_ n1_ n2_ n3_ n4_ n5_ n6_ n7_ n8_
                              clear ho hb hg hat
                              refine hK.out _ _ trivial (fun hHeld => ?_)
                              clear hK K
                              refine norm_ (a' := ?_) ?_ ?_
                              rotate_left
                              ·
                               show Act.put _ (some 100) _ = _
                               simp only [Act.put, List.setIfInBounds_toArray, List.set_cons_zero, List.set_cons_succ, i64_w, i32_w]
                               rfl
                              exact norm_ (by simp only [putAll, Act.put, List.setIfInBounds_toArray, List.set_cons_zero, List.set_cons_succ]) (hCont (v381, v384, v387) _ ⟨(by exact Kd.V_mono HO379.out (fun _ hk => ⟨hk.1.1, ⟨hk.2, ⟨hk.1.2.1, hk.1.2.2⟩⟩⟩)), (by exact HO385.out), (by exact HO388.out), (by exact Kd.V_mono HO_0.out (fun _ hk => ⟨hk.1.1, ⟨hk.2, ⟨hk.1.2.1, hk.1.2.2⟩⟩⟩)), (by exact Kd.V_mono HO_15.out (fun _ hk => ⟨hk.1.1, ⟨hk.2, ⟨hk.1.2.1, hk.1.2.2⟩⟩⟩)), (by exact Kd.V_mono HO_16.out (fun _ hk => ⟨hk.1.1, ⟨hk.2, ⟨hk.1.2.1, hk.1.2.2⟩⟩⟩)), (by exact Kd.V_mono HO_349001.out (fun _ hk => ⟨hk.1.1, ⟨hk.2, ⟨hk.1.2.1, hk.1.2.2⟩⟩⟩)), (by exact BK348.out), (by repeat (first | (with_reducible first | exact HB.out | apply below_alloc | apply pw_below_drewN | apply below_drew1 | refine below_set ?_ GE348.out) | exact HB.out))⟩)
                            ·
                             skip
                             refine Kd.R_lit_step (Kd.int .u8) _ 5 ?hg (N := 102) ?hd (xs := ([0, 0, a3] : List Int)) (inner := [.int .u8 0, .int .u8 0, .int .u8 a3]) (ok := fun _ => True) (okp := fun _ => True) ?hr ?hp (fun _ hk => hk) trivial (Below.refl _ _) (Nat.le_refl _) (by simp) ?_; (case hd => rfl); (case hg => rfl); (case hr => first | (go_simp; done) | (go_simp; rfl)); (case hp => exact (Reps.one (show Kd.M (Kd.int .u8) _ _ _ 0 [.int .u8 0] from rfl) (Reps.one (show Kd.M (Kd.int .u8) _ _ _ 0 [.int .u8 0] from rfl) (Reps.one (show Kd.M (Kd.int .u8) _ _ _ a3 [.int .u8 a3] from rfl) (Reps.none _ _)))))
                             intro v387 w75 ho76 hb hg_ hnew_
                             clear hg_ hnew_
                             (first | rw [← Ny386.out] at ho76 | (simp only [Int.reduceToNat] at ho76; rw [← Ny386.out] at ho76))
                             have n0_ := Aside0.mk (Kd.V_elder' (by exact HO_0.out) (Kd.R_base ho76) hb)
                             have n1_ := Aside0.mk (Kd.V_elder' (by exact HO_15.out) (Kd.R_base ho76) hb)
                             have n2_ := Aside0.mk (Kd.V_elder' (by exact HO_16.out) (Kd.R_base ho76) hb)
                             have n3_ := Aside0.mk (Kd.V_elder' (by exact HO_349001.out) (Kd.R_base ho76) hb)
                             have n4_ := Aside0.mk (Kd.V_elder' (by exact HO379.out) (Kd.R_base ho76) hb)
                             have n5_ := Aside0.mk (Kd.R_lower (Kd.R_newM (M := fun k_ => (w.heap.size ≤ k_)) ho76 (below_size (by repeat (first | (with_reducible first | exact HB.out | apply below_alloc | apply pw_below_drewN | apply below_drew1 | refine below_set ?_ GE348.out) | exact HB.out))) (fun k_ h_ => h_)) (below_size (by repeat (first | (with_reducible first | exact HB.out | apply below_alloc | apply pw_below_drewN | apply below_drew1 | refine below_set ?_ GE348.out) | exact HB.out))))
                             have n6_ := Aside0.mk (blk_below (g := gb348) (o := .cells #[.bool x349000_2, .slice Ao20 x349001_2.length co20] 44 (0, 0)) (by exact BK348.out) hb)
                             have n7_ := Aside0.mk (below_step (by repeat (first | (with_reducible first | exact HB.out | apply below_alloc | apply pw_below_drewN | apply below_drew1 | refine below_set ?_ GE348.out) | exact HB.out)) hb)
                             clear HO_0
                             clear HO_15
                             clear HO_16
                             clear HO_349001
                             clear HO379
                             clear BK348
                             clear HB
                             have HO_0 := n0_
                             have HO_15 := n1_
                             have HO_16 := n2_
                             have HO_349001 := n3_
                             have HO379 := n4_
                             have HO388 := n5_
                             have BK348 := n6_
                             have HB := n7_
                             clear n0_ n1_ n2_ n3_ n4_ n5_ n6_ n7_
                             clear hb ho76
                             refine hK.out _ _ trivial (fun hHeld => ?_)
                             clear hK K
                             refine norm_ (a' := ?_) ?_ ?_
                             rotate_left
                             ·
                              show Act.put _ (some 102) _ = _
                              simp only [Act.put, List.setIfInBounds_toArray, List.set_cons_zero, List.set_cons_succ, i64_w, i32_w]
                              rfl
                             refine one_ (i := 10) (N := some 98) #[true, true, true, true, true, true, true, true, true, true, true, true, false, true, true, false, false, true, false, false, false] rfl rfl (one_of HT_.out (by kernel_rfl)) (by decide) (fun K hK => ?_)
                             refine Kd.R_lit_step (Kd.int .u8) _ 5 ?hg (N := 98) ?hd (xs := ([] : List Int)) (inner := []) (ok := fun _ => True) (okp := fun _ => True) ?hr ?hp (fun _ hk => hk) trivial (Below.refl _ _) (Nat.le_refl _) (by simp) ?_; (case hd => rfl); (case hg => rfl); (case hr => first | (go_simp; done) | (go_simp; rfl)); (case hp => exact (Reps.none _ _))
                             intro v381 w77 ho78 hb hg_ hnew_
                             clear hg_ hnew_
                             (first | rw [← Ny380.out] at ho78 | (simp only [Int.reduceToNat] at ho78; rw [← Ny380.out] at ho78))
                             have n0_ := Aside0.mk (Kd.V_elder' (by exact HO_0.out) (Kd.R_base ho78) hb)
                             have n1_ := Aside0.mk (Kd.V_elder' (by exact HO_15.out) (Kd.R_base ho78) hb)
                             have n2_ := Aside0.mk (Kd.V_elder' (by exact HO_16.out) (Kd.R_base ho78) hb)
                             have n3_ := Aside0.mk (Kd.V_elder' (by exact HO_349001.out) (Kd.R_base ho78) hb)
                             have n4_ := Aside0.mk (Kd.V_elder' (by exact HO379.out) (Kd.R_base ho78) hb)
                             have n5_ := Aside0.mk (Kd.R_elder' (by exact HO388.out) (Kd.R_base ho78) hb)
                             have n6_ := Aside0.mk (Kd.R_lower (Kd.R_new' (Kd.R_newM (M := fun k_ => (w.heap.size ≤ k_)) ho78 (below_size (by repeat (first | (with_reducible first | exact HB.out | apply below_alloc | apply pw_below_drewN | apply below_drew1 | refine below_set ?_ GE348.out) | exact HB.out))) (fun k_ h_ => h_)) (Kd.R_lt (by exact HO388.out))) (below_size (by repeat (first | (with_reducible first | exact HB.out | apply below_alloc | apply pw_below_drewN | apply below_drew1 | refine below_set ?_ GE348.out) | exact HB.out))))
                             have n7_ := Aside0.mk (blk_below (g := gb348) (o := .cells #[.bool x349000_2, .slice Ao20 x349001_2.length co20] 44 (0, 0)) (by exact BK348.out) hb)
                             have n8_ := Aside0.mk (below_step (by repeat (first | (with_reducible first | exact HB.out | apply below_alloc | apply pw_below_drewN | apply below_drew1 | refine below_set ?_ GE348.out) | exact HB.out)) hb)
                             clear HO_0
                             clear HO_15
                             clear HO_16
                             clear HO_349001
                             clear HO379
                             clear HO388
                             clear BK348
                             clear HB
                             have HO_0 := n0_
                             have HO_15 := n1_
                             have HO_16 := n2_
                             have HO_349001 := n3_
                             have HO379 := n4_
                             have HO388 := n5_
                             have HO382 := n6_
                             have BK348 := n7_
                             have HB := n8_
                             clear n0_ n1_ n2_ n3_ n4_ n5_ n6_ n7_ n8_
                             clear hb ho78
                             refine hK.out _ _ trivial (fun hHeld => ?_)
                             clear hK K
                             refine norm_ (a' := ?_) ?_ ?_
                             rotate_left
                             ·
                              show Act.put _ (some 98) _ = _
                              simp only [Act.put, List.setIfInBounds_toArray, List.set_cons_zero, List.set_cons_succ, i64_w, i32_w]
                              rfl
                             refine one_ (i := 12) (N := some 100) #[true, true, true, true, true, true, true, true, true, true, true, true, true, true, true, false, false, true, false, false, false] rfl rfl (one_of HT_.out (by kernel_rfl)) (by decide) (fun K hK => ?_)
                             refine Kd.R_append_rows_step (Kd.int .u8) (w0 := w) w.heap.size (by rfl) (.tmp 98) (.tmp 99) 25 5 (.int .u8 0) 1 rfl Try.underlying25 info5 rfl (by decide) (by omega) v381 y380 x15_36 _ _ _ (fun k_ => (w.heap.size ≤ k_) ∧ some k_ ≠ (v387 : Value).ownBlock) (fun _ => False) rfl rfl ?aO ?aR (fun _ _ h => h) (fun _ h => h.elim) ?aF ?aB ?aS ?aL ?_
                             (case aR => repeat (first | exact (Kd.V_reads' HO_15.out).2.2 | (with_reducible refine Kd.C_alloc ?_ _) | (with_reducible refine Kd.C_drewN ?_ _) | (with_reducible refine Kd.C_drew ?_)))
                             (case aB => exact (by repeat (first | (with_reducible first | exact HB.out | apply below_alloc | apply pw_below_drewN | apply below_drew1 | refine below_set ?_ GE348.out) | exact HB.out)))
                             (case aF => exact (fun k_ hk => ⟨(Nat.le_trans (below_size (by repeat (first | (with_reducible first | exact HB.out | apply below_alloc | apply pw_below_drewN | apply below_drew1 | refine below_set ?_ GE348.out) | exact HB.out))) hk), Kd.fresh' (Kd.R_lt (by exact HO388.out)) k_ hk⟩))
                             (case aO => exact (by exact Kd.R_mono HO382.out (fun _ hk => ⟨hk.1.1, hk.2⟩)))
                             (case aS => exact (below_size (by repeat (first | (with_reducible first | exact HB.out | apply below_alloc | apply pw_below_drewN | apply below_drew1 | refine below_set ?_ GE348.out) | exact HB.out))))
                             (case aL => have := LMc65.out; omega)
                             intro v384 w79 ho hb hg hat
                             rw [← Ny383.out] at ho
                             have n0_ := Aside0.mk (Kd.V_afterv (ok := (fun k_ => ((P0_ k_ ∨ P1_1_ k_) ∨ w.heap.size ≤ k_) ∧ some k_ ≠ (v387 : Value).ownBlock ∧ k_ ≠ gb348)) (by exact Kd.V_mono HO_0.out (fun _ hk => ⟨⟨hk.1.1.1, ⟨hk.1.2, hk.1.1.2⟩⟩, hk.2⟩)) hg hat)
                             have n1_ := Aside0.mk (Kd.V_afterv (ok := (fun k_ => ((P0_ k_ ∨ P1_1_ k_) ∨ w.heap.size ≤ k_) ∧ some k_ ≠ (v387 : Value).ownBlock ∧ k_ ≠ gb348)) (by exact Kd.V_mono HO_15.out (fun _ hk => ⟨⟨hk.1.1.1, ⟨hk.1.2, hk.1.1.2⟩⟩, hk.2⟩)) hg hat)
                             have n2_ := Aside0.mk (Kd.V_afterv (ok := (fun k_ => ((P0_ k_ ∨ P1_1_ k_) ∨ w.heap.size ≤ k_) ∧ some k_ ≠ (v387 : Value).ownBlock ∧ k_ ≠ gb348)) (by exact Kd.V_mono HO_16.out (fun _ hk => ⟨⟨hk.1.1.1, ⟨hk.1.2, hk.1.1.2⟩⟩, hk.2⟩)) hg hat)
                             have n3_ := Aside0.mk (Kd.V_afterv (ok := (fun k_ => ((P0_ k_ ∨ P1_1_ k_) ∨ w.heap.size ≤ k_) ∧ some k_ ≠ (v387 : Value).ownBlock ∧ k_ ≠ gb348)) (by exact Kd.V_mono HO_349001.out (fun _ hk => ⟨⟨hk.1.1.1, ⟨hk.1.2, hk.1.1.2⟩⟩, hk.2⟩)) hg hat)
                             have n4_ := Aside0.mk (blk_grown (g := gb348) (o := .cells #[.bool x349000_2, .slice Ao20 x349001_2.length co20] 44 (0, 0)) (by exact BK348.out) hg (Kd.R_ne HO382.out BK348.out (by decide)))
                             have n5_ := Aside0.mk (Kd.V_afterv (ok := (fun k_ => ((P0_ k_ ∨ P1_1_ k_) ∨ w.heap.size ≤ k_) ∧ some k_ ≠ (v387 : Value).ownBlock ∧ k_ ≠ gb348)) (by exact Kd.V_mono HO379.out (fun _ hk => ⟨⟨hk.1.1.1, ⟨hk.1.2, hk.1.1.2⟩⟩, hk.2⟩)) hg hat)
                             have n6_ := Aside0.mk (Kd.R_after (ok := (fun k_ => (w.heap.size ≤ k_))) (by exact Kd.R_mono HO388.out (fun _ hk => ⟨hk.1.1, hk.2⟩)) hg hat)
                             have n7_ := Aside0.mk (hb)
                             have n8_ := Aside0.mk (ho)
                             clear HO_0
                             clear HO_15
                             clear HO_16
                             clear HO_349001
                             clear BK348
                             clear HO379
                             clear HO388
                             clear HB
                             clear HO382
                             have HO_0 := n0_
                             have HO_15 := n1_
                             have HO_16 := n2_
                             have HO_349001 := n3_
                             have BK348 := n4_
                             have HO379 := n5_
                             have HO388 := n6_
                             have HB := n7_
                             have HO385 := n8_
                             clear n0_ n1_ n2_ n3_ n4_ n5_ n6_ n7_ n8_
                             clear ho hb hg hat
                             refine hK.out _ _ trivial (fun hHeld => ?_)
                             clear hK K
                             refine norm_ (a' := ?_) ?_ ?_
                             rotate_left
                             ·
                              show Act.put _ (some 100) _ = _
                              simp only [Act.put, List.setIfInBounds_toArray, List.set_cons_zero, List.set_cons_succ, i64_w, i32_w]
                              rfl
                             exact norm_ (by simp only [putAll, Act.put, List.setIfInBounds_toArray, List.set_cons_zero, List.set_cons_succ]) (hCont (v381, v384, v387) _ ⟨(by exact Kd.V_mono HO379.out (fun _ hk => ⟨hk.1.1, ⟨hk.2, ⟨hk.1.2.1, hk.1.2.2⟩⟩⟩)), (by exact HO385.out), (by exact HO388.out), (by exact Kd.V_mono HO_0.out (fun _ hk => ⟨hk.1.1, ⟨hk.2, ⟨hk.1.2.1, hk.1.2.2⟩⟩⟩)), (by exact Kd.V_mono HO_15.out (fun _ hk => ⟨hk.1.1, ⟨hk.2, ⟨hk.1.2.1, hk.1.2.2⟩⟩⟩)), (by exact Kd.V_mono HO_16.out (fun _ hk => ⟨hk.1.1, ⟨hk.2, ⟨hk.1.2.1, hk.1.2.2⟩⟩⟩)), (by exact Kd.V_mono HO_349001.out (fun _ hk => ⟨hk.1.1, ⟨hk.2, ⟨hk.1.2.1, hk.1.2.2⟩⟩⟩)), (by exact BK348.out), (by repeat (first | (with_reducible first | exact HB.out | apply below_alloc | apply pw_below_drewN | apply below_drew1 | refine below_set ?_ GE348.out) | exact HB.out))⟩)
                           rintro ⟨v381, v384, v387⟩ w80 ⟨h0_, h1_, h2_, h3_, h4_, h5_, h6_, h7_, h8_⟩
                           have n0_ : Aside0 (Kd.V (Kd.int .u8) 5 w80 w.heap.size (fun k_ => ((P0_ k_ ∨ P1_1_ k_) ∨ w.heap.size ≤ k_) ∧ some k_ ≠ (v384 : Value).ownBlock ∧ some k_ ≠ (v387 : Value).ownBlock ∧ k_ ≠ gb348) (.slice Ao50 y375.length co50) y375) := ⟨h0_⟩
                           have n1_ : Aside0 (Kd.R (Kd.int .u8) 5 w80 w.heap.size (fun k_ => (w.heap.size ≤ k_) ∧ some k_ ≠ (v387 : Value).ownBlock) v384 y383) := ⟨h1_⟩
                           have n2_ : Aside0 (Kd.R (Kd.int .u8) 5 w80 w.heap.size (fun k_ => (w.heap.size ≤ k_) ∧ some k_ ≠ (v384 : Value).ownBlock) v387 y386) := ⟨h2_⟩
                           have n3_ : Aside0 (Kd.V (Kd.int .u8) 5 w80 w.heap.size (fun k_ => ((P0_ k_ ∨ P1_1_ k_) ∨ w.heap.size ≤ k_) ∧ some k_ ≠ (v384 : Value).ownBlock ∧ some k_ ≠ (v387 : Value).ownBlock ∧ k_ ≠ gb348) (.slice A0 x0_2.length c0) x0_2) := ⟨h3_⟩
                           have n4_ : Aside0 (Kd.V (Kd.int .u8) 5 w80 w.heap.size (fun k_ => ((P0_ k_ ∨ P1_1_ k_) ∨ w.heap.size ≤ k_) ∧ some k_ ≠ (v384 : Value).ownBlock ∧ some k_ ≠ (v387 : Value).ownBlock ∧ k_ ≠ gb348) (.slice Ao50 x15_36.length co50) x15_36) := ⟨h4_⟩
                           have n5_ : Aside0 (Kd.V (Kd.int .u8) 5 w80 w.heap.size (fun k_ => ((P0_ k_ ∨ P1_1_ k_) ∨ w.heap.size ≤ k_) ∧ some k_ ≠ (v384 : Value).ownBlock ∧ some k_ ≠ (v387 : Value).ownBlock ∧ k_ ≠ gb348) (.slice Ao51 x16_43.length co51) x16_43) := ⟨h5_⟩
                           have n6_ : Aside0 (Kd.V k41 41 w80 w.heap.size (fun k_ => ((P0_ k_ ∨ P1_1_ k_) ∨ w.heap.size ≤ k_) ∧ some k_ ≠ (v384 : Value).ownBlock ∧ some k_ ≠ (v387 : Value).ownBlock ∧ k_ ≠ gb348) (.slice Ao20 x349001_2.length co20) x349001_2) := ⟨h6_⟩
                           have n7_ : Aside0 (w80.heap[gb348]? = some (.cells #[.bool x349000_2, .slice Ao20 x349001_2.length co20] 44 (0, 0))) := ⟨h7_⟩
                           have n8_ : Aside0 (Below w.heap.size w w80) := ⟨h8_⟩
                           clear HO_0
                           clear HO_15
                           clear HO_16
                           clear HO_349001
                           clear BK348
                           clear HB
                           clear h0_ h1_ h2_ h3_ h4_ h5_ h6_ h7_ h8_
                           have HO379 := n0_
                           have HO385 := n1_
                           have HO388 := n2_
                           have HO_0 := n3_
                           have HO_15 := n4_
                           have HO_16 := n5_
                           have HO_349001 := n6_
                           have BK348 := n7_
                           have HB := n8_
                           clear n0_ n1_ n2_ n3_ n4_ n5_ n6_ n7_ n8_
                           have hHeld := trivial
                           obtain ⟨Ao82, co82, eo82⟩ := Kd.R_slice HO388.out
                           (first | subst eo82 | (injection eo82 with f1_ f2_ f3_; have f4_ := f1_.symm; have f5_ := f3_.symm; clear f1_ f2_ f3_; subst f4_; subst f5_))
                           refine norm_ (a' := ?_) ?_ ?_
                           rotate_left
                           ·
                            simp only [putAll, Act.put, List.setIfInBounds_toArray, List.set_cons_zero, List.set_cons_succ]
                            rfl
                           refine one_ (i := 15) (N := some 103) #[true, true, true, true, true, true, true, true, true, true, true, true, true, true, true, true, false, true, false, false, false] rfl rfl (one_of HT_.out (by kernel_rfl)) (by decide) (fun K hK => ?_)
                           refine Kd.R_append_rows_step (Kd.int .u8) (w0 := w) w.heap.size (by rfl) (.tmp 100) (.tmp 102) 25 5 (.int .u8 0) 1 rfl Try.underlying25 info5 rfl (by decide) (by omega) v384 y383 y386 _ _ _ (fun k_ => (w.heap.size ≤ k_) ∧ some k_ ≠ (.slice Ao82 y386.length co82 : Value).ownBlock) (fun _ => False) rfl rfl ?aO ?aR (fun _ _ h => h) (fun _ h => h.elim) ?aF ?aB ?aS ?aL ?_
                           (case aR => repeat (first | exact (Kd.R_reads' HO388.out).2.2 | (with_reducible refine Kd.C_alloc ?_ _) | (with_reducible refine Kd.C_drewN ?_ _) | (with_reducible refine Kd.C_drew ?_)))
                           (case aB => exact (by repeat (first | (with_reducible first | exact HB.out | apply below_alloc | apply pw_below_drewN | apply below_drew1 | refine below_set ?_ GE348.out) | exact HB.out)))
                           (case aF => exact (fun k_ hk => ⟨(Nat.le_trans (below_size (by repeat (first | (with_reducible first | exact HB.out | apply below_alloc | apply pw_below_drewN | apply below_drew1 | refine below_set ?_ GE348.out) | exact HB.out))) hk), Kd.fresh' (Kd.R_lt (by exact HO388.out)) k_ hk⟩))
                           (case aO => exact (by exact HO385.out))
                           (case aS => exact (below_size (by repeat (first | (with_reducible first | exact HB.out | apply below_alloc | apply pw_below_drewN | apply below_drew1 | refine below_set ?_ GE348.out) | exact HB.out))))
                           (case aL => have := LMc66.out; omega)
                           intro v390 w81 ho hb hg hat
                           rw [← Ny389.out] at ho
                           have n0_ := Aside0.mk (Kd.V_afterv (ok := (fun k_ => ((P0_ k_ ∨ P1_1_ k_) ∨ w.heap.size ≤ k_) ∧ some k_ ≠ (.slice Ao82 y386.length co82 : Value).ownBlock ∧ k_ ≠ gb348)) (by exact Kd.V_mono HO_0.out (fun _ hk => ⟨⟨hk.1, ⟨hk.2.2.1, hk.2.2.2⟩⟩, hk.2.1⟩)) hg hat)
                           have n1_ := Aside0.mk (Kd.V_afterv (ok := (fun k_ => ((P0_ k_ ∨ P1_1_ k_) ∨ w.heap.size ≤ k_) ∧ some k_ ≠ (.slice Ao82 y386.length co82 : Value).ownBlock ∧ k_ ≠ gb348)) (by exact Kd.V_mono HO_15.out (fun _ hk => ⟨⟨hk.1, ⟨hk.2.2.1, hk.2.2.2⟩⟩, hk.2.1⟩)) hg hat)
                           have n2_ := Aside0.mk (Kd.V_afterv (ok := (fun k_ => ((P0_ k_ ∨ P1_1_ k_) ∨ w.heap.size ≤ k_) ∧ some k_ ≠ (.slice Ao82 y386.length co82 : Value).ownBlock ∧ k_ ≠ gb348)) (by exact Kd.V_mono HO_16.out (fun _ hk => ⟨⟨hk.1, ⟨hk.2.2.1, hk.2.2.2⟩⟩, hk.2.1⟩)) hg hat)
                           have n3_ := Aside0.mk (Kd.V_afterv (ok := (fun k_ => ((P0_ k_ ∨ P1_1_ k_) ∨ w.heap.size ≤ k_) ∧ some k_ ≠ (.slice Ao82 y386.length co82 : Value).ownBlock ∧ k_ ≠ gb348)) (by exact Kd.V_mono HO_349001.out (fun _ hk => ⟨⟨hk.1, ⟨hk.2.2.1, hk.2.2.2⟩⟩, hk.2.1⟩)) hg hat)
                           have n4_ := Aside0.mk (blk_grown (g := gb348) (o := .cells #[.bool x349000_2, .slice Ao20 x349001_2.length co20] 44 (0, 0)) (by exact BK348.out) hg (Kd.R_ne HO385.out BK348.out (by decide)))
                           have n5_ := Aside0.mk (Kd.V_afterv (ok := (fun k_ => ((P0_ k_ ∨ P1_1_ k_) ∨ w.heap.size ≤ k_) ∧ some k_ ≠ (.slice Ao82 y386.length co82 : Value).ownBlock ∧ k_ ≠ gb348)) (by exact Kd.V_mono HO379.out (fun _ hk => ⟨⟨hk.1, ⟨hk.2.2.1, hk.2.2.2⟩⟩, hk.2.1⟩)) hg hat)
                           have n6_ := Aside0.mk (Kd.R_after (ok := (fun k_ => (w.heap.size ≤ k_))) (by exact HO388.out) hg hat)
                           have n7_ := Aside0.mk (hb)
                           have n8_ := Aside0.mk (ho)
                           clear HO_0
                           clear HO_15
                           clear HO_16
                           clear HO_349001
                           clear BK348
                           clear HO379
                           clear HO388
                           clear HB
                           clear HO385
                           have HO_0 := n0_
                           have HO_15 := n1_
                           have HO_16 := n2_
                           have HO_349001 := n3_
                           have BK348 := n4_
                           have HO379 := n5_
                           have HO388 := n6_
                           have HB := n7_
                           have HO391 := n8_
                           clear n0_ n1_ n2_ n3_ n4_ n5_ n6_ n7_ n8_
                           clear ho hb hg hat
                           obtain ⟨Ao83, co83, eo83⟩ := Kd.R_slice HO391.out
                           (first | subst eo83 | (injection eo83 with f1_ f2_ f3_; have f4_ := f1_.symm; have f5_ := f3_.symm; clear f1_ f2_ f3_; subst f4_; subst f5_))
                           refine hK.out _ _ trivial (fun hHeld => ?_)
                           clear hK K
                           refine norm_ (a' := ?_) ?_ ?_
                           rotate_left
                           ·
                            show Act.put _ (some 103) _ = _
                            simp only [Act.put, List.setIfInBounds_toArray, List.set_cons_zero, List.set_cons_succ, i64_w, i32_w]
                            rfl
                           refine last_ (i := 16) (N := some 104) #[true, true, true, true, true, true, true, true, true, true, true, true, true, true, true, true, true, true, false, false, false] rfl rfl (one_of HT_.out (by kernel_rfl)) (by decide) (fun K hK => ?_)
                           refine value_ (w1 := ?_) (v := ?_) (by rfl) rfl ?_ ?_
                           rotate_left 2
                           ·
                            go_simp
                            constructor
                            ·
                             rfl
                            ·
                             rfl
                           refine hK.out _ _ ?_
                           clear hK K
                           refine norm_ (a' := ?_) ?_ ?_
                           rotate_left
                           ·
                            show Act.put _ (some 104) _ = _
                            simp only [Act.put, List.setIfInBounds_toArray, List.set_cons_zero, List.set_cons_succ, i64_w, i32_w]
                            rfl
                           refine pure_ (i := 18) (N := some 106) (v := ?_) (a' := ?_) #[true, true, true, true, true, true, true, true, true, true, true, true, true, true, true, true, true, true, true, false, false] rfl rfl (any_of HT_.out (by kernel_rfl)) (fun _ _ _ h => h) (Or.inl ⟨by rfl, ?_⟩) ?_ ?_
                           rotate_left
                           ·
                            intro w'
                            go_simp
                            with_reducible rfl
                           rotate_left
                           ·
                            simp only [Act.put, List.setIfInBounds_toArray, List.set_cons_zero, List.set_cons_succ, i64_w, i32_w]
                            rfl
                           refine last_ (i := 19) (N := some 107) #[true, true, true, true, true, true, true, true, true, true, true, true, true, true, true, true, true, true, true, true, false] rfl rfl (one_of HT_.out (by kernel_rfl)) (by decide) (fun K hK => ?_)
                           have hvq84 : Kd.AllV (Kd.int .u8) 5 w81 w.heap.size (fun k_ => (((P0_ k_ ∨ P1_1_ k_) ∨ w.heap.size ≤ k_) ∧ k_ ≠ gb348)) [.slice A0 x0_2.length c0, .slice Ao51 x16_43.length co51, .slice Ao50 y375.length co50, .slice Ao83 y389.length co83] ([x0_2, x16_43, y375, y389] : List (List Int)) := ⟨by exact Kd.V_mono HO_0.out (fun _ hk => ⟨hk.1.1, hk.1.2.2⟩), by exact Kd.V_mono HO_16.out (fun _ hk => ⟨hk.1.1, hk.1.2.2⟩), by exact Kd.V_mono HO379.out (fun _ hk => ⟨hk.1.1, hk.1.2.2⟩), Kd.V_mono (Kd.R_V (ok := fun k_ => ((w.heap.size ≤ k_) ∧ k_ ≠ gb348)) (by exact Kd.R_mono (Kd.R_types HO391.out BK348.out (by decide)) (fun _ hk => by first | exact ⟨hk.1.1, hk.2⟩ | exact ⟨.inr hk.1.1, hk.2⟩))) (fun k_ hk => ⟨(.inr (hk.1)), hk.2⟩), trivial⟩
                           obtain ⟨v393, hqq84⟩ : ∃ v_, ([.slice A0 x0_2.length c0, .slice Ao51 x16_43.length co51, .slice Ao50 y375.length co50, .slice Ao83 y389.length co83] : List Value).getD (x17_6).toNat undef = v_ := ⟨_, rfl⟩
                           have hoq84 : Kd.V (Kd.int .u8) 5 w81 w.heap.size (fun k_ => (((P0_ k_ ∨ P1_1_ k_) ∨ w.heap.size ≤ k_) ∧ k_ ≠ gb348)) v393 y392 := (by rw [← hqq84, Ny392.out]; exact Kd.AllV_get _ _ _ hvq84 jlq84)
                           refine value_ (w1 := _) (v := v393) (by rfl) rfl (by rw [← hqq84]; first | done | exact pick_run (by rfl) (by rfl) Try.underlying25 jlq84) ?_
                           clear hvq84 hqq84
                           have HO394 := Aside0.mk hoq84
                           clear hoq84
                           refine hK.out _ _ ?_
                           clear hK K
                           refine norm_ (a' := ?_) ?_ ?_
                           rotate_left
                           ·
                            show Act.put _ (some 107) _ = _
                            simp only [Act.put, List.setIfInBounds_toArray, List.set_cons_zero, List.set_cons_succ, i64_w, i32_w]
                            rfl
                           refine pure_ (i := 20) (N := some 18) (v := ?_) (a' := ?_) #[true, true, true, true, true, true, true, true, true, true, true, true, true, true, true, true, true, true, true, true, true] rfl rfl (any_of HT_.out (by kernel_rfl)) (fun _ _ _ h => h) (Or.inl ⟨by rfl, ?_⟩) ?_ ?_
                           rotate_left
                           ·
                            intro w'
                            go_simp
                            with_reducible rfl
                           rotate_left
                           ·
                            simp only [Act.put, List.setIfInBounds_toArray, List.set_cons_zero, List.set_cons_succ, i64_w, i32_w]
                            rfl
                           refine done_ (done_of HT_.out (by kernel_rfl)) ?_
                           obtain ⟨Ao85, co85, eo85⟩ := Kd.V_slice HO394.out
                           subst eo85
                           try go_wp2_with (first | ((with_reducible refine gate_callee (f := 27) rfl ?_); refine goesL_ (some 110) rfl rfl Try.func27 (by kernel_rfl) rfl #[.slice Ao85 y392.length co85] rfl (by (try simp only [List.map_toArray, List.map_cons, List.map_nil]); first | done | rfl | (simp only [List.length_drop, List.length_take]; rfl)) ?_; (with_reducible refine (node_Parse.calls k6 _ _ y392 t395 t396 t399 _ ?side1 ?side2 A68.out).mono ?_); (case side1 => repeat (first | exact (Kd.V_reads' HO394.out).2.2 | (with_reducible refine Kd.C_alloc ?_ _) | (with_reducible refine Kd.C_drewN ?_ _) | (with_reducible refine Kd.C_drew ?_))); (case side2 => exact (Kd.V_reads' HO394.out).2.1); rintro e w86 ⟨v397, rfl, ho0, hb⟩; refine ⟨_, rfl, ?_⟩; have n0_ := Aside0.mk (Kd.V_elder' (by (with_reducible repeat (first | apply Kd.V_alloc | apply Kd.V_drewN | apply Kd.V_drew)); exact HO_0.out) (Kd.R_base ho0) hb); have n1_ := Aside0.mk (Kd.V_elder' (by (with_reducible repeat (first | apply Kd.V_alloc | apply Kd.V_drewN | apply Kd.V_drew)); exact HO_15.out) (Kd.R_base ho0) hb); have n2_ := Aside0.mk (Kd.V_elder' (by (with_reducible repeat (first | apply Kd.V_alloc | apply Kd.V_drewN | apply Kd.V_drew)); exact HO_16.out) (Kd.R_base ho0) hb); have n3_ := Aside0.mk (Kd.V_elder' (by (with_reducible repeat (first | apply Kd.V_alloc | apply Kd.V_drewN | apply Kd.V_drew)); exact HO_349001.out) (Kd.R_base ho0) hb); have n4_ := Aside0.mk (Kd.V_elder' (by (with_reducible repeat (first | apply Kd.V_alloc | apply Kd.V_drewN | apply Kd.V_drew)); exact HO379.out) (Kd.R_base ho0) hb); have n5_ := Aside0.mk (Kd.R_below (by (with_reducible repeat (first | apply Kd.R_alloc | apply Kd.R_drewN | apply Kd.R_drew)); exact HO388.out) hb); have n6_ := Aside0.mk (Kd.R_below (by (with_reducible repeat (first | apply Kd.R_alloc | apply Kd.R_drewN | apply Kd.R_drew)); exact HO391.out) hb); have n7_ := Aside0.mk (Kd.V_elder' (by (with_reducible repeat (first | apply Kd.V_alloc | apply Kd.V_drewN | apply Kd.V_drew)); exact HO394.out) (Kd.R_base ho0) hb); have n8_ := Aside0.mk (Kd.R_lower (Kd.R_newM (M := fun k_ => (w.heap.size ≤ k_)) ho0 (below_size (by repeat (first | (with_reducible first | exact HB.out | apply below_alloc | apply pw_below_drewN | apply below_drew1 | refine below_set ?_ GE348.out) | exact HB.out))) (fun k_ h_ => h_)) (below_size (by repeat (first | (with_reducible first | exact HB.out | apply below_alloc | apply pw_below_drewN | apply below_drew1 | refine below_set ?_ GE348.out) | exact HB.out)))); have n9_ := Aside0.mk (blk_below (g := gb348) (o := .cells #[.bool x349000_2, .slice Ao20 x349001_2.length co20] 44 (0, 0)) (by (with_reducible repeat (first | refine blk_drewN ?_ _ | refine blk_drew ?_ | refine blk_alloc ?_ _)); exact BK348.out) hb); have n10_ := Aside0.mk (below_step (by repeat (first | (with_reducible first | exact HB.out | apply below_alloc | apply pw_below_drewN | apply below_drew1 | refine below_set ?_ GE348.out) | exact HB.out)) hb); clear HO_0; clear HO_15; clear HO_16; clear HO_349001; clear HO379; clear HO388; clear HO391; clear HO394; clear BK348; clear HB; have HO_0 := n0_; have HO_15 := n1_; have HO_16 := n2_; have HO_349001 := n3_; have HO379 := n4_; have HO388 := n5_; have HO391 := n6_; have HO394 := n7_; have HO398 := n8_; have BK348 := n9_; have HB := n10_; clear n0_ n1_ n2_ n3_ n4_ n5_ n6_ n7_ n8_ n9_ n10_; (try clear hb); (try clear hb2); (try clear hk); (try clear hi); (try clear hge); (try clear ho0)) | ((with_reducible refine gate_dst (N := 19) rfl ?_); refine box_event ?hg (N := 19) ?hd (cs := #[.bool false, .slice none 0 0]) (t := 44) ?hr ?_; (case hd => rfl); (case hg => rfl); (case hr => first | (go_simp; done) | (go_simp; rfl)); intro gb400 hg w87 hbox hb; have n0_ := Aside0.mk (Kd.V_below (Kd.V_elderB (by (with_reducible repeat (first | apply Kd.V_alloc | apply Kd.V_drewN | apply Kd.V_drew)); exact HO_0.out) gb400 (Nat.le_of_eq hg.symm)) hb); have n1_ := Aside0.mk (Kd.V_below (Kd.V_elderB (by (with_reducible repeat (first | apply Kd.V_alloc | apply Kd.V_drewN | apply Kd.V_drew)); exact HO_15.out) gb400 (Nat.le_of_eq hg.symm)) hb); have n2_ := Aside0.mk (Kd.V_below (Kd.V_elderB (by (with_reducible repeat (first | apply Kd.V_alloc | apply Kd.V_drewN | apply Kd.V_drew)); exact HO_16.out) gb400 (Nat.le_of_eq hg.symm)) hb); have n3_ := Aside0.mk (Kd.V_below (Kd.V_elderB (by (with_reducible repeat (first | apply Kd.V_alloc | apply Kd.V_drewN | apply Kd.V_drew)); exact HO_349001.out) gb400 (Nat.le_of_eq hg.symm)) hb); have n4_ := Aside0.mk (Kd.V_below (Kd.V_elderB (by (with_reducible repeat (first | apply Kd.V_alloc | apply Kd.V_drewN | apply Kd.V_drew)); exact HO379.out) gb400 (Nat.le_of_eq hg.symm)) hb); have n5_ := Aside0.mk (Kd.R_below (by (with_reducible repeat (first | apply Kd.R_alloc | apply Kd.R_drewN | apply Kd.R_drew)); exact HO388.out) hb); have n6_ := Aside0.mk (Kd.R_below (by (with_reducible repeat (first | apply Kd.R_alloc | apply Kd.R_drewN | apply Kd.R_drew)); exact HO391.out) hb); have n7_ := Aside0.mk (Kd.V_below (Kd.V_elderB (by (with_reducible repeat (first | apply Kd.V_alloc | apply Kd.V_drewN | apply Kd.V_drew)); exact HO394.out) gb400 (Nat.le_of_eq hg.symm)) hb); have n8_ := Aside0.mk (Kd.R_below (by (with_reducible repeat (first | apply Kd.R_alloc | apply Kd.R_drewN | apply Kd.R_drew)); exact HO398.out) hb); have n9_ := Aside0.mk (blk_below (g := gb348) (o := .cells #[.bool x349000_2, .slice Ao20 x349001_2.length co20] 44 (0, 0)) (by (with_reducible repeat (first | refine blk_drewN ?_ _ | refine blk_drew ?_ | refine blk_alloc ?_ _)); exact BK348.out) hb); have n10_ := Aside0.mk (below_step (by repeat (first | (with_reducible first | exact HB.out | apply below_alloc | apply pw_below_drewN | apply below_drew1 | refine below_set ?_ GE348.out) | exact HB.out)) hb); have n11_ := Aside0.mk (hbox); have n12_ := Aside0.mk ((by rw [hg]; exact (below_size (by repeat (first | (with_reducible first | exact HB.out | apply below_alloc | apply pw_below_drewN | apply below_drew1 | refine below_set ?_ GE348.out) | exact HB.out))) : w.heap.size ≤ gb400)); have n13_ := Aside0.mk ((by rw [hg]; exact (below_size (by repeat (first | (with_reducible first | exact HB.out | apply below_alloc | apply pw_below_drewN | apply below_drew1 | refine below_set ?_ GE348.out) | exact HB.out))) : w.heap.size ≤ gb400)); have n14_ := Aside0.mk ((by rw [hg]; exact Nat.ne_of_lt (blk_lt (g := gb348) (o := .cells #[.bool x349000_2, .slice Ao20 x349001_2.length co20] 44 (0, 0)) (by (with_reducible repeat (first | refine blk_drewN ?_ _ | refine blk_drew ?_ | refine blk_alloc ?_ _)); exact BK348.out)) : gb348 ≠ gb400)); have n15_ := Aside0.mk ((by rw [hg]; exact Nat.ne_of_gt (blk_lt (g := gb348) (o := .cells #[.bool x349000_2, .slice Ao20 x349001_2.length co20] 44 (0, 0)) (by (with_reducible repeat (first | refine blk_drewN ?_ _ | refine blk_drew ?_ | refine blk_alloc ?_ _)); exact BK348.out)) : gb400 ≠ gb348)); clear HO_0; clear HO_15; clear HO_16; clear HO_349001; clear HO379; clear HO388; clear HO391; clear HO394; clear HO398; clear BK348; clear HB; have HO_0 := n0_; have HO_15 := n1_; have HO_16 := n2_; have HO_349001 := n3_; have HO379 := n4_; have HO388 := n5_; have HO391 := n6_; have HO394 := n7_; have HO398 := n8_; have BK348 := n9_; have HB := n10_; have BK400 := n11_; have GW400 := n12_; have GE400 := n13_; have NB348_400 := n14_; have NB400_348 := n15_; clear n0_ n1_ n2_ n3_ n4_ n5_ n6_ n7_ n8_ n9_ n10_ n11_ n12_ n13_ n14_ n15_; clear hb hbox hg; have hnb88 := NB400_348.out; have hnc88 := NB348_400.out; have hcz89_0 : w87.cell? ⟨gb400, 0, none⟩ = some (.bool false) := (blk_cell BK400.out 0).trans rfl; have hcz89_1 : w87.cell? ⟨gb400, 1, none⟩ = some (.slice none 0 0) := (blk_cell BK400.out 1).trans rfl; have hfz89_0 := blk_frozen BK400.out 0; have hfz89_1 := blk_frozen BK400.out 1; obtain ⟨Ao90, co90, eo90⟩ := Kd.R_slice HO398.out; subst eo90) | ((with_reducible refine gate_callee (f := 28) rfl ?_); refine goesL_ (some 115) rfl rfl Try.func28 (by kernel_rfl) rfl #[.slice Ao85 y392.length co85] rfl (by (try simp only [List.map_toArray, List.map_cons, List.map_nil]); first | done | rfl | (simp only [List.length_drop, List.length_take]; rfl)) ?_; (with_reducible refine (waybillref7_NodeOf.calls k6 _ _ y392 t401 t402 t405 _ ?side1 ?side2 A69.out).mono ?_); (case side1 => refine (Kd.V_reads' (e := 5) (base := w.heap.size) (ok := fun k_ => (((((P0_ k_ ∨ P1_1_ k_) ∨ w.heap.size ≤ k_) ∧ k_ ≠ gb348) ∧ some k_ ≠ (.slice Ao90 t396.length co90 : Value).ownBlock) ∧ k_ ≠ gb400)) (n := y392.length) (c := co85) ?_).2.2; exact (by (with_reducible repeat (first | apply Kd.V_alloc | apply Kd.V_drewN | apply Kd.V_drew)); exact (Kd.V_mono (Kd.V_far (p := ⟨gb400, 1, none⟩) (Kd.V_far (p := ⟨gb400, 0, none⟩) (Kd.V_mono HO394.out (fun k_ hk => (⟨hk, hk.2⟩ : _ ∧ k_ ≠ gb400))) (fun _ hk => hk.2) (.bool t395)) (fun _ hk => hk.2) (.slice Ao90 t396.length co90)) (fun _ h_ => h_.1)))); (case side2 => exact (Kd.V_reads' HO394.out).2.1); rintro e w91 ⟨v403, rfl, ho0, hb⟩; refine ⟨_, rfl, ?_⟩; have n0_ := Aside0.mk (Kd.V_elder' (by (with_reducible repeat (first | apply Kd.V_alloc | apply Kd.V_drewN | apply Kd.V_drew)); exact (Kd.V_mono (Kd.V_far (p := ⟨gb400, 1, none⟩) (Kd.V_far (p := ⟨gb400, 0, none⟩) (Kd.V_mono HO_0.out (fun k_ hk => (⟨hk, hk.2⟩ : _ ∧ k_ ≠ gb400))) (fun _ hk => hk.2) (.bool t395)) (fun _ hk => hk.2) (.slice Ao90 t396.length co90)) (fun _ h_ => h_.1))) (Kd.R_base ho0) hb); have n1_ := Aside0.mk (Kd.V_elder' (by (with_reducible repeat (first | apply Kd.V_alloc | apply Kd.V_drewN | apply Kd.V_drew)); exact (Kd.V_mono (Kd.V_far (p := ⟨gb400, 1, none⟩) (Kd.V_far (p := ⟨gb400, 0, none⟩) (Kd.V_mono HO_15.out (fun k_ hk => (⟨hk, hk.2⟩ : _ ∧ k_ ≠ gb400))) (fun _ hk => hk.2) (.bool t395)) (fun _ hk => hk.2) (.slice Ao90 t396.length co90)) (fun _ h_ => h_.1))) (Kd.R_base ho0) hb); have n2_ := Aside0.mk (Kd.V_elder' (by (with_reducible repeat (first | apply Kd.V_alloc | apply Kd.V_drewN | apply Kd.V_drew)); exact (Kd.V_mono (Kd.V_far (p := ⟨gb400, 1, none⟩) (Kd.V_far (p := ⟨gb400, 0, none⟩) (Kd.V_mono HO_16.out (fun k_ hk => (⟨hk, hk.2⟩ : _ ∧ k_ ≠ gb400))) (fun _ hk => hk.2) (.bool t395)) (fun _ hk => hk.2) (.slice Ao90 t396.length co90)) (fun _ h_ => h_.1))) (Kd.R_base ho0) hb); have n3_ := Aside0.mk (Kd.V_elder' (by (with_reducible repeat (first | apply Kd.V_alloc | apply Kd.V_drewN | apply Kd.V_drew)); exact (Kd.V_mono (Kd.V_far (p := ⟨gb400, 1, none⟩) (Kd.V_far (p := ⟨gb400, 0, none⟩) (Kd.V_mono HO_349001.out (fun k_ hk => (⟨hk, hk.2⟩ : _ ∧ k_ ≠ gb400))) (fun _ hk => hk.2) (.bool t395)) (fun _ hk => hk.2) (.slice Ao90 t396.length co90)) (fun _ h_ => h_.1))) (Kd.R_base ho0) hb); have n4_ := Aside0.mk (Kd.V_elder' (by (with_reducible repeat (first | apply Kd.V_alloc | apply Kd.V_drewN | apply Kd.V_drew)); exact (Kd.V_mono (Kd.V_far (p := ⟨gb400, 1, none⟩) (Kd.V_far (p := ⟨gb400, 0, none⟩) (Kd.V_mono HO379.out (fun k_ hk => (⟨hk, hk.2⟩ : _ ∧ k_ ≠ gb400))) (fun _ hk => hk.2) (.bool t395)) (fun _ hk => hk.2) (.slice Ao90 t396.length co90)) (fun _ h_ => h_.1))) (Kd.R_base ho0) hb); have n5_ := Aside0.mk (Kd.R_below (by (with_reducible repeat (first | apply Kd.R_alloc | apply Kd.R_drewN | apply Kd.R_drew)); exact (Kd.R_mono (Kd.R_far (p := ⟨gb400, 1, none⟩) (Kd.R_far (p := ⟨gb400, 0, none⟩) (Kd.R_types HO388.out BK400.out (by decide)) (fun _ hk => hk.2) (.bool t395)) (fun _ hk => hk.2) (.slice Ao90 t396.length co90)) (fun _ h_ => h_.1))) hb); have n6_ := Aside0.mk (Kd.R_below (by (with_reducible repeat (first | apply Kd.R_alloc | apply Kd.R_drewN | apply Kd.R_drew)); exact (Kd.R_mono (Kd.R_far (p := ⟨gb400, 1, none⟩) (Kd.R_far (p := ⟨gb400, 0, none⟩) (Kd.R_types HO391.out BK400.out (by decide)) (fun _ hk => hk.2) (.bool t395)) (fun _ hk => hk.2) (.slice Ao90 t396.length co90)) (fun _ h_ => h_.1))) hb); have n7_ := Aside0.mk (Kd.V_elder' (by (with_reducible repeat (first | apply Kd.V_alloc | apply Kd.V_drewN | apply Kd.V_drew)); exact (Kd.V_mono (Kd.V_far (p := ⟨gb400, 1, none⟩) (Kd.V_far (p := ⟨gb400, 0, none⟩) (Kd.V_mono HO394.out (fun k_ hk => (⟨hk, hk.2⟩ : _ ∧ k_ ≠ gb400))) (fun _ hk => hk.2) (.bool t395)) (fun _ hk => hk.2) (.slice Ao90 t396.length co90)) (fun _ h_ => h_.1))) (Kd.R_base ho0) hb); have n8_ := Aside0.mk (Kd.R_elder' (by (with_reducible repeat (first | apply Kd.R_alloc | apply Kd.R_drewN | apply Kd.R_drew)); exact (Kd.R_mono (Kd.R_far (p := ⟨gb400, 1, none⟩) (Kd.R_far (p := ⟨gb400, 0, none⟩) (Kd.R_types HO398.out BK400.out (by decide)) (fun _ hk => hk.2) (.bool t395)) (fun _ hk => hk.2) (.slice Ao90 t396.length co90)) (fun _ h_ => h_.1))) (Kd.R_base ho0) hb); have n9_ := Aside0.mk (Kd.R_lower (Kd.R_new' (Kd.R_newM (M := fun k_ => (w.heap.size ≤ k_)) ho0 (below_size (by repeat (first | (with_reducible first | exact HB.out | apply below_alloc | apply pw_below_drewN | apply below_drew1 | refine below_set ?_ GE348.out | refine below_set ?_ GE400.out) | exact HB.out))) (fun k_ h_ => h_)) (Kd.R_lt (by (with_reducible repeat (first | apply Kd.R_alloc | apply Kd.R_drewN | apply Kd.R_drew)); exact (Kd.R_mono (Kd.R_far (p := ⟨gb400, 1, none⟩) (Kd.R_far (p := ⟨gb400, 0, none⟩) (Kd.R_types HO398.out BK400.out (by decide)) (fun _ hk => hk.2) (.bool t395)) (fun _ hk => hk.2) (.slice Ao90 t396.length co90)) (fun _ h_ => h_.1))))) (below_size (by repeat (first | (with_reducible first | exact HB.out | apply below_alloc | apply pw_below_drewN | apply below_drew1 | refine below_set ?_ GE348.out | refine below_set ?_ GE400.out) | exact HB.out)))); have n10_ := Aside0.mk (blk_below (g := gb348) (o := .cells #[.bool x349000_2, .slice Ao20 x349001_2.length co20] 44 (0, 0)) (by (with_reducible repeat (first | refine blk_drewN ?_ _ | refine blk_drew ?_ | refine blk_alloc ?_ _)); refine blk_far ?_ NB348_400.out _; (with_reducible repeat (first | refine blk_drewN ?_ _ | refine blk_drew ?_ | refine blk_alloc ?_ _)); refine blk_far ?_ NB348_400.out _; (with_reducible repeat (first | refine blk_drewN ?_ _ | refine blk_drew ?_ | refine blk_alloc ?_ _)); exact BK348.out) hb); have n11_ := Aside0.mk (blk_below (g := gb400) (o := .cells #[.bool t395, .slice Ao90 t396.length co90] 44 (0, 0)) (by (with_reducible repeat (first | refine blk_drewN ?_ _ | refine blk_drew ?_ | refine blk_alloc ?_ _)); refine blk_put (cs := #[.bool t395, .slice none 0 0]) ?_ 1 _ rfl; (with_reducible repeat (first | refine blk_drewN ?_ _ | refine blk_drew ?_ | refine blk_alloc ?_ _)); refine blk_put (cs := #[.bool false, .slice none 0 0]) ?_ 0 _ rfl; (with_reducible repeat (first | refine blk_drewN ?_ _ | refine blk_drew ?_ | refine blk_alloc ?_ _)); exact BK400.out) hb); have n12_ := Aside0.mk (below_step (by repeat (first | (with_reducible first | exact HB.out | apply below_alloc | apply pw_below_drewN | apply below_drew1 | refine below_set ?_ GE348.out | refine below_set ?_ GE400.out) | exact HB.out)) hb); clear HO_0; clear HO_15; clear HO_16; clear HO_349001; clear HO379; clear HO388; clear HO391; clear HO394; clear HO398; clear BK348; clear BK400; clear HB; have HO_0 := n0_; have HO_15 := n1_; have HO_16 := n2_; have HO_349001 := n3_; have HO379 := n4_; have HO388 := n5_; have HO391 := n6_; have HO394 := n7_; have HO398 := n8_; have HO404 := n9_; have BK348 := n10_; have BK400 := n11_; have HB := n12_; clear n0_ n1_ n2_ n3_ n4_ n5_ n6_ n7_ n8_ n9_ n10_ n11_ n12_; (try clear hb); (try clear hb2); (try clear hk); (try clear hi); (try clear hge); (try clear ho0)) | ((with_reducible refine gate_dst (N := 21) rfl ?_); refine box_event ?hg (N := 21) ?hd (cs := #[.bool false, .slice none 0 0]) (t := 44) ?hr ?_; (case hd => rfl); (case hg => rfl); (case hr => first | (go_simp; done) | (go_simp; rfl)); intro gb406 hg w92 hbox hb; have n0_ := Aside0.mk (Kd.V_below (Kd.V_elderB (by (with_reducible repeat (first | apply Kd.V_alloc | apply Kd.V_drewN | apply Kd.V_drew)); exact HO_0.out) gb406 (Nat.le_of_eq hg.symm)) hb); have n1_ := Aside0.mk (Kd.V_below (Kd.V_elderB (by (with_reducible repeat (first | apply Kd.V_alloc | apply Kd.V_drewN | apply Kd.V_drew)); exact HO_15.out) gb406 (Nat.le_of_eq hg.symm)) hb); have n2_ := Aside0.mk (Kd.V_below (Kd.V_elderB (by (with_reducible repeat (first | apply Kd.V_alloc | apply Kd.V_drewN | apply Kd.V_drew)); exact HO_16.out) gb406 (Nat.le_of_eq hg.symm)) hb); have n3_ := Aside0.mk (Kd.V_below (Kd.V_elderB (by (with_reducible repeat (first | apply Kd.V_alloc | apply Kd.V_drewN | apply Kd.V_drew)); exact HO_349001.out) gb406 (Nat.le_of_eq hg.symm)) hb); have n4_ := Aside0.mk (Kd.V_below (Kd.V_elderB (by (with_reducible repeat (first | apply Kd.V_alloc | apply Kd.V_drewN | apply Kd.V_drew)); exact HO379.out) gb406 (Nat.le_of_eq hg.symm)) hb); have n5_ := Aside0.mk (Kd.R_below (by (with_reducible repeat (first | apply Kd.R_alloc | apply Kd.R_drewN | apply Kd.R_drew)); exact HO388.out) hb); have n6_ := Aside0.mk (Kd.R_below (by (with_reducible repeat (first | apply Kd.R_alloc | apply Kd.R_drewN | apply Kd.R_drew)); exact HO391.out) hb); have n7_ := Aside0.mk (Kd.V_below (Kd.V_elderB (by (with_reducible repeat (first | apply Kd.V_alloc | apply Kd.V_drewN | apply Kd.V_drew)); exact HO394.out) gb406 (Nat.le_of_eq hg.symm)) hb); have n8_ := Aside0.mk (Kd.R_below (by (with_reducible repeat (first | apply Kd.R_alloc | apply Kd.R_drewN | apply Kd.R_drew)); exact HO398.out) hb); have n9_ := Aside0.mk (Kd.R_below (by (with_reducible repeat (first | apply Kd.R_alloc | apply Kd.R_drewN | apply Kd.R_drew)); exact HO404.out) hb); have n10_ := Aside0.mk (blk_below (g := gb348) (o := .cells #[.bool x349000_2, .slice Ao20 x349001_2.length co20] 44 (0, 0)) (by (with_reducible repeat (first | refine blk_drewN ?_ _ | refine blk_drew ?_ | refine blk_alloc ?_ _)); exact BK348.out) hb); have n11_ := Aside0.mk (blk_below (g := gb400) (o := .cells #[.bool t395, .slice Ao90 t396.length co90] 44 (0, 0)) (by (with_reducible repeat (first | refine blk_drewN ?_ _ | refine blk_drew ?_ | refine blk_alloc ?_ _)); exact BK400.out) hb); have n12_ := Aside0.mk (below_step (by repeat (first | (with_reducible first | exact HB.out | apply below_alloc | apply pw_below_drewN | apply below_drew1 | refine below_set ?_ GE348.out | refine below_set ?_ GE400.out) | exact HB.out)) hb); have n13_ := Aside0.mk (hbox); have n14_ := Aside0.mk ((by rw [hg]; exact (below_size (by repeat (first | (with_reducible first | exact HB.out | apply below_alloc | apply pw_below_drewN | apply below_drew1 | refine below_set ?_ GE348.out | refine below_set ?_ GE400.out) | exact HB.out))) : w.heap.size ≤ gb406)); have n15_ := Aside0.mk ((by rw [hg]; exact (below_size (by repeat (first | (with_reducible first | exact HB.out | apply below_alloc | apply pw_below_drewN | apply below_drew1 | refine below_set ?_ GE348.out | refine below_set ?_ GE400.out) | exact HB.out))) : w.heap.size ≤ gb406)); have n16_ := Aside0.mk ((by rw [hg]; exact Nat.ne_of_lt (blk_lt (g := gb348) (o := .cells #[.bool x349000_2, .slice Ao20 x349001_2.length co20] 44 (0, 0)) (by (with_reducible repeat (first | refine blk_drewN ?_ _ | refine blk_drew ?_ | refine blk_alloc ?_ _)); exact BK348.out)) : gb348 ≠ gb406)); have n17_ := Aside0.mk ((by rw [hg]; exact Nat.ne_of_gt (blk_lt (g := gb348) (o := .cells #[.bool x349000_2, .slice Ao20 x349001_2.length co20] 44 (0, 0)) (by (with_reducible repeat (first | refine blk_drewN ?_ _ | refine blk_drew ?_ | refine blk_alloc ?_ _)); exact BK348.out)) : gb406 ≠ gb348)); have n18_ := Aside0.mk ((by rw [hg]; exact Nat.ne_of_lt (blk_lt (g := gb400) (o := .cells #[.bool t395, .slice Ao90 t396.length co90] 44 (0, 0)) (by (with_reducible repeat (first | refine blk_drewN ?_ _ | refine blk_drew ?_ | refine blk_alloc ?_ _)); exact BK400.out)) : gb400 ≠ gb406)); have n19_ := Aside0.mk ((by rw [hg]; exact Nat.ne_of_gt (blk_lt (g := gb400) (o := .cells #[.bool t395, .slice Ao90 t396.length co90] 44 (0, 0)) (by (with_reducible repeat (first | refine blk_drewN ?_ _ | refine blk_drew ?_ | refine blk_alloc ?_ _)); exact BK400.out)) : gb406 ≠ gb400)); clear HO_0; clear HO_15; clear HO_16; clear HO_349001; clear HO379; clear HO388; clear HO391; clear HO394; clear HO398; clear HO404; clear BK348; clear BK400; clear HB; have HO_0 := n0_; have HO_15 := n1_; have HO_16 := n2_; have HO_349001 := n3_; have HO379 := n4_; have HO388 := n5_; have HO391 := n6_; have HO394 := n7_; have HO398 := n8_; have HO404 := n9_; have BK348 := n10_; have BK400 := n11_; have HB := n12_; have BK406 := n13_; have GW406 := n14_; have GE406 := n15_; have NB348_406 := n16_; have NB406_348 := n17_; have NB400_406 := n18_; have NB406_400 := n19_; clear n0_ n1_ n2_ n3_ n4_ n5_ n6_ n7_ n8_ n9_ n10_ n11_ n12_ n13_ n14_ n15_ n16_ n17_ n18_ n19_; clear hb hbox hg; have hnb93 := NB406_348.out; have hnc93 := NB348_406.out; have hnb94 := NB406_400.out; have hnc94 := NB400_406.out; have hcz95_0 : w92.cell? ⟨gb406, 0, none⟩ = some (.bool false) := (blk_cell BK406.out 0).trans rfl; have hcz95_1 : w92.cell? ⟨gb406, 1, none⟩ = some (.slice none 0 0) := (blk_cell BK406.out 1).trans rfl; have hfz95_0 := blk_frozen BK406.out 0; have hfz95_1 := blk_frozen BK406.out 1; obtain ⟨Ao96, co96, eo96⟩ := Kd.R_slice HO404.out; subst eo96; have hcz97_0 : w92.cell? ⟨gb400, 0, none⟩ = some (.bool t395) := (blk_cell BK400.out 0).trans rfl; have hcz97_1 : w92.cell? ⟨gb400, 1, none⟩ = some (.slice Ao90 t396.length co90) := (blk_cell BK400.out 1).trans rfl; have hfz97_0 := blk_frozen BK400.out 0; have hfz97_1 := blk_frozen BK400.out 1) | (go_at_call 29; (with_reducible refine (waybilllaw10_Same.calls k6 t395 _ _ t396 t401 _ _ t402 true _ ?side1 ?side2 ?side3 ?side4 A71.out).mono ?_); (case side1 => refine (Kd.R_reads' (e := 41) (base := w.heap.size) (ok := fun k_ => (((w.heap.size ≤ k_) ∧ True) ∧ some k_ ≠ (.slice Ao96 t402.length co96 : Value).ownBlock)) (n := t396.length) (c := co90) ?_).2.2; exact (by (with_reducible repeat (first | apply Kd.R_alloc | apply Kd.R_drewN | apply Kd.R_drew)); exact (Kd.R_mono (Kd.R_far (p := ⟨gb406, 1, none⟩) (Kd.R_far (p := ⟨gb406, 0, none⟩) (Kd.R_types HO398.out BK406.out (by decide)) (fun _ hk => hk.2) (.bool t401)) (fun _ hk => hk.2) (.slice Ao96 t402.length co96)) (fun _ h_ => h_.1)))); (case side2 => exact (Kd.R_reads' HO398.out).2.1); (case side3 => refine (Kd.R_reads' (e := 41) (base := w.heap.size) (ok := fun k_ => (((w.heap.size ≤ k_) ∧ True) ∧ some k_ ≠ (.slice Ao90 t396.length co90 : Value).ownBlock)) (n := t402.length) (c := co96) ?_).2.2; exact (by (with_reducible repeat (first | apply Kd.R_alloc | apply Kd.R_drewN | apply Kd.R_drew)); exact (Kd.R_mono (Kd.R_far (p := ⟨gb406, 1, none⟩) (Kd.R_far (p := ⟨gb406, 0, none⟩) (Kd.R_types HO404.out BK406.out (by decide)) (fun _ hk => hk.2) (.bool t401)) (fun _ hk => hk.2) (.slice Ao96 t402.length co96)) (fun _ h_ => h_.1)))); (case side4 => exact (Kd.R_reads' HO404.out).2.1); rintro e w98 ⟨rfl, hb⟩; have n0_ := Aside0.mk (Kd.V_below (by (with_reducible repeat (first | apply Kd.V_alloc | apply Kd.V_drewN | apply Kd.V_drew)); exact (Kd.V_mono (Kd.V_far (p := ⟨gb406, 1, none⟩) (Kd.V_far (p := ⟨gb406, 0, none⟩) (Kd.V_mono HO_0.out (fun k_ hk => (⟨hk, hk.2⟩ : _ ∧ k_ ≠ gb406))) (fun _ hk => hk.2) (.bool t401)) (fun _ hk => hk.2) (.slice Ao96 t402.length co96)) (fun _ h_ => h_.1))) hb); have n1_ := Aside0.mk (Kd.V_below (by (with_reducible repeat (first | apply Kd.V_alloc | apply Kd.V_drewN | apply Kd.V_drew)); exact (Kd.V_mono (Kd.V_far (p := ⟨gb406, 1, none⟩) (Kd.V_far (p := ⟨gb406, 0, none⟩) (Kd.V_mono HO_15.out (fun k_ hk => (⟨hk, hk.2⟩ : _ ∧ k_ ≠ gb406))) (fun _ hk => hk.2) (.bool t401)) (fun _ hk => hk.2) (.slice Ao96 t402.length co96)) (fun _ h_ => h_.1))) hb); have n2_ := Aside0.mk (Kd.V_below (by (with_reducible repeat (first | apply Kd.V_alloc | apply Kd.V_drewN | apply Kd.V_drew)); exact (Kd.V_mono (Kd.V_far (p := ⟨gb406, 1, none⟩) (Kd.V_far (p := ⟨gb406, 0, none⟩) (Kd.V_mono HO_16.out (fun k_ hk => (⟨hk, hk.2⟩ : _ ∧ k_ ≠ gb406))) (fun _ hk => hk.2) (.bool t401)) (fun _ hk => hk.2) (.slice Ao96 t402.length co96)) (fun _ h_ => h_.1))) hb); have n3_ := Aside0.mk (Kd.V_below (by (with_reducible repeat (first | apply Kd.V_alloc | apply Kd.V_drewN | apply Kd.V_drew)); exact (Kd.V_mono (Kd.V_far (p := ⟨gb406, 1, none⟩) (Kd.V_far (p := ⟨gb406, 0, none⟩) (Kd.V_mono HO_349001.out (fun k_ hk => (⟨hk, hk.2⟩ : _ ∧ k_ ≠ gb406))) (fun _ hk => hk.2) (.bool t401)) (fun _ hk => hk.2) (.slice Ao96 t402.length co96)) (fun _ h_ => h_.1))) hb); have n4_ := Aside0.mk (Kd.V_below (by (with_reducible repeat (first | apply Kd.V_alloc | apply Kd.V_drewN | apply Kd.V_drew)); exact (Kd.V_mono (Kd.V_far (p := ⟨gb406, 1, none⟩) (Kd.V_far (p := ⟨gb406, 0, none⟩) (Kd.V_mono HO379.out (fun k_ hk => (⟨hk, hk.2⟩ : _ ∧ k_ ≠ gb406))) (fun _ hk => hk.2) (.bool t401)) (fun _ hk => hk.2) (.slice Ao96 t402.length co96)) (fun _ h_ => h_.1))) hb); have n5_ := Aside0.mk (Kd.R_below (by (with_reducible repeat (first | apply Kd.R_alloc | apply Kd.R_drewN | apply Kd.R_drew)); exact (Kd.R_mono (Kd.R_far (p := ⟨gb406, 1, none⟩) (Kd.R_far (p := ⟨gb406, 0, none⟩) (Kd.R_types HO388.out BK406.out (by decide)) (fun _ hk => hk.2) (.bool t401)) (fun _ hk => hk.2) (.slice Ao96 t402.length co96)) (fun _ h_ => h_.1))) hb); have n6_ := Aside0.mk (Kd.R_below (by (with_reducible repeat (first | apply Kd.R_alloc | apply Kd.R_drewN | apply Kd.R_drew)); exact (Kd.R_mono (Kd.R_far (p := ⟨gb406, 1, none⟩) (Kd.R_far (p := ⟨gb406, 0, none⟩) (Kd.R_types HO391.out BK406.out (by decide)) (fun _ hk => hk.2) (.bool t401)) (fun _ hk => hk.2) (.slice Ao96 t402.length co96)) (fun _ h_ => h_.1))) hb); have n7_ := Aside0.mk (Kd.V_below (by (with_reducible repeat (first | apply Kd.V_alloc | apply Kd.V_drewN | apply Kd.V_drew)); exact (Kd.V_mono (Kd.V_far (p := ⟨gb406, 1, none⟩) (Kd.V_far (p := ⟨gb406, 0, none⟩) (Kd.V_mono HO394.out (fun k_ hk => (⟨hk, hk.2⟩ : _ ∧ k_ ≠ gb406))) (fun _ hk => hk.2) (.bool t401)) (fun _ hk => hk.2) (.slice Ao96 t402.length co96)) (fun _ h_ => h_.1))) hb); have n8_ := Aside0.mk (Kd.R_below (by (with_reducible repeat (first | apply Kd.R_alloc | apply Kd.R_drewN | apply Kd.R_drew)); exact (Kd.R_mono (Kd.R_far (p := ⟨gb406, 1, none⟩) (Kd.R_far (p := ⟨gb406, 0, none⟩) (Kd.R_types HO398.out BK406.out (by decide)) (fun _ hk => hk.2) (.bool t401)) (fun _ hk => hk.2) (.slice Ao96 t402.length co96)) (fun _ h_ => h_.1))) hb); have n9_ := Aside0.mk (Kd.R_below (by (with_reducible repeat (first | apply Kd.R_alloc | apply Kd.R_drewN | apply Kd.R_drew)); exact (Kd.R_mono (Kd.R_far (p := ⟨gb406, 1, none⟩) (Kd.R_far (p := ⟨gb406, 0, none⟩) (Kd.R_types HO404.out BK406.out (by decide)) (fun _ hk => hk.2) (.bool t401)) (fun _ hk => hk.2) (.slice Ao96 t402.length co96)) (fun _ h_ => h_.1))) hb); have n10_ := Aside0.mk (blk_below (g := gb348) (o := .cells #[.bool x349000_2, .slice Ao20 x349001_2.length co20] 44 (0, 0)) (by (with_reducible repeat (first | refine blk_drewN ?_ _ | refine blk_drew ?_ | refine blk_alloc ?_ _)); refine blk_far ?_ NB348_406.out _; (with_reducible repeat (first | refine blk_drewN ?_ _ | refine blk_drew ?_ | refine blk_alloc ?_ _)); refine blk_far ?_ NB348_406.out _; (with_reducible repeat (first | refine blk_drewN ?_ _ | refine blk_drew ?_ | refine blk_alloc ?_ _)); exact BK348.out) hb); have n11_ := Aside0.mk (blk_below (g := gb400) (o := .cells #[.bool t395, .slice Ao90 t396.length co90] 44 (0, 0)) (by (with_reducible repeat (first | refine blk_drewN ?_ _ | refine blk_drew ?_ | refine blk_alloc ?_ _)); refine blk_far ?_ NB400_406.out _; (with_reducible repeat (first | refine blk_drewN ?_ _ | refine blk_drew ?_ | refine blk_alloc ?_ _)); refine blk_far ?_ NB400_406.out _; (with_reducible repeat (first | refine blk_drewN ?_ _ | refine blk_drew ?_ | refine blk_alloc ?_ _)); exact BK400.out) hb); have n12_ := Aside0.mk (blk_below (g := gb406) (o := .cells #[.bool t401, .slice Ao96 t402.length co96] 44 (0, 0)) (by (with_reducible repeat (first | refine blk_drewN ?_ _ | refine blk_drew ?_ | refine blk_alloc ?_ _)); refine blk_put (cs := #[.bool t401, .slice none 0 0]) ?_ 1 _ rfl; (with_reducible repeat (first | refine blk_drewN ?_ _ | refine blk_drew ?_ | refine blk_alloc ?_ _)); refine blk_put (cs := #[.bool false, .slice none 0 0]) ?_ 0 _ rfl; (with_reducible repeat (first | refine blk_drewN ?_ _ | refine blk_drew ?_ | refine blk_alloc ?_ _)); exact BK406.out) hb); have n13_ := Aside0.mk (below_step (by repeat (first | (with_reducible first | exact HB.out | apply below_alloc | apply pw_below_drewN | apply below_drew1 | refine below_set ?_ GE348.out | refine below_set ?_ GE400.out | refine below_set ?_ GE406.out) | exact HB.out)) hb); clear HO_0; clear HO_15; clear HO_16; clear HO_349001; clear HO379; clear HO388; clear HO391; clear HO394; clear HO398; clear HO404; clear BK348; clear BK400; clear BK406; clear HB; have HO_0 := n0_; have HO_15 := n1_; have HO_16 := n2_; have HO_349001 := n3_; have HO379 := n4_; have HO388 := n5_; have HO391 := n6_; have HO394 := n7_; have HO398 := n8_; have HO404 := n9_; have BK348 := n10_; have BK400 := n11_; have BK406 := n12_; have HB := n13_; clear n0_ n1_ n2_ n3_ n4_ n5_ n6_ n7_ n8_ n9_ n10_ n11_ n12_ n13_; (try clear hb); (try clear hb2); (try clear hk); (try clear hi); (try clear hge)))
                           go_roundg k6
                           case measure => have := HJ5.out; have := HK2.out; have := HJ17.out; have := HJ36.out; have := HJ43.out; have := HK6.out; omega
                           case rel => exact ⟨(wrap64 (x17_6 + 1)), (by first | rfl | (simp; done) | (simp [*]; done)), H', ⟨by have := HJ5.out; have := HK2.out; have := HJ17.out; have := HJ36.out; have := HJ43.out; have := HK6.out; omega⟩, ⟨by (try simp only [hl0_2]); (try simp only [hl16_43]); (with_reducible repeat (first | apply Kd.V_alloc | apply Kd.V_drewN | apply Kd.V_drew)); exact Kd.V_mono HO_0.out (fun _ hk => ⟨hk.1.1.1.1.1.1, hk.1.1.1.1.1.2.2⟩)⟩, ⟨by (try simp only [hl0_2]); (try simp only [hl16_43]); (with_reducible repeat (first | apply Kd.V_alloc | apply Kd.V_drewN | apply Kd.V_drew)); exact Kd.V_mono HO_15.out (fun _ hk => ⟨hk.1.1.1.1.1.1, hk.1.1.1.1.1.2.2⟩)⟩, ⟨by (try simp only [hl0_2]); (try simp only [hl16_43]); (with_reducible repeat (first | apply Kd.V_alloc | apply Kd.V_drewN | apply Kd.V_drew)); exact Kd.V_mono HO_16.out (fun _ hk => ⟨hk.1.1.1.1.1.1, hk.1.1.1.1.1.2.2⟩)⟩, ⟨by (try simp only [hl0_2]); (try simp only [hl16_43]); (with_reducible repeat (first | apply Kd.V_alloc | apply Kd.V_drewN | apply Kd.V_drew)); exact Kd.V_mono HO_349001.out (fun _ hk => ⟨hk.1.1.1.1.1.1, hk.1.1.1.1.1.2.2⟩)⟩, ⟨by (try simp only [hl0_2]); (try simp only [hl16_43]); (with_reducible repeat (first | refine blk_drewN ?_ _ | refine blk_drew ?_ | refine blk_alloc ?_ _)); exact BK348.out⟩, ⟨by repeat (first | (with_reducible first | exact HB.out | apply below_alloc | apply pw_below_drewN | apply below_drew1 | refine below_set ?_ GE348.out | refine below_set ?_ GE400.out | refine below_set ?_ GE406.out) | exact HB.out)⟩⟩
                          ·
                           replace c72 := Bool.eq_false_iff.mpr c72
                           subst c72
                           have H1 : (none) = some r := by rw [if_neg (show ¬ (false = true) by decide)] at H; exact H
                           clear H
                           have H := H1
                           clear H1
                           exact absurd H (by simp)
                        ·
                         rw [if_neg c67] at H
                         exact absurd H (by simp)
                       ·
                        rw [if_neg c66] at H
                        exact absurd H (by simp)
                      ·
                       rw [if_neg c65] at H
                       exact absurd H (by simp)
                     ·
                      rw [if_neg c64] at H
                      exact absurd H (by simp)
                    ·
                     rw [if_neg c63] at H
                     exact absurd H (by simp)
                  ·
                   rw [if_neg c60] at H
                   have c60b0 : decide (x17_6 < 4) = false := decide_eq_false c60
                   clear c60
                   replace H := Option.bind_eq_some_iff.mp H
                   obtain ⟨⟨t371, t372⟩, A990, H⟩ := H
                   replace H : (waybilllaw10_NodeTells.l0 k6 x0_2 a2 a3 a4 (wrap64 (x11_2 + 1)) t371 t372) = some r := H
                   have A99 := Aside0.mk A990
                   clear A990
                   have H' := Aside0.mk H
                   clear H
                   have hcz100_0 : wr.cell? ⟨gb348, 0, none⟩ = some (.bool x349000_2) := (blk_cell BK348.out 0).trans rfl
                   have hcz100_1 : wr.cell? ⟨gb348, 1, none⟩ = some (.slice Ao20 x349001_2.length co20) := (blk_cell BK348.out 1).trans rfl
                   have hfz100_0 := blk_frozen BK348.out 0
                   have hfz100_1 := blk_frozen BK348.out 1
                   go_wp2_with (first | ((with_reducible refine gate_callee (f := 30) rfl ?_); refine goesL_ (some 128) rfl rfl Try.func30 (by kernel_rfl) rfl #[.agg #[.bool x349000_2, .slice Ao20 x349001_2.length co20]] rfl (by (try simp only [List.map_toArray, List.map_cons, List.map_nil]); first | done | rfl | (simp only [List.length_drop, List.length_take]; rfl)) ?_; (with_reducible refine (waybilllaw10_Tame.calls k6 x349000_2 _ _ x349001_2 t371 t372 _ ?side1 ?side2 A99.out).mono ?_); (case side1 => repeat (first | exact (Kd.V_reads' HO_349001.out).2.2 | (with_reducible refine Kd.C_alloc ?_ _) | (with_reducible refine Kd.C_drewN ?_ _) | (with_reducible refine Kd.C_drew ?_))); (case side2 => exact (Kd.V_reads' HO_349001.out).2.1); rintro e w101 ⟨v373, rfl, ho0, hb⟩; refine ⟨_, rfl, ?_⟩; have n0_ := Aside0.mk (Kd.V_elder' (by exact HO_0.out) (Kd.R_base ho0) hb); have n1_ := Aside0.mk (Kd.V_elder' (by exact HO_15.out) (Kd.R_base ho0) hb); have n2_ := Aside0.mk (Kd.V_elder' (by exact HO_16.out) (Kd.R_base ho0) hb); have n3_ := Aside0.mk (Kd.V_elder' (by exact HO_349001.out) (Kd.R_base ho0) hb); have n4_ := Aside0.mk (Kd.R_lower (Kd.R_newM (M := fun k_ => (w.heap.size ≤ k_)) ho0 (below_size (by repeat (first | (with_reducible first | exact HB.out | apply below_alloc | apply pw_below_drewN | apply below_drew1 | refine below_set ?_ GE348.out) | exact HB.out))) (fun k_ h_ => h_)) (below_size (by repeat (first | (with_reducible first | exact HB.out | apply below_alloc | apply pw_below_drewN | apply below_drew1 | refine below_set ?_ GE348.out) | exact HB.out)))); have n5_ := Aside0.mk (blk_below (g := gb348) (o := .cells #[.bool x349000_2, .slice Ao20 x349001_2.length co20] 44 (0, 0)) (by exact BK348.out) hb); have n6_ := Aside0.mk (below_step (by repeat (first | (with_reducible first | exact HB.out | apply below_alloc | apply pw_below_drewN | apply below_drew1 | refine below_set ?_ GE348.out) | exact HB.out)) hb); clear HO_0; clear HO_15; clear HO_16; clear HO_349001; clear BK348; clear HB; have HO_0 := n0_; have HO_15 := n1_; have HO_16 := n2_; have HO_349001 := n3_; have HO374 := n4_; have BK348 := n5_; have HB := n6_; clear n0_ n1_ n2_ n3_ n4_ n5_ n6_; (try clear hb); (try clear hb2); (try clear hk); (try clear hi); (try clear hge); (try clear ho0); have hcz102_0 : w101.cell? ⟨gb348, 0, none⟩ = some (.bool x349000_2) := (blk_cell BK348.out 0).trans rfl; have hcz102_1 : w101.cell? ⟨gb348, 1, none⟩ = some (.slice Ao20 x349001_2.length co20) := (blk_cell BK348.out 1).trans rfl; have hfz102_0 := blk_frozen BK348.out 0; have hfz102_1 := blk_frozen BK348.out 1; obtain ⟨Ao103, co103, eo103⟩ := Kd.R_slice HO374.out; subst eo103))
                   (try simp only [← hl0_2, ← hl16_43])
                   go_roundg k6
                   case measure => have := HJ5.out; have := HK2.out; have := HJ17.out; have := HJ36.out; have := HJ43.out; have := HK6.out; omega
                   case rel => exact ⟨(x0_2), (wrap64 (x11_2 + 1)), (t371), (t372), (.slice Ao103 t372.length co103), (by first | rfl | (simp; done) | (simp [*]; done)), H', ⟨by have := HJ5.out; have := HK2.out; have := HJ17.out; have := HJ36.out; have := HJ43.out; have := HK6.out; omega⟩, ⟨by (try simp only [hl0_2]); (try simp only [hl16_43]); exact Kd.V_mono (Kd.V_far (p := ⟨gb348, 1, none⟩) (Kd.V_far (p := ⟨gb348, 0, none⟩) (Kd.V_mono HO_0.out (fun k_ hk => (⟨hk, hk.1.2⟩ : _ ∧ k_ ≠ gb348))) (fun _ hk => hk.2) (.bool t371)) (fun _ hk => hk.2) (.slice Ao103 t372.length co103)) (fun _ hk => ⟨hk.1.1.1, hk.1.1.2⟩)⟩, ⟨Kd.V_mono (Kd.R_V (ok := fun k_ => ((w.heap.size ≤ k_) ∧ k_ ≠ gb348)) (by (try simp only [hl0_2]); (try simp only [hl16_43]); exact Kd.R_mono (Kd.R_far (p := ⟨gb348, 1, none⟩) (Kd.R_far (p := ⟨gb348, 0, none⟩) (Kd.R_types (Kd.R_types HO374.out BK348.out (by decide)) BK348.out (by decide)) (fun _ hk => hk.2) (.bool t371)) (fun _ hk => hk.2) (.slice Ao103 t372.length co103)) (fun _ hk => ⟨hk.1.1.1, hk.1.2⟩))) (fun k_ hk => by first | exact ⟨(.inr (hk.1)), hk.2⟩ | exact (.inr (hk)))⟩, ⟨by (try simp only [hl0_2]); (try simp only [hl16_43]); refine blk_put (cs := #[.bool t371, .slice Ao20 x349001_2.length co20]) ?_ 1 _ rfl; refine blk_put (cs := #[.bool x349000_2, .slice Ao20 x349001_2.length co20]) ?_ 0 _ rfl; exact BK348.out⟩, ⟨by repeat (first | (with_reducible first | exact HB.out | apply below_alloc | apply pw_below_drewN | apply below_drew1 | refine below_set ?_ GE348.out) | exact HB.out)⟩⟩
             ·
              rw [if_neg c43] at H
              exact absurd H (by simp)
            ·
             rw [if_neg c42] at H
             exact absurd H (by simp)
      ·
       rw [if_neg c15] at H
       have c15b0 : decide (x11_2 < 2) = false := decide_eq_false c15
       clear c15
       replace H := Option.bind_eq_some_iff.mp H
       obtain ⟨t351, A1040, H⟩ := H
       replace H : (some t351) = some r := H
       have A104 := Aside0.mk A1040
       clear A1040
       obtain rfl := Option.some.inj H
       go_wp2_with (first | ((with_reducible refine gate_callee (f := 21) rfl ?_); refine goesL_ (some 129) rfl rfl Try.func21 (by kernel_rfl) rfl #[] rfl (by (try simp only [List.map_toArray, List.map_cons, List.map_nil]); first | done | rfl | (simp only [List.length_drop, List.length_take]; rfl)) ?_; (with_reducible refine (waybilllaw10_awake.calls k2  t351 _ A104.out).mono ?_); rintro e w105 ⟨rfl, hb⟩; refine ⟨_, rfl, ?_⟩; have n0_ := Aside0.mk (Kd.V_below (by exact HO_0.out) hb); have n1_ := Aside0.mk (Kd.V_below (by exact HO_349001.out) hb); have n2_ := Aside0.mk (blk_below (g := gb348) (o := .cells #[.bool x349000_2, u349001] 44 (0, 0)) (by exact BK348.out) hb); have n3_ := Aside0.mk (below_step (by repeat (first | (with_reducible first | exact HB.out | apply below_alloc | apply pw_below_drewN | apply below_drew1 | refine below_set ?_ GE348.out) | exact HB.out)) hb); clear HO_0; clear HO_349001; clear BK348; clear HB; have HO_0 := n0_; have HO_349001 := n1_; have BK348 := n2_; have HB := n3_; clear n0_ n1_ n2_ n3_; (try clear hb); (try clear hb2); (try clear hk); (try clear hi); (try clear hge)))
       all_goals first | (go_ret; exact ⟨by first | rfl | (simp [errW_none, errW_some]; done) | (simp [errW_none, errW_some]; rfl) | (simp [*, errW_none, errW_some]; done) | (simp [*, errW_none, errW_some]; rfl), by repeat (first | (with_reducible first | exact HB.out | apply below_alloc | apply pw_below_drewN | apply below_drew1 | refine below_set ?_ GE348.out) | exact HB.out)⟩) | (exfalso; simp_all; done)

end Go.Proofs.Ytfhaffpegncdiaa.PN
