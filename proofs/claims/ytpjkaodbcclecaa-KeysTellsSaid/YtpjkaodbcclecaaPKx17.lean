/- What functions of the given program come to: printed; Lean checks it. -/
import Derived.Test.YtpjkaodbcclecaaPKx0
import Derived.Test.YtpjkaodbcclecaaUWords
import Derived.Test.YtpjkaodbcclecaaPKx1
import Derived.Test.YtpjkaodbcclecaaPKx4
import Derived.Test.YtpjkaodbcclecaaPKx5
import Derived.Test.YtpjkaodbcclecaaPKx7
import Derived.Test.YtpjkaodbcclecaaPKx8
import Derived.Test.YtpjkaodbcclecaaPKx10
import Derived.Test.YtpjkaodbcclecaaPKx12
import Derived.Test.YtpjkaodbcclecaaPKx13
import Derived.Test.YtpjkaodbcclecaaPKx15
import Derived.Test.YtpjkaodbcclecaaPKx16
namespace Go.Proofs.Ytpjkaodbcclecaa.PK
open Go.RowKit Go.Proofs.YtpjkaodbcclecaaW.PrintWords Go.Proofs.YtpjkaodbcclecaaW.PrintLast Go.Proofs.YtpjkaodbcclecaaW.PrintMore
attribute [local go_sem] max2_int min2_int max_two min_two max_three min_three max_four min_four
set_option linter.unusedVariables false
set_option linter.unusedSimpArgs false

attribute [local go_sem high] eqA74
/-! ### waybilllaw12_KeysTells: function 11 -/
mutual
def waybilllaw12_KeysTells.j0 : Nat → ByteArray → Int → Int → Int → List Int → Bool → Int → ByteArray → ByteArray → ByteArray → Int → ByteArray → ByteArray → ByteArray → Int → List Int → Option (Bool)
 | 0, _, _, _, _, _, _, _, _, _, _, _, _, _, _, _, _ => none
 | k + 1, x1, x2, x3, x4, x6, x78, x347000, x347001, x347002, x347003, x347004, x348000, x348001, x348002, x348003, x348004 => if x78 = true then ((waybilllaw12_awake.f k).bind fun t348 => (some t348)) else (waybilllaw12_KeysTells.l0 k x1 x2 x3 x4 x6 0 x347000 x347001 x347002 x347003 x347004 x348000 x348001 x348002 x348003 x348004)
def waybilllaw12_KeysTells.l0 : Nat → ByteArray → Int → Int → Int → List Int → Int → Int → ByteArray → ByteArray → ByteArray → Int → ByteArray → ByteArray → ByteArray → Int → List Int → Option (Bool)
 | 0, _, _, _, _, _, _, _, _, _, _, _, _, _, _, _, _ => none
 | k + 1, x1, x2, x3, x4, x6, x15, x347000, x347001, x347002, x347003, x347004, x348000, x348001, x348002, x348003, x348004 => if x15 < 2 then ((keys_Text.f k x347000 x347001 x347002 x347003 x347004).bind fun bt349 => ((waybillref7_Key.f k x347000 x347001 x347002 x347003 x347004).bind fun bt351 => (if bt349.1.toList = bt351.1.toList then (waybilllaw12_KeysTells.j2 k x1 x2 x3 x4 x6 x15 bt349.1 (bt349.2 != bt351.2) x347000 x347001 x347002 x347003 x347004 x348000 x348001 x348002 x348003 x348004) else (waybilllaw12_KeysTells.j2 k x1 x2 x3 x4 x6 x15 bt349.1 true x347000 x347001 x347002 x347003 x347004 x348000 x348001 x348002 x348003 x348004)))) else ((keys_Msg.f k x348000 x348001 x348002 x348003 x348004).bind fun bt381 => ((waybillref7_Msg.f k x348000 x348001 x348002 x348003 x348004).bind fun bt385 => (if (bt381.2 != bt385.2) = true then (waybilllaw12_KeysTells.j5 k x4 x6 bt385.1 true) else (waybilllaw12_KeysTells.j5 k x4 x6 bt385.1 ((strOfNums bt381.1).toList != (strOfNums bt385.1).toList)))))
def waybilllaw12_KeysTells.j2 : Nat → ByteArray → Int → Int → Int → List Int → Int → ByteArray → Bool → Int → ByteArray → ByteArray → ByteArray → Int → ByteArray → ByteArray → ByteArray → Int → List Int → Option (Bool)
 | 0, _, _, _, _, _, _, _, _, _, _, _, _, _, _, _, _, _, _ => none
 | k + 1, x1, x2, x3, x4, x6, x15, x16, x101, x347000, x347001, x347002, x347003, x347004, x348000, x348001, x348002, x348003, x348004 => if x101 = true then (none) else (if x16.size ≤ 9223372036854775807 then ((some (bytesOf x16 : List Int)).bind fun y353 => (if (y353.length : Int) > 0 then (if (y353.length : Int) = 0 then (none) else (if 0 ≤ (Int.tmod (Go.bits .and .i64 x2 65535) (y353.length : Int)) then (if (Int.tmod (Go.bits .and .i64 x2 65535) (y353.length : Int)) < (y353.length : Int) then (waybilllaw12_KeysTells.j3 k x1 x2 x3 x4 x6 x15 x16 (y353.set ((Int.tmod (Go.bits .and .i64 x2 65535) (y353.length : Int)) : Int).toNat (Go.bits .xor .u8 (rd y353 (Int.tmod (Go.bits .and .i64 x2 65535) (y353.length : Int))) x3)) x347000 x347001 x347002 x347003 x347004 x348000 x348001 x348002 x348003 x348004) else (none)) else (none))) else (waybilllaw12_KeysTells.j3 k x1 x2 x3 x4 x6 x15 x16 y353 x347000 x347001 x347002 x347003 x347004 x348000 x348001 x348002 x348003 x348004))) else (none))
def waybilllaw12_KeysTells.j3 : Nat → ByteArray → Int → Int → Int → List Int → Int → ByteArray → List Int → Int → ByteArray → ByteArray → ByteArray → Int → ByteArray → ByteArray → ByteArray → Int → List Int → Option (Bool)
 | 0, _, _, _, _, _, _, _, _, _, _, _, _, _, _, _, _, _, _ => none
 | k + 1, x1, x2, x3, x4, x6, x15, x16, x20, x347000, x347001, x347002, x347003, x347004, x348000, x348001, x348002, x348003, x348004 => waybilllaw12_KeysTells.l1 k x1 x2 x3 x4 x6 x15 x16 x20 0 x347000 x347001 x347002 x347003 x347004 x348000 x348001 x348002 x348003 x348004
def waybilllaw12_KeysTells.l1 : Nat → ByteArray → Int → Int → Int → List Int → Int → ByteArray → List Int → Int → Int → ByteArray → ByteArray → ByteArray → Int → ByteArray → ByteArray → ByteArray → Int → List Int → Option (Bool)
 | 0, _, _, _, _, _, _, _, _, _, _, _, _, _, _, _, _, _, _, _ => none
 | k + 1, x1, x2, x3, x4, x6, x15, x16, x20, x21, x347000, x347001, x347002, x347003, x347004, x348000, x348001, x348002, x348003, x348004 => if x21 < 4 then (if (wrap64 ((x16.size : Int) + 1)) = 0 then (none) else (if 0 ≤ (Int.tmod (Go.bits .and .i64 x4 65535) (wrap64 ((x16.size : Int) + 1))) then (if (Int.tmod (Go.bits .and .i64 x4 65535) (wrap64 ((x16.size : Int) + 1))) ≤ (x16.size : Int) then (if x16.size + x1.size ≤ 9223372036854775807 then ((some (([x1, strOfNums x20, x16.extract 0 ((Int.tmod (Go.bits .and .i64 x4 65535) (wrap64 ((x16.size : Int) + 1))) : Int).toNat, x16 ++ x1] : List ByteArray) : List ByteArray)).bind fun y363 => (if 0 ≤ x21 then (if x21 < (y363.length : Int) then ((keys_Parse.f k (rdOf ByteArray.empty y363 x21)).bind fun bt367 => ((waybillref7_KeyOf.f k (rdOf ByteArray.empty y363 x21)).bind fun bt374 => (if (!(bt367.1 == bt374.1) || (!(bt367.2.1.toList == bt374.2.1.toList) || (!(bt367.2.2.1.toList == bt374.2.2.1.toList) || (!(bt367.2.2.2.1.toList == bt374.2.2.2.1.toList) || (!(bt367.2.2.2.2.1 == bt374.2.2.2.2.1)))))) = true then (none) else (if (bt367.2.2.2.2.2 != bt374.2.2.2.2.2) = true then (none) else (waybilllaw12_KeysTells.l1 k x1 x2 x3 x4 x6 x15 x16 x20 (wrap64 (x21 + 1)) x347000 x347001 x347002 x347003 x347004 x348000 x348001 x348002 x348003 x348004))))) else (none)) else (none))) else (none)) else (none)) else (none))) else ((waybilllaw12_Tame.f k x347000 x347001 x347002 x347003 x347004).bind fun bt358 => (waybilllaw12_KeysTells.l0 k x1 x2 x3 x4 x6 (wrap64 (x15 + 1)) bt358.1 bt358.2.1 bt358.2.2.1 bt358.2.2.2.1 bt358.2.2.2.2 x348000 x348001 x348002 x348003 x348004))
def waybilllaw12_KeysTells.j5 : Nat → Int → List Int → List Int → Bool → Option (Bool)
 | 0, _, _, _, _ => none
 | k + 1, x4, x6, x29, x179 => if x179 = true then (none) else (waybilllaw12_KeysTells.l2 k x4 x6 x29 0)
def waybilllaw12_KeysTells.l2 : Nat → Int → List Int → List Int → Int → Option (Bool)
 | 0, _, _, _, _ => none
 | k + 1, x4, x6, x29, x31 => if x31 < 2 then (if (wrap64 ((x29.length : Int) + 1)) = 0 then (none) else (if 0 ≤ (Int.tmod (Go.bits .and .i64 x4 65535) (wrap64 ((x29.length : Int) + 1))) then (if (Int.tmod (Go.bits .and .i64 x4 65535) (wrap64 ((x29.length : Int) + 1))) ≤ (x29.length : Int) then (if 0 ≤ x31 then ((some (([x6, (x29.take ((Int.tmod (Go.bits .and .i64 x4 65535) (wrap64 ((x29.length : Int) + 1))) : Int).toNat)] : List (List Int)).getD (x31).toNat [] : List Int)).bind fun y395 => ((keys_ParseMsg.f k y395).bind fun bt398 => ((waybillref7_MsgOf.f k y395).bind fun bt407 => (if (bt398.2.2.2.2.2 != bt407.2.2.2.2.2) = true then (none) else ((waybillref7_SameMsg.f bt398.1 bt398.2.1 bt398.2.2.1 bt398.2.2.2.1 bt398.2.2.2.2.1 bt407.1 bt407.2.1 bt407.2.2.1 bt407.2.2.2.1 bt407.2.2.2.2.1).bind fun t416 => (if t416 = true then (waybilllaw12_KeysTells.l2 k x4 x6 x29 (wrap64 (x31 + 1))) else (none))))))) else (none)) else (none)) else (none))) else ((waybilllaw12_awake.f k).bind fun t389 => (some t389))
end
def waybilllaw12_KeysTells.f (k : Nat) (a0_0 : Int) (a0_1 : ByteArray) (a0_2 : ByteArray) (a0_3 : ByteArray) (a0_4 : Int) (a1 : ByteArray) (a2 : Int) (a3 : Int) (a4 : Int) (a5_0 : ByteArray) (a5_1 : ByteArray) (a5_2 : ByteArray) (a5_3 : Int) (l5_4 : List Int) (l6 : List Int) : Option (Bool) := if (a1.size : Int) > 400 then (waybilllaw12_KeysTells.j0 k a1 a2 a3 a4 l6 true a0_0 a0_1 a0_2 a0_3 a0_4 a5_0 a5_1 a5_2 a5_3 l5_4) else (if (wrap64 ((wrap64 ((a0_1.size : Int) + (a0_2.size : Int))) + (a0_3.size : Int))) > 600 then (waybilllaw12_KeysTells.j0 k a1 a2 a3 a4 l6 true a0_0 a0_1 a0_2 a0_3 a0_4 a5_0 a5_1 a5_2 a5_3 l5_4) else (if (wrap64 ((wrap64 ((a5_0.size : Int) + (a5_1.size : Int))) + (a5_2.size : Int))) > 600 then (waybilllaw12_KeysTells.j0 k a1 a2 a3 a4 l6 true a0_0 a0_1 a0_2 a0_3 a0_4 a5_0 a5_1 a5_2 a5_3 l5_4) else (if (l5_4.length : Int) > 11000 then (waybilllaw12_KeysTells.j0 k a1 a2 a3 a4 l6 true a0_0 a0_1 a0_2 a0_3 a0_4 a5_0 a5_1 a5_2 a5_3 l5_4) else (waybilllaw12_KeysTells.j0 k a1 a2 a3 a4 l6 (decide ((l6.length : Int) > 400)) a0_0 a0_1 a0_2 a0_3 a0_4 a5_0 a5_1 a5_2 a5_3 l5_4))))
theorem waybilllaw12_KeysTells.mono_l : ∀ k, (∀ y0 y1 y2 y3 y4 y5 y6 y7 y8 y9 y10 y11 y12 y13 y14 y15, LeO (waybilllaw12_KeysTells.j0 k y0 y1 y2 y3 y4 y5 y6 y7 y8 y9 y10 y11 y12 y13 y14 y15) (waybilllaw12_KeysTells.j0 (k + 1) y0 y1 y2 y3 y4 y5 y6 y7 y8 y9 y10 y11 y12 y13 y14 y15)) ∧ (∀ y0 y1 y2 y3 y4 y5 y6 y7 y8 y9 y10 y11 y12 y13 y14 y15, LeO (waybilllaw12_KeysTells.l0 k y0 y1 y2 y3 y4 y5 y6 y7 y8 y9 y10 y11 y12 y13 y14 y15) (waybilllaw12_KeysTells.l0 (k + 1) y0 y1 y2 y3 y4 y5 y6 y7 y8 y9 y10 y11 y12 y13 y14 y15)) ∧ (∀ y0 y1 y2 y3 y4 y5 y6 y7 y8 y9 y10 y11 y12 y13 y14 y15 y16 y17, LeO (waybilllaw12_KeysTells.j2 k y0 y1 y2 y3 y4 y5 y6 y7 y8 y9 y10 y11 y12 y13 y14 y15 y16 y17) (waybilllaw12_KeysTells.j2 (k + 1) y0 y1 y2 y3 y4 y5 y6 y7 y8 y9 y10 y11 y12 y13 y14 y15 y16 y17)) ∧ (∀ y0 y1 y2 y3 y4 y5 y6 y7 y8 y9 y10 y11 y12 y13 y14 y15 y16 y17, LeO (waybilllaw12_KeysTells.j3 k y0 y1 y2 y3 y4 y5 y6 y7 y8 y9 y10 y11 y12 y13 y14 y15 y16 y17) (waybilllaw12_KeysTells.j3 (k + 1) y0 y1 y2 y3 y4 y5 y6 y7 y8 y9 y10 y11 y12 y13 y14 y15 y16 y17)) ∧ (∀ y0 y1 y2 y3 y4 y5 y6 y7 y8 y9 y10 y11 y12 y13 y14 y15 y16 y17 y18, LeO (waybilllaw12_KeysTells.l1 k y0 y1 y2 y3 y4 y5 y6 y7 y8 y9 y10 y11 y12 y13 y14 y15 y16 y17 y18) (waybilllaw12_KeysTells.l1 (k + 1) y0 y1 y2 y3 y4 y5 y6 y7 y8 y9 y10 y11 y12 y13 y14 y15 y16 y17 y18)) ∧ (∀ y0 y1 y2 y3, LeO (waybilllaw12_KeysTells.j5 k y0 y1 y2 y3) (waybilllaw12_KeysTells.j5 (k + 1) y0 y1 y2 y3)) ∧ (∀ y0 y1 y2 y3, LeO (waybilllaw12_KeysTells.l2 k y0 y1 y2 y3) (waybilllaw12_KeysTells.l2 (k + 1) y0 y1 y2 y3))
 | 0 => ⟨fun _ _ _ _ _ _ _ _ _ _ _ _ _ _ _ _ r h => by simp [waybilllaw12_KeysTells.j0] at h, fun _ _ _ _ _ _ _ _ _ _ _ _ _ _ _ _ r h => by simp [waybilllaw12_KeysTells.l0] at h, fun _ _ _ _ _ _ _ _ _ _ _ _ _ _ _ _ _ _ r h => by simp [waybilllaw12_KeysTells.j2] at h, fun _ _ _ _ _ _ _ _ _ _ _ _ _ _ _ _ _ _ r h => by simp [waybilllaw12_KeysTells.j3] at h, fun _ _ _ _ _ _ _ _ _ _ _ _ _ _ _ _ _ _ _ r h => by simp [waybilllaw12_KeysTells.l1] at h, fun _ _ _ _ r h => by simp [waybilllaw12_KeysTells.j5] at h, fun _ _ _ _ r h => by simp [waybilllaw12_KeysTells.l2] at h⟩
 | k + 1 => by
  obtain ⟨ih0, ih1, ih2, ih3, ih4, ih5, ih6⟩ := waybilllaw12_KeysTells.mono_l k
  refine ⟨?_, ?_, ?_, ?_, ?_, ?_, ?_⟩
  ·
   intro y0 y1 y2 y3 y4 y5 y6 y7 y8 y9 y10 y11 y12 y13 y14 y15
   unfold waybilllaw12_KeysTells.j0
   repeat' first
   | (with_reducible exact ih0 _ _ _ _ _ _ _ _ _ _ _ _ _ _ _ _)
   | (with_reducible exact ih1 _ _ _ _ _ _ _ _ _ _ _ _ _ _ _ _)
   | (with_reducible exact ih2 _ _ _ _ _ _ _ _ _ _ _ _ _ _ _ _ _ _)
   | (with_reducible exact ih3 _ _ _ _ _ _ _ _ _ _ _ _ _ _ _ _ _ _)
   | (with_reducible exact ih4 _ _ _ _ _ _ _ _ _ _ _ _ _ _ _ _ _ _ _)
   | (with_reducible exact ih5 _ _ _ _)
   | (with_reducible exact ih6 _ _ _ _)
   | (with_reducible exact keys_Msg.mono _ _ _ _ _ _)
   | (with_reducible exact keys_Parse.mono _ _)
   | (with_reducible exact keys_ParseMsg.mono _ _)
   | (with_reducible exact keys_Text.mono _ _ _ _ _ _)
   | (with_reducible exact waybilllaw12_Tame.mono _ _ _ _ _ _)
   | (with_reducible exact waybilllaw12_awake.mono _)
   | (with_reducible exact waybillref7_Key.mono _ _ _ _ _ _)
   | (with_reducible exact waybillref7_KeyOf.mono _ _)
   | (with_reducible exact waybillref7_Msg.mono _ _ _ _ _ _)
   | (with_reducible exact waybillref7_MsgOf.mono _ _)
   | (with_reducible exact LeO.refl _)
   | (with_reducible exact LeO.none _)
   | (with_reducible refine LeO.ite ?_ ?_)
   | (with_reducible refine LeO.bind ?_ (fun _ => ?_))
   | exact ih0 _ _ _ _ _ _ _ _ _ _ _ _ _ _ _ _
   | exact ih1 _ _ _ _ _ _ _ _ _ _ _ _ _ _ _ _
   | exact ih2 _ _ _ _ _ _ _ _ _ _ _ _ _ _ _ _ _ _
   | exact ih3 _ _ _ _ _ _ _ _ _ _ _ _ _ _ _ _ _ _
   | exact ih4 _ _ _ _ _ _ _ _ _ _ _ _ _ _ _ _ _ _ _
   | exact ih5 _ _ _ _
   | exact ih6 _ _ _ _
   | exact keys_Msg.mono _ _ _ _ _ _
   | exact keys_Parse.mono _ _
   | exact keys_ParseMsg.mono _ _
   | exact keys_Text.mono _ _ _ _ _ _
   | exact waybilllaw12_Tame.mono _ _ _ _ _ _
   | exact waybilllaw12_awake.mono _
   | exact waybillref7_Key.mono _ _ _ _ _ _
   | exact waybillref7_KeyOf.mono _ _
   | exact waybillref7_Msg.mono _ _ _ _ _ _
   | exact waybillref7_MsgOf.mono _ _
   | exact LeO.none _
   | refine LeO.ite ?_ ?_
   | refine LeO.bind ?_ (fun _ => ?_)
  ·
   intro y0 y1 y2 y3 y4 y5 y6 y7 y8 y9 y10 y11 y12 y13 y14 y15
   unfold waybilllaw12_KeysTells.l0
   repeat' first
   | (with_reducible exact ih0 _ _ _ _ _ _ _ _ _ _ _ _ _ _ _ _)
   | (with_reducible exact ih1 _ _ _ _ _ _ _ _ _ _ _ _ _ _ _ _)
   | (with_reducible exact ih2 _ _ _ _ _ _ _ _ _ _ _ _ _ _ _ _ _ _)
   | (with_reducible exact ih3 _ _ _ _ _ _ _ _ _ _ _ _ _ _ _ _ _ _)
   | (with_reducible exact ih4 _ _ _ _ _ _ _ _ _ _ _ _ _ _ _ _ _ _ _)
   | (with_reducible exact ih5 _ _ _ _)
   | (with_reducible exact ih6 _ _ _ _)
   | (with_reducible exact keys_Msg.mono _ _ _ _ _ _)
   | (with_reducible exact keys_Parse.mono _ _)
   | (with_reducible exact keys_ParseMsg.mono _ _)
   | (with_reducible exact keys_Text.mono _ _ _ _ _ _)
   | (with_reducible exact waybilllaw12_Tame.mono _ _ _ _ _ _)
   | (with_reducible exact waybilllaw12_awake.mono _)
   | (with_reducible exact waybillref7_Key.mono _ _ _ _ _ _)
   | (with_reducible exact waybillref7_KeyOf.mono _ _)
   | (with_reducible exact waybillref7_Msg.mono _ _ _ _ _ _)
   | (with_reducible exact waybillref7_MsgOf.mono _ _)
   | (with_reducible exact LeO.refl _)
   | (with_reducible exact LeO.none _)
   | (with_reducible refine LeO.ite ?_ ?_)
   | (with_reducible refine LeO.bind ?_ (fun _ => ?_))
   | exact ih0 _ _ _ _ _ _ _ _ _ _ _ _ _ _ _ _
   | exact ih1 _ _ _ _ _ _ _ _ _ _ _ _ _ _ _ _
   | exact ih2 _ _ _ _ _ _ _ _ _ _ _ _ _ _ _ _ _ _
   | exact ih3 _ _ _ _ _ _ _ _ _ _ _ _ _ _ _ _ _ _
   | exact ih4 _ _ _ _ _ _ _ _ _ _ _ _ _ _ _ _ _ _ _
   | exact ih5 _ _ _ _
   | exact ih6 _ _ _ _
   | exact keys_Msg.mono _ _ _ _ _ _
   | exact keys_Parse.mono _ _
   | exact keys_ParseMsg.mono _ _
   | exact keys_Text.mono _ _ _ _ _ _
   | exact waybilllaw12_Tame.mono _ _ _ _ _ _
   | exact waybilllaw12_awake.mono _
   | exact waybillref7_Key.mono _ _ _ _ _ _
   | exact waybillref7_KeyOf.mono _ _
   | exact waybillref7_Msg.mono _ _ _ _ _ _
   | exact waybillref7_MsgOf.mono _ _
   | exact LeO.none _
   | refine LeO.ite ?_ ?_
   | refine LeO.bind ?_ (fun _ => ?_)
  ·
   intro y0 y1 y2 y3 y4 y5 y6 y7 y8 y9 y10 y11 y12 y13 y14 y15 y16 y17
   unfold waybilllaw12_KeysTells.j2
   repeat' first
   | (with_reducible exact ih0 _ _ _ _ _ _ _ _ _ _ _ _ _ _ _ _)
   | (with_reducible exact ih1 _ _ _ _ _ _ _ _ _ _ _ _ _ _ _ _)
   | (with_reducible exact ih2 _ _ _ _ _ _ _ _ _ _ _ _ _ _ _ _ _ _)
   | (with_reducible exact ih3 _ _ _ _ _ _ _ _ _ _ _ _ _ _ _ _ _ _)
   | (with_reducible exact ih4 _ _ _ _ _ _ _ _ _ _ _ _ _ _ _ _ _ _ _)
   | (with_reducible exact ih5 _ _ _ _)
   | (with_reducible exact ih6 _ _ _ _)
   | (with_reducible exact keys_Msg.mono _ _ _ _ _ _)
   | (with_reducible exact keys_Parse.mono _ _)
   | (with_reducible exact keys_ParseMsg.mono _ _)
   | (with_reducible exact keys_Text.mono _ _ _ _ _ _)
   | (with_reducible exact waybilllaw12_Tame.mono _ _ _ _ _ _)
   | (with_reducible exact waybilllaw12_awake.mono _)
   | (with_reducible exact waybillref7_Key.mono _ _ _ _ _ _)
   | (with_reducible exact waybillref7_KeyOf.mono _ _)
   | (with_reducible exact waybillref7_Msg.mono _ _ _ _ _ _)
   | (with_reducible exact waybillref7_MsgOf.mono _ _)
   | (with_reducible exact LeO.refl _)
   | (with_reducible exact LeO.none _)
   | (with_reducible refine LeO.ite ?_ ?_)
   | (with_reducible refine LeO.bind ?_ (fun _ => ?_))
   | exact ih0 _ _ _ _ _ _ _ _ _ _ _ _ _ _ _ _
   | exact ih1 _ _ _ _ _ _ _ _ _ _ _ _ _ _ _ _
   | exact ih2 _ _ _ _ _ _ _ _ _ _ _ _ _ _ _ _ _ _
   | exact ih3 _ _ _ _ _ _ _ _ _ _ _ _ _ _ _ _ _ _
   | exact ih4 _ _ _ _ _ _ _ _ _ _ _ _ _ _ _ _ _ _ _
   | exact ih5 _ _ _ _
   | exact ih6 _ _ _ _
   | exact keys_Msg.mono _ _ _ _ _ _
   | exact keys_Parse.mono _ _
   | exact keys_ParseMsg.mono _ _
   | exact keys_Text.mono _ _ _ _ _ _
   | exact waybilllaw12_Tame.mono _ _ _ _ _ _
   | exact waybilllaw12_awake.mono _
   | exact waybillref7_Key.mono _ _ _ _ _ _
   | exact waybillref7_KeyOf.mono _ _
   | exact waybillref7_Msg.mono _ _ _ _ _ _
   | exact waybillref7_MsgOf.mono _ _
   | exact LeO.none _
   | refine LeO.ite ?_ ?_
   | refine LeO.bind ?_ (fun _ => ?_)
  ·
   intro y0 y1 y2 y3 y4 y5 y6 y7 y8 y9 y10 y11 y12 y13 y14 y15 y16 y17
   unfold waybilllaw12_KeysTells.j3
   repeat' first
   | (with_reducible exact ih0 _ _ _ _ _ _ _ _ _ _ _ _ _ _ _ _)
   | (with_reducible exact ih1 _ _ _ _ _ _ _ _ _ _ _ _ _ _ _ _)
   | (with_reducible exact ih2 _ _ _ _ _ _ _ _ _ _ _ _ _ _ _ _ _ _)
   | (with_reducible exact ih3 _ _ _ _ _ _ _ _ _ _ _ _ _ _ _ _ _ _)
   | (with_reducible exact ih4 _ _ _ _ _ _ _ _ _ _ _ _ _ _ _ _ _ _ _)
   | (with_reducible exact ih5 _ _ _ _)
   | (with_reducible exact ih6 _ _ _ _)
   | (with_reducible exact keys_Msg.mono _ _ _ _ _ _)
   | (with_reducible exact keys_Parse.mono _ _)
   | (with_reducible exact keys_ParseMsg.mono _ _)
   | (with_reducible exact keys_Text.mono _ _ _ _ _ _)
   | (with_reducible exact waybilllaw12_Tame.mono _ _ _ _ _ _)
   | (with_reducible exact waybilllaw12_awake.mono _)
   | (with_reducible exact waybillref7_Key.mono _ _ _ _ _ _)
   | (with_reducible exact waybillref7_KeyOf.mono _ _)
   | (with_reducible exact waybillref7_Msg.mono _ _ _ _ _ _)
   | (with_reducible exact waybillref7_MsgOf.mono _ _)
   | (with_reducible exact LeO.refl _)
   | (with_reducible exact LeO.none _)
   | (with_reducible refine LeO.ite ?_ ?_)
   | (with_reducible refine LeO.bind ?_ (fun _ => ?_))
   | exact ih0 _ _ _ _ _ _ _ _ _ _ _ _ _ _ _ _
   | exact ih1 _ _ _ _ _ _ _ _ _ _ _ _ _ _ _ _
   | exact ih2 _ _ _ _ _ _ _ _ _ _ _ _ _ _ _ _ _ _
   | exact ih3 _ _ _ _ _ _ _ _ _ _ _ _ _ _ _ _ _ _
   | exact ih4 _ _ _ _ _ _ _ _ _ _ _ _ _ _ _ _ _ _ _
   | exact ih5 _ _ _ _
   | exact ih6 _ _ _ _
   | exact keys_Msg.mono _ _ _ _ _ _
   | exact keys_Parse.mono _ _
   | exact keys_ParseMsg.mono _ _
   | exact keys_Text.mono _ _ _ _ _ _
   | exact waybilllaw12_Tame.mono _ _ _ _ _ _
   | exact waybilllaw12_awake.mono _
   | exact waybillref7_Key.mono _ _ _ _ _ _
   | exact waybillref7_KeyOf.mono _ _
   | exact waybillref7_Msg.mono _ _ _ _ _ _
   | exact waybillref7_MsgOf.mono _ _
   | exact LeO.none _
   | refine LeO.ite ?_ ?_
   | refine LeO.bind ?_ (fun _ => ?_)
  ·
   intro y0 y1 y2 y3 y4 y5 y6 y7 y8 y9 y10 y11 y12 y13 y14 y15 y16 y17 y18
   unfold waybilllaw12_KeysTells.l1
   repeat' first
   | (with_reducible exact ih0 _ _ _ _ _ _ _ _ _ _ _ _ _ _ _ _)
   | (with_reducible exact ih1 _ _ _ _ _ _ _ _ _ _ _ _ _ _ _ _)
   | (with_reducible exact ih2 _ _ _ _ _ _ _ _ _ _ _ _ _ _ _ _ _ _)
   | (with_reducible exact ih3 _ _ _ _ _ _ _ _ _ _ _ _ _ _ _ _ _ _)
   | (with_reducible exact ih4 _ _ _ _ _ _ _ _ _ _ _ _ _ _ _ _ _ _ _)
   | (with_reducible exact ih5 _ _ _ _)
   | (with_reducible exact ih6 _ _ _ _)
   | (with_reducible exact keys_Msg.mono _ _ _ _ _ _)
   | (with_reducible exact keys_Parse.mono _ _)
   | (with_reducible exact keys_ParseMsg.mono _ _)
   | (with_reducible exact keys_Text.mono _ _ _ _ _ _)
   | (with_reducible exact waybilllaw12_Tame.mono _ _ _ _ _ _)
   | (with_reducible exact waybilllaw12_awake.mono _)
   | (with_reducible exact waybillref7_Key.mono _ _ _ _ _ _)
   | (with_reducible exact waybillref7_KeyOf.mono _ _)
   | (with_reducible exact waybillref7_Msg.mono _ _ _ _ _ _)
   | (with_reducible exact waybillref7_MsgOf.mono _ _)
   | (with_reducible exact LeO.refl _)
   | (with_reducible exact LeO.none _)
   | (with_reducible refine LeO.ite ?_ ?_)
   | (with_reducible refine LeO.bind ?_ (fun _ => ?_))
   | exact ih0 _ _ _ _ _ _ _ _ _ _ _ _ _ _ _ _
   | exact ih1 _ _ _ _ _ _ _ _ _ _ _ _ _ _ _ _
   | exact ih2 _ _ _ _ _ _ _ _ _ _ _ _ _ _ _ _ _ _
   | exact ih3 _ _ _ _ _ _ _ _ _ _ _ _ _ _ _ _ _ _
   | exact ih4 _ _ _ _ _ _ _ _ _ _ _ _ _ _ _ _ _ _ _
   | exact ih5 _ _ _ _
   | exact ih6 _ _ _ _
   | exact keys_Msg.mono _ _ _ _ _ _
   | exact keys_Parse.mono _ _
   | exact keys_ParseMsg.mono _ _
   | exact keys_Text.mono _ _ _ _ _ _
   | exact waybilllaw12_Tame.mono _ _ _ _ _ _
   | exact waybilllaw12_awake.mono _
   | exact waybillref7_Key.mono _ _ _ _ _ _
   | exact waybillref7_KeyOf.mono _ _
   | exact waybillref7_Msg.mono _ _ _ _ _ _
   | exact waybillref7_MsgOf.mono _ _
   | exact LeO.none _
   | refine LeO.ite ?_ ?_
   | refine LeO.bind ?_ (fun _ => ?_)
  ·
   intro y0 y1 y2 y3
   unfold waybilllaw12_KeysTells.j5
   repeat' first
   | (with_reducible exact ih0 _ _ _ _ _ _ _ _ _ _ _ _ _ _ _ _)
   | (with_reducible exact ih1 _ _ _ _ _ _ _ _ _ _ _ _ _ _ _ _)
   | (with_reducible exact ih2 _ _ _ _ _ _ _ _ _ _ _ _ _ _ _ _ _ _)
   | (with_reducible exact ih3 _ _ _ _ _ _ _ _ _ _ _ _ _ _ _ _ _ _)
   | (with_reducible exact ih4 _ _ _ _ _ _ _ _ _ _ _ _ _ _ _ _ _ _ _)
   | (with_reducible exact ih5 _ _ _ _)
   | (with_reducible exact ih6 _ _ _ _)
   | (with_reducible exact keys_Msg.mono _ _ _ _ _ _)
   | (with_reducible exact keys_Parse.mono _ _)
   | (with_reducible exact keys_ParseMsg.mono _ _)
   | (with_reducible exact keys_Text.mono _ _ _ _ _ _)
   | (with_reducible exact waybilllaw12_Tame.mono _ _ _ _ _ _)
   | (with_reducible exact waybilllaw12_awake.mono _)
   | (with_reducible exact waybillref7_Key.mono _ _ _ _ _ _)
   | (with_reducible exact waybillref7_KeyOf.mono _ _)
   | (with_reducible exact waybillref7_Msg.mono _ _ _ _ _ _)
   | (with_reducible exact waybillref7_MsgOf.mono _ _)
   | (with_reducible exact LeO.refl _)
   | (with_reducible exact LeO.none _)
   | (with_reducible refine LeO.ite ?_ ?_)
   | (with_reducible refine LeO.bind ?_ (fun _ => ?_))
   | exact ih0 _ _ _ _ _ _ _ _ _ _ _ _ _ _ _ _
   | exact ih1 _ _ _ _ _ _ _ _ _ _ _ _ _ _ _ _
   | exact ih2 _ _ _ _ _ _ _ _ _ _ _ _ _ _ _ _ _ _
   | exact ih3 _ _ _ _ _ _ _ _ _ _ _ _ _ _ _ _ _ _
   | exact ih4 _ _ _ _ _ _ _ _ _ _ _ _ _ _ _ _ _ _ _
   | exact ih5 _ _ _ _
   | exact ih6 _ _ _ _
   | exact keys_Msg.mono _ _ _ _ _ _
   | exact keys_Parse.mono _ _
   | exact keys_ParseMsg.mono _ _
   | exact keys_Text.mono _ _ _ _ _ _
   | exact waybilllaw12_Tame.mono _ _ _ _ _ _
   | exact waybilllaw12_awake.mono _
   | exact waybillref7_Key.mono _ _ _ _ _ _
   | exact waybillref7_KeyOf.mono _ _
   | exact waybillref7_Msg.mono _ _ _ _ _ _
   | exact waybillref7_MsgOf.mono _ _
   | exact LeO.none _
   | refine LeO.ite ?_ ?_
   | refine LeO.bind ?_ (fun _ => ?_)
  ·
   intro y0 y1 y2 y3
   unfold waybilllaw12_KeysTells.l2
   repeat' first
   | (with_reducible exact ih0 _ _ _ _ _ _ _ _ _ _ _ _ _ _ _ _)
   | (with_reducible exact ih1 _ _ _ _ _ _ _ _ _ _ _ _ _ _ _ _)
   | (with_reducible exact ih2 _ _ _ _ _ _ _ _ _ _ _ _ _ _ _ _ _ _)
   | (with_reducible exact ih3 _ _ _ _ _ _ _ _ _ _ _ _ _ _ _ _ _ _)
   | (with_reducible exact ih4 _ _ _ _ _ _ _ _ _ _ _ _ _ _ _ _ _ _ _)
   | (with_reducible exact ih5 _ _ _ _)
   | (with_reducible exact ih6 _ _ _ _)
   | (with_reducible exact keys_Msg.mono _ _ _ _ _ _)
   | (with_reducible exact keys_Parse.mono _ _)
   | (with_reducible exact keys_ParseMsg.mono _ _)
   | (with_reducible exact keys_Text.mono _ _ _ _ _ _)
   | (with_reducible exact waybilllaw12_Tame.mono _ _ _ _ _ _)
   | (with_reducible exact waybilllaw12_awake.mono _)
   | (with_reducible exact waybillref7_Key.mono _ _ _ _ _ _)
   | (with_reducible exact waybillref7_KeyOf.mono _ _)
   | (with_reducible exact waybillref7_Msg.mono _ _ _ _ _ _)
   | (with_reducible exact waybillref7_MsgOf.mono _ _)
   | (with_reducible exact LeO.refl _)
   | (with_reducible exact LeO.none _)
   | (with_reducible refine LeO.ite ?_ ?_)
   | (with_reducible refine LeO.bind ?_ (fun _ => ?_))
   | exact ih0 _ _ _ _ _ _ _ _ _ _ _ _ _ _ _ _
   | exact ih1 _ _ _ _ _ _ _ _ _ _ _ _ _ _ _ _
   | exact ih2 _ _ _ _ _ _ _ _ _ _ _ _ _ _ _ _ _ _
   | exact ih3 _ _ _ _ _ _ _ _ _ _ _ _ _ _ _ _ _ _
   | exact ih4 _ _ _ _ _ _ _ _ _ _ _ _ _ _ _ _ _ _ _
   | exact ih5 _ _ _ _
   | exact ih6 _ _ _ _
   | exact keys_Msg.mono _ _ _ _ _ _
   | exact keys_Parse.mono _ _
   | exact keys_ParseMsg.mono _ _
   | exact keys_Text.mono _ _ _ _ _ _
   | exact waybilllaw12_Tame.mono _ _ _ _ _ _
   | exact waybilllaw12_awake.mono _
   | exact waybillref7_Key.mono _ _ _ _ _ _
   | exact waybillref7_KeyOf.mono _ _
   | exact waybillref7_Msg.mono _ _ _ _ _ _
   | exact waybillref7_MsgOf.mono _ _
   | exact LeO.none _
   | refine LeO.ite ?_ ?_
   | refine LeO.bind ?_ (fun _ => ?_)
theorem waybilllaw12_KeysTells.mono : ∀ a0 a1 a2 a3 a4 a5 a6 a7 a8 a9 a10 a11 a12 a13 a14 k, LeO (waybilllaw12_KeysTells.f k a0 a1 a2 a3 a4 a5 a6 a7 a8 a9 a10 a11 a12 a13 a14) (waybilllaw12_KeysTells.f (k + 1) a0 a1 a2 a3 a4 a5 a6 a7 a8 a9 a10 a11 a12 a13 a14) := by
 intro a0 a1 a2 a3 a4 a5 a6 a7 a8 a9 a10 a11 a12 a13 a14 k
 obtain ⟨ih0, ih1, ih2, ih3, ih4, ih5, ih6⟩ := waybilllaw12_KeysTells.mono_l k
 unfold waybilllaw12_KeysTells.f
 repeat' first
   | (with_reducible exact ih0 _ _ _ _ _ _ _ _ _ _ _ _ _ _ _ _)
   | (with_reducible exact ih1 _ _ _ _ _ _ _ _ _ _ _ _ _ _ _ _)
   | (with_reducible exact ih2 _ _ _ _ _ _ _ _ _ _ _ _ _ _ _ _ _ _)
   | (with_reducible exact ih3 _ _ _ _ _ _ _ _ _ _ _ _ _ _ _ _ _ _)
   | (with_reducible exact ih4 _ _ _ _ _ _ _ _ _ _ _ _ _ _ _ _ _ _ _)
   | (with_reducible exact ih5 _ _ _ _)
   | (with_reducible exact ih6 _ _ _ _)
   | (with_reducible exact keys_Msg.mono _ _ _ _ _ _)
   | (with_reducible exact keys_Parse.mono _ _)
   | (with_reducible exact keys_ParseMsg.mono _ _)
   | (with_reducible exact keys_Text.mono _ _ _ _ _ _)
   | (with_reducible exact waybilllaw12_Tame.mono _ _ _ _ _ _)
   | (with_reducible exact waybilllaw12_awake.mono _)
   | (with_reducible exact waybillref7_Key.mono _ _ _ _ _ _)
   | (with_reducible exact waybillref7_KeyOf.mono _ _)
   | (with_reducible exact waybillref7_Msg.mono _ _ _ _ _ _)
   | (with_reducible exact waybillref7_MsgOf.mono _ _)
   | (with_reducible exact LeO.refl _)
   | (with_reducible exact LeO.none _)
   | (with_reducible refine LeO.ite ?_ ?_)
   | (with_reducible refine LeO.bind ?_ (fun _ => ?_))
   | exact ih0 _ _ _ _ _ _ _ _ _ _ _ _ _ _ _ _
   | exact ih1 _ _ _ _ _ _ _ _ _ _ _ _ _ _ _ _
   | exact ih2 _ _ _ _ _ _ _ _ _ _ _ _ _ _ _ _ _ _
   | exact ih3 _ _ _ _ _ _ _ _ _ _ _ _ _ _ _ _ _ _
   | exact ih4 _ _ _ _ _ _ _ _ _ _ _ _ _ _ _ _ _ _ _
   | exact ih5 _ _ _ _
   | exact ih6 _ _ _ _
   | exact keys_Msg.mono _ _ _ _ _ _
   | exact keys_Parse.mono _ _
   | exact keys_ParseMsg.mono _ _
   | exact keys_Text.mono _ _ _ _ _ _
   | exact waybilllaw12_Tame.mono _ _ _ _ _ _
   | exact waybilllaw12_awake.mono _
   | exact waybillref7_Key.mono _ _ _ _ _ _
   | exact waybillref7_KeyOf.mono _ _
   | exact waybillref7_Msg.mono _ _ _ _ _ _
   | exact waybillref7_MsgOf.mono _ _
   | exact LeO.none _
   | refine LeO.ite ?_ ?_
   | refine LeO.bind ?_ (fun _ => ?_)
def waybilllaw12_KeysTells.T16 : Bool × List (List Nat × List Nat) := (true, [([], []), ([], []), ([1], [1]), ([], []), ([], []), ([4], [4]), ([], []), ([6], [6]), ([7], [7]), ([5, 8], [5, 8]), ([3, 9], [3, 9]), ([], []), ([], []), ([11, 12], [11, 12]), ([0, 2, 10, 13], [0, 2, 10, 13]), ([], []), ([14, 15], [14, 15]), ([16], [16]), ([17, 0, 1, 2, 3, 4, 5, 6, 7, 8, 9, 10, 11, 12, 13, 14, 15, 16, 17], [17])])
def waybilllaw12_KeysTells.B16 : List Nat := [0, 0, 2, 0, 0, 16, 0, 64, 192, 496, 1016, 0, 0, 6144, 16383, 0, 65535, 131071, 262143]
theorem waybilllaw12_KeysTells.tab16 : rtab .any (opsOf Try.f11 16) = waybilllaw12_KeysTells.T16 := by kernel_rfl
theorem waybilllaw12_KeysTells.bits16 : waitsOk waybilllaw12_KeysTells.T16.2 waybilllaw12_KeysTells.B16 = true := by kernel_rfl
set_option maxHeartbeats 8000000 in
set_option maxRecDepth 100000 in
theorem waybilllaw12_KeysTells.calls (k : Nat) (a0_0 : Int) (a0_1 : ByteArray) (a0_2 : ByteArray) (a0_3 : ByteArray) (a0_4 : Int) (a1 : ByteArray) (a2 : Int) (a3 : Int) (a4 : Int) (a5_0 : ByteArray) (a5_1 : ByteArray) (a5_2 : ByteArray) (a5_3 : Int) (A5_4 : Option Addr) (c5_4 : Nat) (l5_4 : List Int) (P6_ : Nat → Prop) (A6 : Option Addr) (c6 : Nat) (l6 : List Int) (r : Bool) (w : World) (hr5_4 : Kd.C (Kd.int .u8) w A5_4 l5_4.length l5_4) (hc5_4 : l5_4.length ≤ c5_4) (hs6 : Kd.V (Kd.int .u8) 5 w w.heap.size (fun k_ => P6_ k_) (.slice A6 l6.length c6) l6) (h : waybilllaw12_KeysTells.f k a0_0 a0_1 a0_2 a0_3 a0_4 a1 a2 a3 a4 a5_0 a5_1 a5_2 a5_3 l5_4 l6 = some r) :
  Calls Try.prog 11 #[.agg #[.int .i64 a0_0, .string a0_1, .string a0_2, .string a0_3, .int .u64 a0_4], .string a1, .int .i64 a2, .int .u8 a3, .int .i64 a4, .agg #[.string a5_0, .string a5_1, .string a5_2, .int .i64 a5_3, .slice A5_4 l5_4.length c5_4], .slice A6 l6.length c6] w fun e w' => e = .returned (.bool r) ∧ Below w.heap.size w w' := by
 have hu74 := Try.underlying74
 have hu77 := Try.underlying77
 have HR5_4 := Aside0.mk hr5_4
 have HC5_4 := Aside0.mk hc5_4
 clear hr5_4 hc5_4
 have HO6 := Aside0.mk (show Kd.V (Kd.int .u8) 5 w w.heap.size (fun k_ => (P6_ k_ ∨ w.heap.size ≤ k_)) (.slice A6 l6.length c6) l6 from Kd.V_mono hs6 (fun k_ hk => .inl hk))
 have HB := Aside0.mk (Below.refl w.heap.size w)
 have H : (if (a1.size : Int) > 400 then (waybilllaw12_KeysTells.j0 k a1 a2 a3 a4 l6 true a0_0 a0_1 a0_2 a0_3 a0_4 a5_0 a5_1 a5_2 a5_3 l5_4) else (if (wrap64 ((wrap64 ((a0_1.size : Int) + (a0_2.size : Int))) + (a0_3.size : Int))) > 600 then (waybilllaw12_KeysTells.j0 k a1 a2 a3 a4 l6 true a0_0 a0_1 a0_2 a0_3 a0_4 a5_0 a5_1 a5_2 a5_3 l5_4) else (if (wrap64 ((wrap64 ((a5_0.size : Int) + (a5_1.size : Int))) + (a5_2.size : Int))) > 600 then (waybilllaw12_KeysTells.j0 k a1 a2 a3 a4 l6 true a0_0 a0_1 a0_2 a0_3 a0_4 a5_0 a5_1 a5_2 a5_3 l5_4) else (if (l5_4.length : Int) > 11000 then (waybilllaw12_KeysTells.j0 k a1 a2 a3 a4 l6 true a0_0 a0_1 a0_2 a0_3 a0_4 a5_0 a5_1 a5_2 a5_3 l5_4) else (waybilllaw12_KeysTells.j0 k a1 a2 a3 a4 l6 (decide ((l6.length : Int) > 400)) a0_0 a0_1 a0_2 a0_3 a0_4 a5_0 a5_1 a5_2 a5_3 l5_4))))) = some r := h
 clear h
 have HC8 := Aside0.mk H
 clear H
 go_enter Try.func11, Try.ntmps11
 go_upto_region 1 with (first | ((with_reducible refine gate_dst (N := 7) rfl ?_); (try (refine gate_guard (by rfl) ?_; dsimp only)); refine box_event ?hg (N := 7) ?hd (cs := #[.int .i64 a0_0, .string a0_1, .string a0_2, .string a0_3, .int .u64 a0_4]) (t := 74) ?hr ?_; (case hd => rfl); (case hg => rfl); (case hr => first | (go_simp; done) | (go_simp; rfl)); intro gb346 hg w9 hbox hb; have n0_ := Aside0.mk (Kd.V_below (Kd.V_elderB (by exact HO6.out) gb346 (Nat.le_of_eq hg.symm)) hb); have n1_ := Aside0.mk (below_step (by repeat (with_reducible first | exact HB.out | apply below_alloc | apply pw_below_drewN | apply below_drew1)) hb); have n2_ := Aside0.mk (hbox); have n3_ := Aside0.mk ((by rw [hg]; exact (below_size (by repeat (with_reducible first | exact HB.out | apply below_alloc | apply pw_below_drewN | apply below_drew1))) : w.heap.size ≤ gb346)); have n4_ := Aside0.mk ((by rw [hg]; exact (below_size (by repeat (with_reducible first | exact HB.out | apply below_alloc | apply pw_below_drewN | apply below_drew1))) : w.heap.size ≤ gb346)); clear HO6; clear HB; have HO6 := n0_; have HB := n1_; have BK346 := n2_; have GW346 := n3_; have GE346 := n4_; clear n0_ n1_ n2_ n3_ n4_; clear hb hbox hg) | ((with_reducible refine gate_dst (N := 12) rfl ?_); (try (refine gate_guard (by rfl) ?_; dsimp only)); refine box_event ?hg (N := 12) ?hd (cs := #[.string a5_0, .string a5_1, .string a5_2, .int .i64 a5_3, .slice A5_4 l5_4.length c5_4]) (t := 77) ?hr ?_; (case hd => rfl); (case hg => rfl); (case hr => first | (go_simp; done) | (go_simp; rfl)); intro gb347 hg w10 hbox hb; have n0_ := Aside0.mk (Kd.V_below (Kd.V_elderB (by exact HO6.out) gb347 (Nat.le_of_eq hg.symm)) hb); have n1_ := Aside0.mk (blk_below (g := gb346) (o := .cells #[.int .i64 a0_0, .string a0_1, .string a0_2, .string a0_3, .int .u64 a0_4] 74 (0, 0)) (by exact BK346.out) hb); have n2_ := Aside0.mk (below_step (by repeat (with_reducible first | exact HB.out | apply below_alloc | apply pw_below_drewN | apply below_drew1 | refine below_set ?_ GE346.out)) hb); have n3_ := Aside0.mk (hbox); have n4_ := Aside0.mk ((by rw [hg]; exact (below_size (by repeat (with_reducible first | exact HB.out | apply below_alloc | apply pw_below_drewN | apply below_drew1 | refine below_set ?_ GE346.out))) : w.heap.size ≤ gb347)); have n5_ := Aside0.mk ((by rw [hg]; exact (below_size (by repeat (with_reducible first | exact HB.out | apply below_alloc | apply pw_below_drewN | apply below_drew1 | refine below_set ?_ GE346.out))) : w.heap.size ≤ gb347)); have n6_ := Aside0.mk ((by rw [hg]; exact Nat.ne_of_lt (blk_lt (g := gb346) (o := .cells #[.int .i64 a0_0, .string a0_1, .string a0_2, .string a0_3, .int .u64 a0_4] 74 (0, 0)) (by exact BK346.out)) : gb346 ≠ gb347)); have n7_ := Aside0.mk ((by rw [hg]; exact Nat.ne_of_gt (blk_lt (g := gb346) (o := .cells #[.int .i64 a0_0, .string a0_1, .string a0_2, .string a0_3, .int .u64 a0_4] 74 (0, 0)) (by exact BK346.out)) : gb347 ≠ gb346)); clear HO6; clear BK346; clear HB; have HO6 := n0_; have BK346 := n1_; have HB := n2_; have BK347 := n3_; have GW347 := n4_; have GE347 := n5_; have NB346_347 := n6_; have NB347_346 := n7_; clear n0_ n1_ n2_ n3_ n4_ n5_ n6_ n7_; clear hb hbox hg))
 (try simp only [Act.put, List.setIfInBounds_toArray, List.set_cons_zero, List.set_cons_succ])
 go_cut [78] (fun v78 wc => ∃ (kq : Nat) (x78_7 : Bool), v78 = .bool x78_7 ∧ Aside0 (waybilllaw12_KeysTells.j0 kq a1 a2 a3 a4 l6 x78_7 a0_0 a0_1 a0_2 a0_3 a0_4 a5_0 a5_1 a5_2 a5_3 l5_4 = some r) ∧ Aside0 (kq ≤ k) ∧ Aside0 (Kd.V (Kd.int .u8) 5 wc w.heap.size (fun k_ => (P6_ k_ ∨ w.heap.size ≤ k_) ∧ k_ ≠ gb346 ∧ k_ ≠ gb347) (.slice A6 l6.length c6) l6) ∧ Aside0 (wc.heap[gb346]? = some (.cells #[.int .i64 a0_0, .string a0_1, .string a0_2, .string a0_3, .int .u64 a0_4] 74 (0, 0))) ∧ Aside0 (wc.heap[gb347]? = some (.cells #[.string a5_0, .string a5_1, .string a5_2, .int .i64 a5_3, (.slice A5_4 l5_4.length c5_4)] 77 (0, 0))) ∧ Aside0 (Below w.heap.size w wc))
 case first =>
  have H := HC8.out
  clear HC8
  by_cases c11 : (a1.size : Int) > 400
  ·
   rw [if_pos c11] at H
   have c11b0 : decide (400 < (a1.size : Int)) = true := decide_eq_true c11
   have c11b1 : decide (400 < a1.size) = true := decide_eq_true (by omega)
   clear c11
   (first | rw [c11b0] | rw [c11b2] | rw [c11b1] | (simp only [i64_w, i32_w]; rw [c11b0]) | skip)
   have H' := Aside0.mk H
   clear H
   go_wp2
   go_meet
   case rel => exact ⟨_, (true), (by first | rfl | (simp; done) | (simp [*]; done)), H', ⟨by first | omega | exact Nat.le_refl _⟩, ⟨by exact Kd.V_mono HO6.out (fun _ hk => ⟨hk.1.1, ⟨hk.1.2, hk.2⟩⟩)⟩, ⟨by exact BK346.out⟩, ⟨by exact BK347.out⟩, ⟨by repeat (with_reducible first | exact HB.out | apply below_alloc | apply pw_below_drewN | apply below_drew1 | refine below_set ?_ GE346.out | refine below_set ?_ GE347.out)⟩⟩
  ·
   rw [if_neg c11] at H
   have c11b0 : decide (400 < (a1.size : Int)) = false := decide_eq_false c11
   have c11b1 : decide (400 < a1.size) = false := decide_eq_false (by omega)
   clear c11
   (first | rw [c11b0] | rw [c11b2] | rw [c11b1] | (simp only [i64_w, i32_w]; rw [c11b0]) | skip)
   by_cases c12 : (wrap64 ((wrap64 ((a0_1.size : Int) + (a0_2.size : Int))) + (a0_3.size : Int))) > 600
   ·
    rw [if_pos c12] at H
    have c12b0 : decide (600 < (wrap64 ((wrap64 ((a0_1.size : Int) + (a0_2.size : Int))) + (a0_3.size : Int)))) = true := decide_eq_true c12
    clear c12
    have H' := Aside0.mk H
    clear H
    have hnb13 := NB346_347.out
    have hnc13 := NB347_346.out
    have hcz14_0 : w10.cell? ⟨gb346, 0, none⟩ = some (.int .i64 a0_0) := (blk_cell BK346.out 0).trans rfl
    have hcz14_1 : w10.cell? ⟨gb346, 1, none⟩ = some (.string a0_1) := (blk_cell BK346.out 1).trans rfl
    have hcz14_2 : w10.cell? ⟨gb346, 2, none⟩ = some (.string a0_2) := (blk_cell BK346.out 2).trans rfl
    have hcz14_3 : w10.cell? ⟨gb346, 3, none⟩ = some (.string a0_3) := (blk_cell BK346.out 3).trans rfl
    have hcz14_4 : w10.cell? ⟨gb346, 4, none⟩ = some (.int .u64 a0_4) := (blk_cell BK346.out 4).trans rfl
    have hfz14_0 := blk_frozen BK346.out 0
    have hfz14_1 := blk_frozen BK346.out 1
    have hfz14_2 := blk_frozen BK346.out 2
    have hfz14_3 := blk_frozen BK346.out 3
    have hfz14_4 := blk_frozen BK346.out 4
    go_wp2
    go_meet
    case rel => exact ⟨_, (true), (by first | rfl | (simp; done) | (simp [*]; done)), H', ⟨by first | omega | exact Nat.le_refl _⟩, ⟨by exact Kd.V_mono HO6.out (fun _ hk => ⟨hk.1.1, ⟨hk.1.2, hk.2⟩⟩)⟩, ⟨by exact BK346.out⟩, ⟨by exact BK347.out⟩, ⟨by repeat (with_reducible first | exact HB.out | apply below_alloc | apply pw_below_drewN | apply below_drew1 | refine below_set ?_ GE346.out | refine below_set ?_ GE347.out)⟩⟩
   ·
    rw [if_neg c12] at H
    have c12b0 : decide (600 < (wrap64 ((wrap64 ((a0_1.size : Int) + (a0_2.size : Int))) + (a0_3.size : Int)))) = false := decide_eq_false c12
    clear c12
    by_cases c15 : (wrap64 ((wrap64 ((a5_0.size : Int) + (a5_1.size : Int))) + (a5_2.size : Int))) > 600
    ·
     rw [if_pos c15] at H
     have c15b0 : decide (600 < (wrap64 ((wrap64 ((a5_0.size : Int) + (a5_1.size : Int))) + (a5_2.size : Int)))) = true := decide_eq_true c15
     clear c15
     have H' := Aside0.mk H
     clear H
     have hnb16 := NB346_347.out
     have hnc16 := NB347_346.out
     have hcz17_0 : w10.cell? ⟨gb346, 0, none⟩ = some (.int .i64 a0_0) := (blk_cell BK346.out 0).trans rfl
     have hcz17_1 : w10.cell? ⟨gb346, 1, none⟩ = some (.string a0_1) := (blk_cell BK346.out 1).trans rfl
     have hcz17_2 : w10.cell? ⟨gb346, 2, none⟩ = some (.string a0_2) := (blk_cell BK346.out 2).trans rfl
     have hcz17_3 : w10.cell? ⟨gb346, 3, none⟩ = some (.string a0_3) := (blk_cell BK346.out 3).trans rfl
     have hcz17_4 : w10.cell? ⟨gb346, 4, none⟩ = some (.int .u64 a0_4) := (blk_cell BK346.out 4).trans rfl
     have hfz17_0 := blk_frozen BK346.out 0
     have hfz17_1 := blk_frozen BK346.out 1
     have hfz17_2 := blk_frozen BK346.out 2
     have hfz17_3 := blk_frozen BK346.out 3
     have hfz17_4 := blk_frozen BK346.out 4
     have hcz18_0 : w10.cell? ⟨gb347, 0, none⟩ = some (.string a5_0) := (blk_cell BK347.out 0).trans rfl
     have hcz18_1 : w10.cell? ⟨gb347, 1, none⟩ = some (.string a5_1) := (blk_cell BK347.out 1).trans rfl
     have hcz18_2 : w10.cell? ⟨gb347, 2, none⟩ = some (.string a5_2) := (blk_cell BK347.out 2).trans rfl
     have hcz18_3 : w10.cell? ⟨gb347, 3, none⟩ = some (.int .i64 a5_3) := (blk_cell BK347.out 3).trans rfl
     have hcz18_4 : w10.cell? ⟨gb347, 4, none⟩ = some (.slice A5_4 l5_4.length c5_4) := (blk_cell BK347.out 4).trans rfl
     have hfz18_0 := blk_frozen BK347.out 0
     have hfz18_1 := blk_frozen BK347.out 1
     have hfz18_2 := blk_frozen BK347.out 2
     have hfz18_3 := blk_frozen BK347.out 3
     have hfz18_4 := blk_frozen BK347.out 4
     go_wp2
     go_meet
     case rel => exact ⟨_, (true), (by first | rfl | (simp; done) | (simp [*]; done)), H', ⟨by first | omega | exact Nat.le_refl _⟩, ⟨by exact Kd.V_mono HO6.out (fun _ hk => ⟨hk.1.1, ⟨hk.1.2, hk.2⟩⟩)⟩, ⟨by exact BK346.out⟩, ⟨by exact BK347.out⟩, ⟨by repeat (with_reducible first | exact HB.out | apply below_alloc | apply pw_below_drewN | apply below_drew1 | refine below_set ?_ GE346.out | refine below_set ?_ GE347.out)⟩⟩
    ·
     rw [if_neg c15] at H
     have c15b0 : decide (600 < (wrap64 ((wrap64 ((a5_0.size : Int) + (a5_1.size : Int))) + (a5_2.size : Int)))) = false := decide_eq_false c15
     clear c15
     by_cases c19 : (l5_4.length : Int) > 11000
     ·
      rw [if_pos c19] at H
      have c19b0 : decide (11000 < (l5_4.length : Int)) = true := decide_eq_true c19
      have c19b1 : decide (11000 < l5_4.length) = true := decide_eq_true (by omega)
      clear c19
      have H' := Aside0.mk H
      clear H
      have hnb20 := NB346_347.out
      have hnc20 := NB347_346.out
      have hcz21_0 : w10.cell? ⟨gb346, 0, none⟩ = some (.int .i64 a0_0) := (blk_cell BK346.out 0).trans rfl
      have hcz21_1 : w10.cell? ⟨gb346, 1, none⟩ = some (.string a0_1) := (blk_cell BK346.out 1).trans rfl
      have hcz21_2 : w10.cell? ⟨gb346, 2, none⟩ = some (.string a0_2) := (blk_cell BK346.out 2).trans rfl
      have hcz21_3 : w10.cell? ⟨gb346, 3, none⟩ = some (.string a0_3) := (blk_cell BK346.out 3).trans rfl
      have hcz21_4 : w10.cell? ⟨gb346, 4, none⟩ = some (.int .u64 a0_4) := (blk_cell BK346.out 4).trans rfl
      have hfz21_0 := blk_frozen BK346.out 0
      have hfz21_1 := blk_frozen BK346.out 1
      have hfz21_2 := blk_frozen BK346.out 2
      have hfz21_3 := blk_frozen BK346.out 3
      have hfz21_4 := blk_frozen BK346.out 4
      have hcz22_0 : w10.cell? ⟨gb347, 0, none⟩ = some (.string a5_0) := (blk_cell BK347.out 0).trans rfl
      have hcz22_1 : w10.cell? ⟨gb347, 1, none⟩ = some (.string a5_1) := (blk_cell BK347.out 1).trans rfl
      have hcz22_2 : w10.cell? ⟨gb347, 2, none⟩ = some (.string a5_2) := (blk_cell BK347.out 2).trans rfl
      have hcz22_3 : w10.cell? ⟨gb347, 3, none⟩ = some (.int .i64 a5_3) := (blk_cell BK347.out 3).trans rfl
      have hcz22_4 : w10.cell? ⟨gb347, 4, none⟩ = some (.slice A5_4 l5_4.length c5_4) := (blk_cell BK347.out 4).trans rfl
      have hfz22_0 := blk_frozen BK347.out 0
      have hfz22_1 := blk_frozen BK347.out 1
      have hfz22_2 := blk_frozen BK347.out 2
      have hfz22_3 := blk_frozen BK347.out 3
      have hfz22_4 := blk_frozen BK347.out 4
      go_wp2
      go_meet
      case rel => exact ⟨_, (true), (by first | rfl | (simp; done) | (simp [*]; done)), H', ⟨by first | omega | exact Nat.le_refl _⟩, ⟨by exact Kd.V_mono HO6.out (fun _ hk => ⟨hk.1.1, ⟨hk.1.2, hk.2⟩⟩)⟩, ⟨by exact BK346.out⟩, ⟨by exact BK347.out⟩, ⟨by repeat (with_reducible first | exact HB.out | apply below_alloc | apply pw_below_drewN | apply below_drew1 | refine below_set ?_ GE346.out | refine below_set ?_ GE347.out)⟩⟩
     ·
      rw [if_neg c19] at H
      have c19b0 : decide (11000 < (l5_4.length : Int)) = false := decide_eq_false c19
      have c19b1 : decide (11000 < l5_4.length) = false := decide_eq_false (by omega)
      clear c19
      have H' := Aside0.mk H
      clear H
      have hnb23 := NB346_347.out
      have hnc23 := NB347_346.out
      have hcz24_0 : w10.cell? ⟨gb346, 0, none⟩ = some (.int .i64 a0_0) := (blk_cell BK346.out 0).trans rfl
      have hcz24_1 : w10.cell? ⟨gb346, 1, none⟩ = some (.string a0_1) := (blk_cell BK346.out 1).trans rfl
      have hcz24_2 : w10.cell? ⟨gb346, 2, none⟩ = some (.string a0_2) := (blk_cell BK346.out 2).trans rfl
      have hcz24_3 : w10.cell? ⟨gb346, 3, none⟩ = some (.string a0_3) := (blk_cell BK346.out 3).trans rfl
      have hcz24_4 : w10.cell? ⟨gb346, 4, none⟩ = some (.int .u64 a0_4) := (blk_cell BK346.out 4).trans rfl
      have hfz24_0 := blk_frozen BK346.out 0
      have hfz24_1 := blk_frozen BK346.out 1
      have hfz24_2 := blk_frozen BK346.out 2
      have hfz24_3 := blk_frozen BK346.out 3
      have hfz24_4 := blk_frozen BK346.out 4
      have hcz25_0 : w10.cell? ⟨gb347, 0, none⟩ = some (.string a5_0) := (blk_cell BK347.out 0).trans rfl
      have hcz25_1 : w10.cell? ⟨gb347, 1, none⟩ = some (.string a5_1) := (blk_cell BK347.out 1).trans rfl
      have hcz25_2 : w10.cell? ⟨gb347, 2, none⟩ = some (.string a5_2) := (blk_cell BK347.out 2).trans rfl
      have hcz25_3 : w10.cell? ⟨gb347, 3, none⟩ = some (.int .i64 a5_3) := (blk_cell BK347.out 3).trans rfl
      have hcz25_4 : w10.cell? ⟨gb347, 4, none⟩ = some (.slice A5_4 l5_4.length c5_4) := (blk_cell BK347.out 4).trans rfl
      have hfz25_0 := blk_frozen BK347.out 0
      have hfz25_1 := blk_frozen BK347.out 1
      have hfz25_2 := blk_frozen BK347.out 2
      have hfz25_3 := blk_frozen BK347.out 3
      have hfz25_4 := blk_frozen BK347.out 4
      go_wp2
      go_meet
      case rel => exact ⟨_, (decide ((l6.length : Int) > 400)), (by first | rfl | (simp; done) | (simp [*]; done)), H', ⟨by first | omega | exact Nat.le_refl _⟩, ⟨by exact Kd.V_mono HO6.out (fun _ hk => ⟨hk.1.1, ⟨hk.1.2, hk.2⟩⟩)⟩, ⟨by exact BK346.out⟩, ⟨by exact BK347.out⟩, ⟨by repeat (with_reducible first | exact HB.out | apply below_alloc | apply pw_below_drewN | apply below_drew1 | refine below_set ?_ GE346.out | refine below_set ?_ GE347.out)⟩⟩
 case rest =>
  clear HC8
  (try clear c1); (try clear c2); (try clear p2); (try clear c5); (try clear c6); (try clear p6); (try clear c11); (try clear c11b0); (try clear c11b1); (try clear c12); (try clear c12b0); (try clear c13); (try clear c15); (try clear c15b0); (try clear c16); (try clear c19); (try clear c19b0); (try clear c19b1); (try clear c20); (try clear c23); (try clear hcz14_0); (try clear hcz14_1); (try clear hcz14_2); (try clear hcz14_3); (try clear hcz14_4); (try clear hcz17_0); (try clear hcz17_1); (try clear hcz17_2); (try clear hcz17_3); (try clear hcz17_4); (try clear hcz18_0); (try clear hcz18_1); (try clear hcz18_2); (try clear hcz18_3); (try clear hcz18_4); (try clear hcz21_0); (try clear hcz21_1); (try clear hcz21_2); (try clear hcz21_3); (try clear hcz21_4); (try clear hcz22_0); (try clear hcz22_1); (try clear hcz22_2); (try clear hcz22_3); (try clear hcz22_4); (try clear hcz24_0); (try clear hcz24_1); (try clear hcz24_2); (try clear hcz24_3); (try clear hcz24_4); (try clear hcz25_0); (try clear hcz25_1); (try clear hcz25_2); (try clear hcz25_3); (try clear hcz25_4); (try clear hfz14_0); (try clear hfz14_1); (try clear hfz14_2); (try clear hfz14_3); (try clear hfz14_4); (try clear hfz17_0); (try clear hfz17_1); (try clear hfz17_2); (try clear hfz17_3); (try clear hfz17_4); (try clear hfz18_0); (try clear hfz18_1); (try clear hfz18_2); (try clear hfz18_3); (try clear hfz18_4); (try clear hfz21_0); (try clear hfz21_1); (try clear hfz21_2); (try clear hfz21_3); (try clear hfz21_4); (try clear hfz22_0); (try clear hfz22_1); (try clear hfz22_2); (try clear hfz22_3); (try clear hfz22_4); (try clear hfz24_0); (try clear hfz24_1); (try clear hfz24_2); (try clear hfz24_3); (try clear hfz24_4); (try clear hfz25_0); (try clear hfz25_1); (try clear hfz25_2); (try clear hfz25_3); (try clear hfz25_4)
  obtain ⟨kq, x78_7, rfl, HA, HJ7, HO_6, BK346, BK347, HB⟩ := hcut
  cases kq with
  | zero => exact absurd HA.out (by simp [waybilllaw12_KeysTells.j0])
  | succ kj7 =>
   have H := HA.out
   clear HA
   simp only [waybilllaw12_KeysTells.j0] at H
   by_cases c26 : x78_7 = true
   ·
    subst c26
    have H1 : ((waybilllaw12_awake.f kj7).bind fun t348 => (some t348)) = some r := by rw [if_pos rfl] at H; exact H
    clear H
    have H := H1
    clear H1
    replace H := Option.bind_eq_some_iff.mp H
    obtain ⟨t348, A270, H⟩ := H
    replace H : (some t348) = some r := H
    have A27 := Aside0.mk A270
    clear A270
    obtain rfl := Option.some.inj H
    go_wp2_with (first | ((with_reducible refine gate_callee (f := 37) rfl ?_); refine goesL_ (some 79) rfl rfl Try.func37 (by kernel_rfl) rfl #[] rfl (by (try simp only [List.map_toArray, List.map_cons, List.map_nil]); first | done | rfl | (simp only [List.length_drop, List.length_take]; rfl)) ?_; (with_reducible refine (waybilllaw12_awake.calls kj7  t348 _ A27.out).mono ?_); rintro e w28 ⟨rfl, hb⟩; refine ⟨_, rfl, ?_⟩; have n0_ := Aside0.mk (Kd.V_below (by exact HO_6.out) hb); have n1_ := Aside0.mk (blk_below (g := gb346) (o := .cells #[.int .i64 a0_0, .string a0_1, .string a0_2, .string a0_3, .int .u64 a0_4] 74 (0, 0)) (by exact BK346.out) hb); have n2_ := Aside0.mk (blk_below (g := gb347) (o := .cells #[.string a5_0, .string a5_1, .string a5_2, .int .i64 a5_3, .slice A5_4 l5_4.length c5_4] 77 (0, 0)) (by exact BK347.out) hb); have n3_ := Aside0.mk (below_step (by repeat (with_reducible first | exact HB.out | apply below_alloc | apply pw_below_drewN | apply below_drew1 | refine below_set ?_ GE346.out | refine below_set ?_ GE347.out)) hb); clear HO_6; clear BK346; clear BK347; clear HB; have HO_6 := n0_; have BK346 := n1_; have BK347 := n2_; have HB := n3_; clear n0_ n1_ n2_ n3_; (try clear hb); (try clear hb2); (try clear hk); (try clear hi); (try clear hge)))
    all_goals first | (go_ret; exact ⟨by first | rfl | (simp [errW_none, errW_some]; done) | (simp [errW_none, errW_some]; rfl) | (simp [*, errW_none, errW_some]; done) | (simp [*, errW_none, errW_some]; rfl), by repeat (with_reducible first | exact HB.out | apply below_alloc | apply pw_below_drewN | apply below_drew1 | refine below_set ?_ GE346.out | refine below_set ?_ GE347.out)⟩) | (exfalso; simp_all; done)
   ·
    replace c26 := Bool.eq_false_iff.mpr c26
    subst c26
    have H1 : (waybilllaw12_KeysTells.l0 kj7 a1 a2 a3 a4 l6 0 a0_0 a0_1 a0_2 a0_3 a0_4 a5_0 a5_1 a5_2 a5_3 l5_4) = some r := by rw [if_neg (show ¬ (false = true) by decide)] at H; exact H
    clear H
    have H := H1
    clear H1
    have H' := Aside0.mk H
    clear H
    go_wp2
    go_loopg [15] kj7 (fun kq v15 w' => ∃ (x6_2 : List Int) (x15_2 : Int) (x347000_2 : Int) (x347001_2 : ByteArray) (x347002_2 : ByteArray) (x347003_2 : ByteArray) (x347004_2 : Int), v15 = .int .i64 x15_2 ∧ Aside0 (waybilllaw12_KeysTells.l0 kq a1 a2 a3 a4 x6_2 x15_2 x347000_2 x347001_2 x347002_2 x347003_2 x347004_2 a5_0 a5_1 a5_2 a5_3 l5_4 = some r) ∧ Aside0 (kq ≤ kj7) ∧ Aside0 (Kd.V (Kd.int .u8) 5 w' w.heap.size (fun k_ => (P6_ k_ ∨ w.heap.size ≤ k_) ∧ k_ ≠ gb346 ∧ k_ ≠ gb347) (.slice A6 l6.length c6) x6_2) ∧ Aside0 (w'.heap[gb346]? = some (.cells #[.int .i64 x347000_2, .string x347001_2, .string x347002_2, .string x347003_2, .int .u64 x347004_2] 74 (0, 0))) ∧ Aside0 (w'.heap[gb347]? = some (.cells #[.string a5_0, .string a5_1, .string a5_2, .int .i64 a5_3, (.slice A5_4 l5_4.length c5_4)] 77 (0, 0))) ∧ Aside0 (Below w.heap.size w w'))
    case atStart => exact ⟨(l6), (0), (a0_0), (a0_1), (a0_2), (a0_3), (a0_4), (by first | rfl | (simp; done) | (simp [*]; done)), H', ⟨Nat.le_refl _⟩, ⟨by exact HO_6.out⟩, ⟨by exact BK346.out⟩, ⟨by exact BK347.out⟩, ⟨by repeat (with_reducible first | exact HB.out | apply below_alloc | apply pw_below_drewN | apply below_drew1 | refine below_set ?_ GE346.out | refine below_set ?_ GE347.out)⟩⟩
    case round =>
     clear H'
     (try clear c1); (try clear c2); (try clear p2); (try clear c3); (try clear c5); (try clear c6); (try clear p6); (try clear c11); (try clear c11b0); (try clear c11b1); (try clear c12); (try clear c12b0); (try clear c13); (try clear c15); (try clear c15b0); (try clear c16); (try clear c19); (try clear c19b0); (try clear c19b1); (try clear c20); (try clear c23); (try clear c26); (try clear hcz14_0); (try clear hcz14_1); (try clear hcz14_2); (try clear hcz14_3); (try clear hcz14_4); (try clear hcz17_0); (try clear hcz17_1); (try clear hcz17_2); (try clear hcz17_3); (try clear hcz17_4); (try clear hcz18_0); (try clear hcz18_1); (try clear hcz18_2); (try clear hcz18_3); (try clear hcz18_4); (try clear hcz21_0); (try clear hcz21_1); (try clear hcz21_2); (try clear hcz21_3); (try clear hcz21_4); (try clear hcz22_0); (try clear hcz22_1); (try clear hcz22_2); (try clear hcz22_3); (try clear hcz22_4); (try clear hcz24_0); (try clear hcz24_1); (try clear hcz24_2); (try clear hcz24_3); (try clear hcz24_4); (try clear hcz25_0); (try clear hcz25_1); (try clear hcz25_2); (try clear hcz25_3); (try clear hcz25_4); (try clear hfz14_0); (try clear hfz14_1); (try clear hfz14_2); (try clear hfz14_3); (try clear hfz14_4); (try clear hfz17_0); (try clear hfz17_1); (try clear hfz17_2); (try clear hfz17_3); (try clear hfz17_4); (try clear hfz18_0); (try clear hfz18_1); (try clear hfz18_2); (try clear hfz18_3); (try clear hfz18_4); (try clear hfz21_0); (try clear hfz21_1); (try clear hfz21_2); (try clear hfz21_3); (try clear hfz21_4); (try clear hfz22_0); (try clear hfz22_1); (try clear hfz22_2); (try clear hfz22_3); (try clear hfz22_4); (try clear hfz24_0); (try clear hfz24_1); (try clear hfz24_2); (try clear hfz24_3); (try clear hfz24_4); (try clear hfz25_0); (try clear hfz25_1); (try clear hfz25_2); (try clear hfz25_3); (try clear hfz25_4); (try clear p2); (try clear p6)
     obtain ⟨x6_2, x15_2, x347000_2, x347001_2, x347002_2, x347003_2, x347004_2, rfl, HA, HK2, HO_6, BK346, BK347, HB⟩ := hrel
     have hl6_2 := (Kd.V_reads' HO_6.out).1
     rw [hl6_2] at HO_6
     (try simp only [hl6_2])
     (try simp only [hl6_2] at BK346)
     (try simp only [hl6_2] at BK347)
     cases gk with
     | zero => exact absurd HA.out (by simp [waybilllaw12_KeysTells.l0])
     | succ k2 =>
      have H := HA.out
      clear HA
      simp only [waybilllaw12_KeysTells.l0] at H
      by_cases c29 : x15_2 < 2
      ·
       rw [if_pos c29] at H
       have c29b0 : decide (x15_2 < 2) = true := decide_eq_true c29
       clear c29
       replace H := Option.bind_eq_some_iff.mp H
       obtain ⟨⟨t349, t350⟩, A300, H⟩ := H
       replace H : ((waybillref7_Key.f k2 x347000_2 x347001_2 x347002_2 x347003_2 x347004_2).bind fun bt351 => (if t349.toList = bt351.1.toList then (waybilllaw12_KeysTells.j2 k2 a1 a2 a3 a4 x6_2 x15_2 t349 (t350 != bt351.2) x347000_2 x347001_2 x347002_2 x347003_2 x347004_2 a5_0 a5_1 a5_2 a5_3 l5_4) else (waybilllaw12_KeysTells.j2 k2 a1 a2 a3 a4 x6_2 x15_2 t349 true x347000_2 x347001_2 x347002_2 x347003_2 x347004_2 a5_0 a5_1 a5_2 a5_3 l5_4))) = some r := H
       have A30 := Aside0.mk A300
       clear A300
       replace H := Option.bind_eq_some_iff.mp H
       obtain ⟨⟨t351, t352⟩, A310, H⟩ := H
       replace H : (if t349.toList = t351.toList then (waybilllaw12_KeysTells.j2 k2 a1 a2 a3 a4 x6_2 x15_2 t349 (t350 != t352) x347000_2 x347001_2 x347002_2 x347003_2 x347004_2 a5_0 a5_1 a5_2 a5_3 l5_4) else (waybilllaw12_KeysTells.j2 k2 a1 a2 a3 a4 x6_2 x15_2 t349 true x347000_2 x347001_2 x347002_2 x347003_2 x347004_2 a5_0 a5_1 a5_2 a5_3 l5_4)) = some r := H
       have A31 := Aside0.mk A310
       clear A310
       have HC32 := Aside0.mk H
       clear H
       have hnb33 := NB346_347.out
       have hnc33 := NB347_346.out
       have hcz34_0 : wr.cell? ⟨gb346, 0, none⟩ = some (.int .i64 x347000_2) := (blk_cell BK346.out 0).trans rfl
       have hcz34_1 : wr.cell? ⟨gb346, 1, none⟩ = some (.string x347001_2) := (blk_cell BK346.out 1).trans rfl
       have hcz34_2 : wr.cell? ⟨gb346, 2, none⟩ = some (.string x347002_2) := (blk_cell BK346.out 2).trans rfl
       have hcz34_3 : wr.cell? ⟨gb346, 3, none⟩ = some (.string x347003_2) := (blk_cell BK346.out 3).trans rfl
       have hcz34_4 : wr.cell? ⟨gb346, 4, none⟩ = some (.int .u64 x347004_2) := (blk_cell BK346.out 4).trans rfl
       have hfz34_0 := blk_frozen BK346.out 0
       have hfz34_1 := blk_frozen BK346.out 1
       have hfz34_2 := blk_frozen BK346.out 2
       have hfz34_3 := blk_frozen BK346.out 3
       have hfz34_4 := blk_frozen BK346.out 4
       go_upto_region 8 with (first | ((with_reducible refine gate_callee (f := 38) rfl ?_); refine goesL_ (some 86) rfl rfl Try.func38 (by kernel_rfl) rfl #[.agg #[.int .i64 x347000_2, .string x347001_2, .string x347002_2, .string x347003_2, .int .u64 x347004_2]] rfl (by (try simp only [List.map_toArray, List.map_cons, List.map_nil]); first | done | rfl | (simp only [List.length_drop, List.length_take]; rfl)) ?_; (with_reducible refine (keys_Text.calls k2 x347000_2 x347001_2 x347002_2 x347003_2 x347004_2 t349 t350 _ A30.out).mono ?_); rintro e w35 ⟨rfl, hb⟩; refine ⟨_, rfl, ?_⟩; have n0_ := Aside0.mk (Kd.V_below (by exact HO_6.out) hb); have n1_ := Aside0.mk (blk_below (g := gb346) (o := .cells #[.int .i64 x347000_2, .string x347001_2, .string x347002_2, .string x347003_2, .int .u64 x347004_2] 74 (0, 0)) (by exact BK346.out) hb); have n2_ := Aside0.mk (blk_below (g := gb347) (o := .cells #[.string a5_0, .string a5_1, .string a5_2, .int .i64 a5_3, .slice A5_4 l5_4.length c5_4] 77 (0, 0)) (by exact BK347.out) hb); have n3_ := Aside0.mk (below_step (by repeat (with_reducible first | exact HB.out | apply below_alloc | apply pw_below_drewN | apply below_drew1 | refine below_set ?_ GE346.out | refine below_set ?_ GE347.out)) hb); clear HO_6; clear BK346; clear BK347; clear HB; have HO_6 := n0_; have BK346 := n1_; have BK347 := n2_; have HB := n3_; clear n0_ n1_ n2_ n3_; (try clear hb); (try clear hb2); (try clear hk); (try clear hi); (try clear hge); have hcz36_0 : w35.cell? ⟨gb346, 0, none⟩ = some (.int .i64 x347000_2) := (blk_cell BK346.out 0).trans rfl; have hcz36_1 : w35.cell? ⟨gb346, 1, none⟩ = some (.string x347001_2) := (blk_cell BK346.out 1).trans rfl; have hcz36_2 : w35.cell? ⟨gb346, 2, none⟩ = some (.string x347002_2) := (blk_cell BK346.out 2).trans rfl; have hcz36_3 : w35.cell? ⟨gb346, 3, none⟩ = some (.string x347003_2) := (blk_cell BK346.out 3).trans rfl; have hcz36_4 : w35.cell? ⟨gb346, 4, none⟩ = some (.int .u64 x347004_2) := (blk_cell BK346.out 4).trans rfl; have hfz36_0 := blk_frozen BK346.out 0; have hfz36_1 := blk_frozen BK346.out 1; have hfz36_2 := blk_frozen BK346.out 2; have hfz36_3 := blk_frozen BK346.out 3; have hfz36_4 := blk_frozen BK346.out 4) | ((with_reducible refine gate_callee (f := 40) rfl ?_); refine goesL_ (some 91) rfl rfl Try.func40 (by kernel_rfl) rfl #[.agg #[.int .i64 x347000_2, .string x347001_2, .string x347002_2, .string x347003_2, .int .u64 x347004_2]] rfl (by (try simp only [List.map_toArray, List.map_cons, List.map_nil]); first | done | rfl | (simp only [List.length_drop, List.length_take]; rfl)) ?_; (with_reducible refine (waybillref7_Key.calls k2 x347000_2 x347001_2 x347002_2 x347003_2 x347004_2 t351 t352 _ A31.out).mono ?_); rintro e w37 ⟨rfl, hb⟩; refine ⟨_, rfl, ?_⟩; have n0_ := Aside0.mk (Kd.V_below (by exact HO_6.out) hb); have n1_ := Aside0.mk (blk_below (g := gb346) (o := .cells #[.int .i64 x347000_2, .string x347001_2, .string x347002_2, .string x347003_2, .int .u64 x347004_2] 74 (0, 0)) (by exact BK346.out) hb); have n2_ := Aside0.mk (blk_below (g := gb347) (o := .cells #[.string a5_0, .string a5_1, .string a5_2, .int .i64 a5_3, .slice A5_4 l5_4.length c5_4] 77 (0, 0)) (by exact BK347.out) hb); have n3_ := Aside0.mk (below_step (by repeat (with_reducible first | exact HB.out | apply below_alloc | apply pw_below_drewN | apply below_drew1 | refine below_set ?_ GE346.out | refine below_set ?_ GE347.out)) hb); clear HO_6; clear BK346; clear BK347; clear HB; have HO_6 := n0_; have BK346 := n1_; have BK347 := n2_; have HB := n3_; clear n0_ n1_ n2_ n3_; (try clear hb); (try clear hb2); (try clear hk); (try clear hi); (try clear hge)))
       (try simp only [Act.put, List.setIfInBounds_toArray, List.set_cons_zero, List.set_cons_succ])
       go_cut [101] (fun v101 wc => ∃ (kq : Nat) (x101_31 : Bool), v101 = .bool x101_31 ∧ Aside0 (waybilllaw12_KeysTells.j2 kq a1 a2 a3 a4 x6_2 x15_2 t349 x101_31 x347000_2 x347001_2 x347002_2 x347003_2 x347004_2 a5_0 a5_1 a5_2 a5_3 l5_4 = some r) ∧ Aside0 (kq ≤ k2) ∧ Aside0 (Kd.V (Kd.int .u8) 5 wc w.heap.size (fun k_ => (P6_ k_ ∨ w.heap.size ≤ k_) ∧ k_ ≠ gb346 ∧ k_ ≠ gb347) (.slice A6 x6_2.length c6) x6_2) ∧ Aside0 (wc.heap[gb346]? = some (.cells #[.int .i64 x347000_2, .string x347001_2, .string x347002_2, .string x347003_2, .int .u64 x347004_2] 74 (0, 0))) ∧ Aside0 (wc.heap[gb347]? = some (.cells #[.string a5_0, .string a5_1, .string a5_2, .int .i64 a5_3, (.slice A5_4 l5_4.length c5_4)] 77 (0, 0))) ∧ Aside0 (Below w.heap.size w wc))
       case first =>
        have H := HC32.out
        clear HC32
        by_cases c38 : t349.toList = t351.toList
        ·
         rw [if_pos c38] at H
         have c38b0 : (t349.toList == t351.toList) = true := beq_iff_eq.mpr c38
         have c38b1 : (t349.toList != t351.toList) = false := bne_eq_false_iff_eq.mpr c38
         clear c38
         (first | rw [c38b0] | rw [c38b2] | rw [c38b1] | (simp only [i64_w, i32_w]; rw [c38b0]) | skip)
         have H' := Aside0.mk H
         clear H
         go_wp2
         go_meet
         case rel => exact ⟨_, ((t350 != t352)), (by first | rfl | (simp; done) | (simp [*]; done)), H', ⟨by have := HJ7.out; have := HK2.out; first | omega | exact Nat.le_refl _⟩, ⟨by (try simp only [hl6_2]); exact HO_6.out⟩, ⟨by (try simp only [hl6_2]); exact BK346.out⟩, ⟨by (try simp only [hl6_2]); exact BK347.out⟩, ⟨by repeat (with_reducible first | exact HB.out | apply below_alloc | apply pw_below_drewN | apply below_drew1 | refine below_set ?_ GE346.out | refine below_set ?_ GE347.out)⟩⟩
        ·
         rw [if_neg c38] at H
         have c38b0 : (t349.toList == t351.toList) = false := beq_eq_false_iff_ne.mpr c38
         have c38b1 : (t349.toList != t351.toList) = true := bne_iff_ne.mpr c38
         (first | rw [c38b0] | rw [c38b2] | rw [c38b1] | (simp only [i64_w, i32_w]; rw [c38b0]) | skip)
         have H' := Aside0.mk H
         clear H
         go_wp2
         go_meet
         case rel => exact ⟨_, (true), (by first | rfl | (simp; done) | (simp [*]; done)), H', ⟨by have := HJ7.out; have := HK2.out; first | omega | exact Nat.le_refl _⟩, ⟨by (try simp only [hl6_2]); exact HO_6.out⟩, ⟨by (try simp only [hl6_2]); exact BK346.out⟩, ⟨by (try simp only [hl6_2]); exact BK347.out⟩, ⟨by repeat (with_reducible first | exact HB.out | apply below_alloc | apply pw_below_drewN | apply below_drew1 | refine below_set ?_ GE346.out | refine below_set ?_ GE347.out)⟩⟩
       case rest =>
        clear HC32
        (try clear c1); (try clear c2); (try clear p2); (try clear c3); (try clear c4); (try clear c5); (try clear c6); (try clear p6); (try clear c11); (try clear c11b0); (try clear c11b1); (try clear c12); (try clear c12b0); (try clear c13); (try clear c15); (try clear c15b0); (try clear c16); (try clear c19); (try clear c19b0); (try clear c19b1); (try clear c20); (try clear c23); (try clear c26); (try clear c29); (try clear c29b0); (try clear c33); (try clear c37); (try clear c38); (try clear c38b0); (try clear c38b1); (try clear hcz14_0); (try clear hcz14_1); (try clear hcz14_2); (try clear hcz14_3); (try clear hcz14_4); (try clear hcz17_0); (try clear hcz17_1); (try clear hcz17_2); (try clear hcz17_3); (try clear hcz17_4); (try clear hcz18_0); (try clear hcz18_1); (try clear hcz18_2); (try clear hcz18_3); (try clear hcz18_4); (try clear hcz21_0); (try clear hcz21_1); (try clear hcz21_2); (try clear hcz21_3); (try clear hcz21_4); (try clear hcz22_0); (try clear hcz22_1); (try clear hcz22_2); (try clear hcz22_3); (try clear hcz22_4); (try clear hcz24_0); (try clear hcz24_1); (try clear hcz24_2); (try clear hcz24_3); (try clear hcz24_4); (try clear hcz25_0); (try clear hcz25_1); (try clear hcz25_2); (try clear hcz25_3); (try clear hcz25_4); (try clear hcz34_0); (try clear hcz34_1); (try clear hcz34_2); (try clear hcz34_3); (try clear hcz34_4); (try clear hcz36_0); (try clear hcz36_1); (try clear hcz36_2); (try clear hcz36_3); (try clear hcz36_4); (try clear hfz14_0); (try clear hfz14_1); (try clear hfz14_2); (try clear hfz14_3); (try clear hfz14_4); (try clear hfz17_0); (try clear hfz17_1); (try clear hfz17_2); (try clear hfz17_3); (try clear hfz17_4); (try clear hfz18_0); (try clear hfz18_1); (try clear hfz18_2); (try clear hfz18_3); (try clear hfz18_4); (try clear hfz21_0); (try clear hfz21_1); (try clear hfz21_2); (try clear hfz21_3); (try clear hfz21_4); (try clear hfz22_0); (try clear hfz22_1); (try clear hfz22_2); (try clear hfz22_3); (try clear hfz22_4); (try clear hfz24_0); (try clear hfz24_1); (try clear hfz24_2); (try clear hfz24_3); (try clear hfz24_4); (try clear hfz25_0); (try clear hfz25_1); (try clear hfz25_2); (try clear hfz25_3); (try clear hfz25_4); (try clear hfz34_0); (try clear hfz34_1); (try clear hfz34_2); (try clear hfz34_3); (try clear hfz34_4); (try clear hfz36_0); (try clear hfz36_1); (try clear hfz36_2); (try clear hfz36_3); (try clear hfz36_4); (try clear p2); (try clear p6)
        obtain ⟨kq, x101_31, rfl, HA, HJ31, HO_6, BK346, BK347, HB⟩ := hcut
        cases kq with
        | zero => exact absurd HA.out (by simp [waybilllaw12_KeysTells.j2])
        | succ kj31 =>
         have H := HA.out
         clear HA
         simp only [waybilllaw12_KeysTells.j2] at H
         by_cases c39 : x101_31 = true
         ·
          subst c39
          have H1 : (none) = some r := by rw [if_pos rfl] at H; exact H
          clear H
          have H := H1
          clear H1
          exact absurd H (by simp)
         ·
          replace c39 := Bool.eq_false_iff.mpr c39
          subst c39
          have H1 : (if t349.size ≤ 9223372036854775807 then ((some (bytesOf t349 : List Int)).bind fun y353 => (if (y353.length : Int) > 0 then (if (y353.length : Int) = 0 then (none) else (if 0 ≤ (Int.tmod (Go.bits .and .i64 a2 65535) (y353.length : Int)) then (if (Int.tmod (Go.bits .and .i64 a2 65535) (y353.length : Int)) < (y353.length : Int) then (waybilllaw12_KeysTells.j3 kj31 a1 a2 a3 a4 x6_2 x15_2 t349 (y353.set ((Int.tmod (Go.bits .and .i64 a2 65535) (y353.length : Int)) : Int).toNat (Go.bits .xor .u8 (rd y353 (Int.tmod (Go.bits .and .i64 a2 65535) (y353.length : Int))) a3)) x347000_2 x347001_2 x347002_2 x347003_2 x347004_2 a5_0 a5_1 a5_2 a5_3 l5_4) else (none)) else (none))) else (waybilllaw12_KeysTells.j3 kj31 a1 a2 a3 a4 x6_2 x15_2 t349 y353 x347000_2 x347001_2 x347002_2 x347003_2 x347004_2 a5_0 a5_1 a5_2 a5_3 l5_4))) else (none)) = some r := by rw [if_neg (show ¬ (false = true) by decide)] at H; exact H
          clear H
          have H := H1
          clear H1
          by_cases c40 : t349.size ≤ 9223372036854775807
          ·
           rw [if_pos c40] at H
           have c40b0 := eq_true c40
           have c40b1 : decide (t349.size ≤ 9223372036854775807) = true := decide_eq_true c40
           try have c40b2 : (9223372036854775807 < t349.size) = False := eq_false (Nat.not_lt.2 c40)
           clear c40
           obtain ⟨y353, hy353⟩ : ∃ y_ : List Int, y_ = (bytesOf t349) := ⟨_, rfl⟩
           replace H : (if (y353.length : Int) > 0 then (if (y353.length : Int) = 0 then (none) else (if 0 ≤ (Int.tmod (Go.bits .and .i64 a2 65535) (y353.length : Int)) then (if (Int.tmod (Go.bits .and .i64 a2 65535) (y353.length : Int)) < (y353.length : Int) then (waybilllaw12_KeysTells.j3 kj31 a1 a2 a3 a4 x6_2 x15_2 t349 (y353.set ((Int.tmod (Go.bits .and .i64 a2 65535) (y353.length : Int)) : Int).toNat (Go.bits .xor .u8 (rd y353 (Int.tmod (Go.bits .and .i64 a2 65535) (y353.length : Int))) a3)) x347000_2 x347001_2 x347002_2 x347003_2 x347004_2 a5_0 a5_1 a5_2 a5_3 l5_4) else (none)) else (none))) else (waybilllaw12_KeysTells.j3 kj31 a1 a2 a3 a4 x6_2 x15_2 t349 y353 x347000_2 x347001_2 x347002_2 x347003_2 x347004_2 a5_0 a5_1 a5_2 a5_3 l5_4)) = some r := by first | (rw [hy353]; with_reducible exact H) | (have H2_ := (Option.bind_some _ _).symm.trans H; rw [hy353]; with_reducible exact H2_) | (have H2_ := (Option.bind_some _ _).symm.trans H; with_reducible exact H2_) | with_reducible exact H | (rw [hy353]; exact H) | exact H
           have Ny353 := Aside0.mk hy353
           clear hy353
           have HC41 := Aside0.mk H
           clear H
           go_upto_if 106 with (first | ((with_reducible refine gate_dst (N := 103) rfl ?_); (try (refine gate_guard (by rfl) ?_; dsimp only)); refine Kd.U_conv _ 5 9 26 rfl (N := 103) rfl t349 _ rfl rfl Try.underlying9 Try.underlying26 Try.underlying5 (Below.refl _ _) (Nat.le_refl _) (of_decide_eq_true (by first | (with_reducible assumption) | assumption)) ?_; intro v354 w42 ho43 hb hg_ hnew_; clear hg_ hnew_; (first | rw [← Ny353.out] at ho43 | (simp only [Int.reduceToNat] at ho43; rw [← Ny353.out] at ho43)); have n0_ := Aside0.mk (Kd.V_elder' (by exact HO_6.out) (Kd.U_base ho43) hb); have n1_ := Aside0.mk (Kd.U_lower (Kd.U_newM (M := fun k_ => (w.heap.size ≤ k_)) ho43 (below_size (by repeat (with_reducible first | exact HB.out | apply below_alloc | apply pw_below_drewN | apply below_drew1 | refine below_set ?_ GE346.out | refine below_set ?_ GE347.out))) (fun k_ h_ => h_)) (below_size (by repeat (with_reducible first | exact HB.out | apply below_alloc | apply pw_below_drewN | apply below_drew1 | refine below_set ?_ GE346.out | refine below_set ?_ GE347.out)))); have n2_ := Aside0.mk (blk_below (g := gb346) (o := .cells #[.int .i64 x347000_2, .string x347001_2, .string x347002_2, .string x347003_2, .int .u64 x347004_2] 74 (0, 0)) (by exact BK346.out) hb); have n3_ := Aside0.mk (blk_below (g := gb347) (o := .cells #[.string a5_0, .string a5_1, .string a5_2, .int .i64 a5_3, .slice A5_4 l5_4.length c5_4] 77 (0, 0)) (by exact BK347.out) hb); have n4_ := Aside0.mk (below_step (by repeat (with_reducible first | exact HB.out | apply below_alloc | apply pw_below_drewN | apply below_drew1 | refine below_set ?_ GE346.out | refine below_set ?_ GE347.out)) hb); clear HO_6; clear BK346; clear BK347; clear HB; have HO_6 := n0_; have HO355 := n1_; have BK346 := n2_; have BK347 := n3_; have HB := n4_; clear n0_ n1_ n2_ n3_ n4_; clear hb ho43; obtain ⟨Ao44, co44, eo44⟩ := Kd.U_slice HO355.out; subst eo44))
           (try simp only [Act.put, List.setIfInBounds_toArray, List.set_cons_zero, List.set_cons_succ])
           go_cut [] (fun wc => ∃ (kq : Nat) (x20_40 : List Int), Aside0 (waybilllaw12_KeysTells.j3 kq a1 a2 a3 a4 x6_2 x15_2 t349 x20_40 x347000_2 x347001_2 x347002_2 x347003_2 x347004_2 a5_0 a5_1 a5_2 a5_3 l5_4 = some r) ∧ Aside0 (kq ≤ kj31) ∧ Aside0 (Kd.V (Kd.int .u8) 5 wc w.heap.size (fun k_ => (P6_ k_ ∨ w.heap.size ≤ k_) ∧ some k_ ≠ ((.slice Ao44 y353.length co44) : Value).ownBlock ∧ k_ ≠ gb346 ∧ k_ ≠ gb347) (.slice A6 x6_2.length c6) x6_2) ∧ Aside0 (Kd.U (Kd.int .u8) 5 wc w.heap.size (fun k_ => (w.heap.size ≤ k_)) (.slice Ao44 y353.length co44) x20_40) ∧ Aside0 (wc.heap[gb346]? = some (.cells #[.int .i64 x347000_2, .string x347001_2, .string x347002_2, .string x347003_2, .int .u64 x347004_2] 74 (0, 0))) ∧ Aside0 (wc.heap[gb347]? = some (.cells #[.string a5_0, .string a5_1, .string a5_2, .int .i64 a5_3, (.slice A5_4 l5_4.length c5_4)] 77 (0, 0))) ∧ Aside0 (Below w.heap.size w wc))
           case first =>
            have H := HC41.out
            clear HC41
            by_cases c45 : (y353.length : Int) > 0
            ·
             rw [if_pos c45] at H
             have c45b0 : decide (0 < (y353.length : Int)) = true := decide_eq_true c45
             have c45b1 : decide (0 < y353.length) = true := decide_eq_true (by omega)
             clear c45
             (first | rw [c45b0] | rw [c45b2] | rw [c45b1] | (simp only [i64_w, i32_w]; rw [c45b0]) | skip)
             by_cases c46 : (y353.length : Int) = 0
             ·
              rw [if_pos c46] at H
              exact absurd H (by simp)
             ·
              rw [if_neg c46] at H
              have c46b0 : ((y353.length : Int) == 0) = false := beq_eq_false_iff_ne.mpr c46
              have c46b1 : ((y353.length : Int) != 0) = true := bne_iff_ne.mpr c46
              have c46b2 : ¬ (y353 = []) := fun h_ => c46 (by rw [h_]; rfl)
              obtain ⟨ji47, hji47⟩ : ∃ j_ : Int, (Int.tmod (Go.bits .and .i64 a2 65535) (y353.length : Int)) = j_ := ⟨_, rfl⟩
              replace H : (if 0 ≤ (ji47) then (if (ji47) < (y353.length : Int) then (waybilllaw12_KeysTells.j3 kj31 a1 a2 a3 a4 x6_2 x15_2 t349 (y353.set ((ji47) : Int).toNat (Go.bits .xor .u8 (rd y353 (ji47)) a3)) x347000_2 x347001_2 x347002_2 x347003_2 x347004_2 a5_0 a5_1 a5_2 a5_3 l5_4) else (none)) else (none)) = some r := by first | (rw [hji47] at H; exact H) | (simp only [hji47] at H ⊢; exact H)
              by_cases c48 : 0 ≤ (ji47)
              ·
               rw [if_pos c48] at H
               have c48b0 : decide (0 ≤ (ji47)) = true := decide_eq_true c48
               clear c48
               by_cases c49 : (ji47) < (y353.length : Int)
               ·
                rw [if_pos c49] at H
                have c49b0 : decide ((ji47) < (y353.length : Int)) = true := decide_eq_true c49
                clear c49
                obtain ⟨y357, hy357⟩ : ∃ y_ : List Int, y_ = (y353.set ((ji47) : Int).toNat (Go.bits .xor .u8 (rd y353 (ji47)) a3)) := ⟨_, rfl⟩
                replace H : (waybilllaw12_KeysTells.j3 kj31 a1 a2 a3 a4 x6_2 x15_2 t349 y357 x347000_2 x347001_2 x347002_2 x347003_2 x347004_2 a5_0 a5_1 a5_2 a5_3 l5_4) = some r := by first | (rw [hy357]; with_reducible exact H) | (have H2_ := (Option.bind_some _ _).symm.trans H; rw [hy357]; with_reducible exact H2_) | (have H2_ := (Option.bind_some _ _).symm.trans H; with_reducible exact H2_) | with_reducible exact H | (rw [hy357]; exact H) | exact H
                have Ny357 := Aside0.mk hy357
                clear hy357
                have H' := Aside0.mk H
                clear H
                have p356 : 0 ≤ ((ji47) : Int) := of_decide_eq_true (by first | (with_reducible assumption) | assumption)
                have q356 : (ji47) < (y353.length : Int) := of_decide_eq_true (by first | (with_reducible assumption) | assumption)
                obtain ⟨ad356, e356, hx356_0⟩ := Kd.at_int (Kd.U_reads' HO355.out).2.2 (ji47) p356 q356
                cases e356
                replace p356 := eq_true p356
                replace q356 := eq_true q356
                have p50 : 0 ≤ ((ji47) : Int) := of_decide_eq_true (by first | (with_reducible assumption) | assumption)
                have q50 : ((ji47) : Int) < ((y353.length : Int) : Int) := of_decide_eq_true (by first | (with_reducible assumption) | assumption)
                obtain ⟨go50, co50, eo50, gb50, gl50, cl50, HG50⟩ := Kd.U_form HO355.out (by omega)
                (first | cases eo50 | (injection eo50 with ea_ en_ ec_; (first | subst ea_ | (injection ea_ with ea_; subst ea_)); subst ec_; clear en_))
                have GB50 := Aside0.mk gb50
                have GG50 := Aside0.mk HG50
                clear gb50 gl50 HG50
                (first | simp only [add_plain] at hx356_0 | skip)
                obtain ⟨hx50_0, hf50_0⟩ := Kd.U_celln 0 HO355.out ((ji47) : Int) p50 q50
                replace p50 := eq_true p50
                replace q50 := eq_true q50
                have n_ := Aside0.mk (Kd.U_mono (ok' := (fun k_ => (w.heap.size ≤ k_))) HO355.out (fun k_ hk => hk.1))
                clear HO355
                have HO355 := n_
                clear n_
                have HP51 := Kd.U_putg HO355.out ((ji47) : Int) (Go.bits .xor .u8 (rd y353 (ji47)) a3)
                go_wp2_with (first | ((with_reducible refine gate_store (t := 5) (p := 117) rfl ?_); refine store_event (t := 5) (p := 117) (v := ?vo_w52) (w1 := (w42.setCell ⟨go50, ((ji47) : Int).toNat, none⟩ (.int .u8 (Go.bits .xor .u8 (rd y353 (ji47)) a3)))) ?hg ?ho ?hn ?hr ?_; (case ho => rfl); (case hg => rfl); (case hn => rfl); (case hr => first | (go_simp; done) | (go_simp; rfl)); intro w52 hw; have hg : w42.grownBy w52 (some go50) := (by rw [hw]; exact HP51.2); have hp_ : Kd.U (Kd.int .u8) 5 w52 w.heap.size (fun k_ => (w.heap.size ≤ k_)) (.slice (some ⟨go50, 0, none⟩) y353.length co44) y357 := (by rw [hw, Ny357.out]; exact HP51.1); clear HP51; have n0_ := Aside0.mk (Kd.V_afterv (v := (.slice (some ⟨go50, 0, none⟩) y353.length co44)) (v1 := (.slice (some ⟨go50, 0, none⟩) y353.length co44)) (ok := (fun k_ => (P6_ k_ ∨ w.heap.size ≤ k_) ∧ k_ ≠ gb346 ∧ k_ ≠ gb347)) (by exact HO_6.out) hg (.inl rfl)); have n1_ := Aside0.mk (blk_grown (g := gb346) (o := .cells #[.int .i64 x347000_2, .string x347001_2, .string x347002_2, .string x347003_2, .int .u64 x347004_2] 74 (0, 0)) (by exact BK346.out) hg (Kd.U_ne HO355.out BK346.out (by decide))); have n2_ := Aside0.mk (blk_grown (g := gb347) (o := .cells #[.string a5_0, .string a5_1, .string a5_2, .int .i64 a5_3, .slice A5_4 l5_4.length c5_4] 77 (0, 0)) (by exact BK347.out) hg (Kd.U_ne HO355.out BK347.out (by decide))); have n3_ := Aside0.mk (hp_); have n4_ := Aside0.mk ((by rw [hw]; exact below_set (HB.out) GB50.out : Below w.heap.size w w52)); clear HO_6; clear BK346; clear BK347; clear HO355; clear HB; have HO_6 := n0_; have BK346 := n1_; have BK347 := n2_; have HO355 := n3_; have HB := n4_; clear n0_ n1_ n2_ n3_ n4_; clear hg hw hp_))
                go_meet
                case rel => exact ⟨_, (y357), H', ⟨by have := HJ7.out; have := HK2.out; have := HJ31.out; first | omega | exact Nat.le_refl _⟩, ⟨by (try simp only [hl6_2]); exact Kd.V_mono HO_6.out (fun _ hk => ⟨hk.1.1, ⟨hk.2, ⟨hk.1.2.1, hk.1.2.2⟩⟩⟩)⟩, ⟨by (try simp only [hl6_2]); (with_reducible repeat (first | apply Kd.U_alloc | apply Kd.U_drewN | apply Kd.U_drew)); exact HO355.out⟩, ⟨by (try simp only [hl6_2]); exact BK346.out⟩, ⟨by (try simp only [hl6_2]); exact BK347.out⟩, ⟨by repeat (with_reducible first | exact HB.out | apply below_alloc | apply pw_below_drewN | apply below_drew1 | refine below_set ?_ GE346.out | refine below_set ?_ GE347.out)⟩⟩
               ·
                rw [if_neg c49] at H
                exact absurd H (by simp)
              ·
               rw [if_neg c48] at H
               exact absurd H (by simp)
            ·
             rw [if_neg c45] at H
             have c45b0 : decide (0 < (y353.length : Int)) = false := decide_eq_false c45
             have c45b1 : decide (0 < y353.length) = false := decide_eq_false (by omega)
             clear c45
             (first | rw [c45b0] | rw [c45b2] | rw [c45b1] | (simp only [i64_w, i32_w]; rw [c45b0]) | skip)
             have H' := Aside0.mk H
             clear H
             go_wp2
             go_meet
             case rel => exact ⟨_, (y353), H', ⟨by have := HJ7.out; have := HK2.out; have := HJ31.out; first | omega | exact Nat.le_refl _⟩, ⟨by (try simp only [hl6_2]); exact Kd.V_mono HO_6.out (fun _ hk => ⟨hk.1.1, ⟨hk.2, ⟨hk.1.2.1, hk.1.2.2⟩⟩⟩)⟩, ⟨by (try simp only [hl6_2]); (with_reducible repeat (first | apply Kd.U_alloc | apply Kd.U_drewN | apply Kd.U_drew)); exact Kd.U_mono HO355.out (fun _ hk => hk.1)⟩, ⟨by (try simp only [hl6_2]); exact BK346.out⟩, ⟨by (try simp only [hl6_2]); exact BK347.out⟩, ⟨by repeat (with_reducible first | exact HB.out | apply below_alloc | apply pw_below_drewN | apply below_drew1 | refine below_set ?_ GE346.out | refine below_set ?_ GE347.out)⟩⟩
           case rest =>
            clear HC41
            (try clear c1); (try clear c2); (try clear p2); (try clear c3); (try clear p3); (try clear q3); (try clear hx3); (try clear c4); (try clear c5); (try clear p5); (try clear q5); (try clear hx5); (try clear c6); (try clear p6); (try clear c11); (try clear c11b0); (try clear c11b1); (try clear c12); (try clear c12b0); (try clear c13); (try clear c15); (try clear c15b0); (try clear c16); (try clear c19); (try clear c19b0); (try clear c19b1); (try clear c20); (try clear c23); (try clear c26); (try clear c29); (try clear c29b0); (try clear c33); (try clear p35); (try clear q35); (try clear hx35); (try clear c37); (try clear c38); (try clear c38b0); (try clear c38b1); (try clear c39); (try clear c40); (try clear c40b0); (try clear c40b1); (try clear c40b2); (try clear c45); (try clear c45b0); (try clear c45b1); (try clear c46); (try clear c46b0); (try clear c46b1); (try clear c46b2); (try clear c48); (try clear c48b0); (try clear c49); (try clear c49b0); (try clear p50); (try clear q50); (try clear hx50); (try clear hf50); (try clear hcz14_0); (try clear hcz14_1); (try clear hcz14_2); (try clear hcz14_3); (try clear hcz14_4); (try clear hcz17_0); (try clear hcz17_1); (try clear hcz17_2); (try clear hcz17_3); (try clear hcz17_4); (try clear hcz18_0); (try clear hcz18_1); (try clear hcz18_2); (try clear hcz18_3); (try clear hcz18_4); (try clear hcz21_0); (try clear hcz21_1); (try clear hcz21_2); (try clear hcz21_3); (try clear hcz21_4); (try clear hcz22_0); (try clear hcz22_1); (try clear hcz22_2); (try clear hcz22_3); (try clear hcz22_4); (try clear hcz24_0); (try clear hcz24_1); (try clear hcz24_2); (try clear hcz24_3); (try clear hcz24_4); (try clear hcz25_0); (try clear hcz25_1); (try clear hcz25_2); (try clear hcz25_3); (try clear hcz25_4); (try clear hcz34_0); (try clear hcz34_1); (try clear hcz34_2); (try clear hcz34_3); (try clear hcz34_4); (try clear hcz36_0); (try clear hcz36_1); (try clear hcz36_2); (try clear hcz36_3); (try clear hcz36_4); (try clear hfz14_0); (try clear hfz14_1); (try clear hfz14_2); (try clear hfz14_3); (try clear hfz14_4); (try clear hfz17_0); (try clear hfz17_1); (try clear hfz17_2); (try clear hfz17_3); (try clear hfz17_4); (try clear hfz18_0); (try clear hfz18_1); (try clear hfz18_2); (try clear hfz18_3); (try clear hfz18_4); (try clear hfz21_0); (try clear hfz21_1); (try clear hfz21_2); (try clear hfz21_3); (try clear hfz21_4); (try clear hfz22_0); (try clear hfz22_1); (try clear hfz22_2); (try clear hfz22_3); (try clear hfz22_4); (try clear hfz24_0); (try clear hfz24_1); (try clear hfz24_2); (try clear hfz24_3); (try clear hfz24_4); (try clear hfz25_0); (try clear hfz25_1); (try clear hfz25_2); (try clear hfz25_3); (try clear hfz25_4); (try clear hfz34_0); (try clear hfz34_1); (try clear hfz34_2); (try clear hfz34_3); (try clear hfz34_4); (try clear hfz36_0); (try clear hfz36_1); (try clear hfz36_2); (try clear hfz36_3); (try clear hfz36_4); (try clear hx356_0); (try clear hx50_0); (try clear p2); (try clear p356); (try clear p50); (try clear p6); (try clear q356); (try clear q50)
            obtain ⟨kq, x20_40, HA, HJ40, HO_6, HO_20, BK346, BK347, HB⟩ := hcut
            have hl20_40 := (Kd.U_reads' HO_20.out).1
            rw [hl20_40] at HO_20
            (try simp only [hl20_40])
            (try simp only [hl20_40] at BK346)
            (try simp only [hl20_40] at BK347)
            (try simp only [hl20_40] at HO_6)
            cases kq with
            | zero => exact absurd HA.out (by simp [waybilllaw12_KeysTells.j3])
            | succ kj40 =>
             have H := HA.out
             clear HA
             simp only [waybilllaw12_KeysTells.j3] at H
             have H' := Aside0.mk H
             clear H
             go_wp2
             go_loopg [21] kj40 (fun kq v21 w' => ∃ (x21_5 : Int), v21 = .int .i64 x21_5 ∧ Aside0 (waybilllaw12_KeysTells.l1 kq a1 a2 a3 a4 x6_2 x15_2 t349 x20_40 x21_5 x347000_2 x347001_2 x347002_2 x347003_2 x347004_2 a5_0 a5_1 a5_2 a5_3 l5_4 = some r) ∧ Aside0 (kq ≤ kj40) ∧ Aside0 (Kd.V (Kd.int .u8) 5 w' w.heap.size (fun k_ => (P6_ k_ ∨ w.heap.size ≤ k_) ∧ some k_ ≠ ((.slice Ao44 x20_40.length co44) : Value).ownBlock ∧ k_ ≠ gb346 ∧ k_ ≠ gb347) (.slice A6 x6_2.length c6) x6_2) ∧ Aside0 (Kd.U (Kd.int .u8) 5 w' w.heap.size (fun k_ => (w.heap.size ≤ k_)) (.slice Ao44 x20_40.length co44) x20_40) ∧ Aside0 (w'.heap[gb346]? = some (.cells #[.int .i64 x347000_2, .string x347001_2, .string x347002_2, .string x347003_2, .int .u64 x347004_2] 74 (0, 0))) ∧ Aside0 (w'.heap[gb347]? = some (.cells #[.string a5_0, .string a5_1, .string a5_2, .int .i64 a5_3, (.slice A5_4 l5_4.length c5_4)] 77 (0, 0))) ∧ Aside0 (Below w.heap.size w w'))
             case atStart => exact ⟨(0), (by first | rfl | (simp; done) | (simp [*]; done)), H', ⟨Nat.le_refl _⟩, ⟨by (try simp only [hl6_2]); (try simp only [hl20_40]); exact HO_6.out⟩, ⟨by (try simp only [hl6_2]); (try simp only [hl20_40]); (with_reducible repeat (first | apply Kd.U_alloc | apply Kd.U_drewN | apply Kd.U_drew)); exact HO_20.out⟩, ⟨by (try simp only [hl6_2]); (try simp only [hl20_40]); exact BK346.out⟩, ⟨by (try simp only [hl6_2]); (try simp only [hl20_40]); exact BK347.out⟩, ⟨by repeat (with_reducible first | exact HB.out | apply below_alloc | apply pw_below_drewN | apply below_drew1 | refine below_set ?_ GE346.out | refine below_set ?_ GE347.out)⟩⟩
             case round =>
              clear H'
              (try clear c1); (try clear c2); (try clear p2); (try clear c3); (try clear p3); (try clear q3); (try clear hx3); (try clear c4); (try clear c5); (try clear p5); (try clear q5); (try clear hx5); (try clear c6); (try clear p6); (try clear c11); (try clear c11b0); (try clear c11b1); (try clear c12); (try clear c12b0); (try clear c13); (try clear c15); (try clear c15b0); (try clear c16); (try clear c19); (try clear c19b0); (try clear c19b1); (try clear c20); (try clear c23); (try clear c26); (try clear c29); (try clear c29b0); (try clear c33); (try clear p35); (try clear q35); (try clear hx35); (try clear c37); (try clear c38); (try clear c38b0); (try clear c38b1); (try clear c39); (try clear c40); (try clear c40b0); (try clear c40b1); (try clear c40b2); (try clear c45); (try clear c45b0); (try clear c45b1); (try clear c46); (try clear c46b0); (try clear c46b1); (try clear c46b2); (try clear c48); (try clear c48b0); (try clear c49); (try clear c49b0); (try clear p50); (try clear q50); (try clear hx50); (try clear hf50); (try clear hcz14_0); (try clear hcz14_1); (try clear hcz14_2); (try clear hcz14_3); (try clear hcz14_4); (try clear hcz17_0); (try clear hcz17_1); (try clear hcz17_2); (try clear hcz17_3); (try clear hcz17_4); (try clear hcz18_0); (try clear hcz18_1); (try clear hcz18_2); (try clear hcz18_3); (try clear hcz18_4); (try clear hcz21_0); (try clear hcz21_1); (try clear hcz21_2); (try clear hcz21_3); (try clear hcz21_4); (try clear hcz22_0); (try clear hcz22_1); (try clear hcz22_2); (try clear hcz22_3); (try clear hcz22_4); (try clear hcz24_0); (try clear hcz24_1); (try clear hcz24_2); (try clear hcz24_3); (try clear hcz24_4); (try clear hcz25_0); (try clear hcz25_1); (try clear hcz25_2); (try clear hcz25_3); (try clear hcz25_4); (try clear hcz34_0); (try clear hcz34_1); (try clear hcz34_2); (try clear hcz34_3); (try clear hcz34_4); (try clear hcz36_0); (try clear hcz36_1); (try clear hcz36_2); (try clear hcz36_3); (try clear hcz36_4); (try clear hfz14_0); (try clear hfz14_1); (try clear hfz14_2); (try clear hfz14_3); (try clear hfz14_4); (try clear hfz17_0); (try clear hfz17_1); (try clear hfz17_2); (try clear hfz17_3); (try clear hfz17_4); (try clear hfz18_0); (try clear hfz18_1); (try clear hfz18_2); (try clear hfz18_3); (try clear hfz18_4); (try clear hfz21_0); (try clear hfz21_1); (try clear hfz21_2); (try clear hfz21_3); (try clear hfz21_4); (try clear hfz22_0); (try clear hfz22_1); (try clear hfz22_2); (try clear hfz22_3); (try clear hfz22_4); (try clear hfz24_0); (try clear hfz24_1); (try clear hfz24_2); (try clear hfz24_3); (try clear hfz24_4); (try clear hfz25_0); (try clear hfz25_1); (try clear hfz25_2); (try clear hfz25_3); (try clear hfz25_4); (try clear hfz34_0); (try clear hfz34_1); (try clear hfz34_2); (try clear hfz34_3); (try clear hfz34_4); (try clear hfz36_0); (try clear hfz36_1); (try clear hfz36_2); (try clear hfz36_3); (try clear hfz36_4); (try clear hx356_0); (try clear hx50_0); (try clear p2); (try clear p3); (try clear p35); (try clear p356); (try clear p5); (try clear p50); (try clear p6); (try clear q3); (try clear q35); (try clear q356); (try clear q5); (try clear q50)
              obtain ⟨x21_5, rfl, HA, HK5, HO_6, HO_20, BK346, BK347, HB⟩ := hrel
              cases gk with
              | zero => exact absurd HA.out (by simp [waybilllaw12_KeysTells.l1])
              | succ k5 =>
               have H := HA.out
               clear HA
               simp only [waybilllaw12_KeysTells.l1] at H
               by_cases c53 : x21_5 < 4
               ·
                rw [if_pos c53] at H
                have c53b0 : decide (x21_5 < 4) = true := decide_eq_true c53
                clear c53
                by_cases c54 : (wrap64 ((t349.size : Int) + 1)) = 0
                ·
                 rw [if_pos c54] at H
                 exact absurd H (by simp)
                ·
                 rw [if_neg c54] at H
                 have c54b0 : ((wrap64 ((t349.size : Int) + 1)) == 0) = false := beq_eq_false_iff_ne.mpr c54
                 have c54b1 : ((wrap64 ((t349.size : Int) + 1)) != 0) = true := bne_iff_ne.mpr c54
                 obtain ⟨ji55, hji55⟩ : ∃ j_ : Int, (Int.tmod (Go.bits .and .i64 a4 65535) (wrap64 ((t349.size : Int) + 1))) = j_ := ⟨_, rfl⟩
                 replace H : (if 0 ≤ (ji55) then (if (ji55) ≤ (t349.size : Int) then (if t349.size + a1.size ≤ 9223372036854775807 then ((some (([a1, strOfNums x20_40, t349.extract 0 ((ji55) : Int).toNat, t349 ++ a1] : List ByteArray) : List ByteArray)).bind fun y363 => (if 0 ≤ x21_5 then (if x21_5 < (y363.length : Int) then ((keys_Parse.f k5 (rdOf ByteArray.empty y363 x21_5)).bind fun bt367 => ((waybillref7_KeyOf.f k5 (rdOf ByteArray.empty y363 x21_5)).bind fun bt374 => (if (!(bt367.1 == bt374.1) || (!(bt367.2.1.toList == bt374.2.1.toList) || (!(bt367.2.2.1.toList == bt374.2.2.1.toList) || (!(bt367.2.2.2.1.toList == bt374.2.2.2.1.toList) || (!(bt367.2.2.2.2.1 == bt374.2.2.2.2.1)))))) = true then (none) else (if (bt367.2.2.2.2.2 != bt374.2.2.2.2.2) = true then (none) else (waybilllaw12_KeysTells.l1 k5 a1 a2 a3 a4 x6_2 x15_2 t349 x20_40 (wrap64 (x21_5 + 1)) x347000_2 x347001_2 x347002_2 x347003_2 x347004_2 a5_0 a5_1 a5_2 a5_3 l5_4))))) else (none)) else (none))) else (none)) else (none)) else (none)) = some r := by first | (rw [hji55] at H; exact H) | (simp only [hji55] at H ⊢; exact H)
                 by_cases c56 : 0 ≤ (ji55)
                 ·
                  rw [if_pos c56] at H
                  have c56b0 := eq_true c56
                  have c56b1 : decide (0 ≤ (ji55)) = true := decide_eq_true c56
                  clear c56
                  by_cases c57 : (ji55) ≤ (t349.size : Int)
                  ·
                   rw [if_pos c57] at H
                   have c57b0 := eq_true c57
                   have c57b1 : decide ((ji55) ≤ (t349.size : Int)) = true := decide_eq_true c57
                   clear c57
                   by_cases c58 : t349.size + a1.size ≤ 9223372036854775807
                   ·
                    rw [if_pos c58] at H
                    have c58b0 := eq_true c58
                    have c58b1 : decide (t349.size + a1.size ≤ 9223372036854775807) = true := decide_eq_true c58
                    try have c58b2 : (9223372036854775807 < t349.size + a1.size) = False := eq_false (Nat.not_lt.2 c58)
                    obtain ⟨y363, hy363⟩ : ∃ y_ : List ByteArray, y_ = (([a1, strOfNums x20_40, t349.extract 0 ((ji55) : Int).toNat, t349 ++ a1] : List ByteArray)) := ⟨_, rfl⟩
                    replace H : (if 0 ≤ x21_5 then (if x21_5 < (y363.length : Int) then ((keys_Parse.f k5 (rdOf ByteArray.empty y363 x21_5)).bind fun bt367 => ((waybillref7_KeyOf.f k5 (rdOf ByteArray.empty y363 x21_5)).bind fun bt374 => (if (!(bt367.1 == bt374.1) || (!(bt367.2.1.toList == bt374.2.1.toList) || (!(bt367.2.2.1.toList == bt374.2.2.1.toList) || (!(bt367.2.2.2.1.toList == bt374.2.2.2.1.toList) || (!(bt367.2.2.2.2.1 == bt374.2.2.2.2.1)))))) = true then (none) else (if (bt367.2.2.2.2.2 != bt374.2.2.2.2.2) = true then (none) else (waybilllaw12_KeysTells.l1 k5 a1 a2 a3 a4 x6_2 x15_2 t349 x20_40 (wrap64 (x21_5 + 1)) x347000_2 x347001_2 x347002_2 x347003_2 x347004_2 a5_0 a5_1 a5_2 a5_3 l5_4))))) else (none)) else (none)) = some r := by first | (rw [hy363]; with_reducible exact H) | (have H2_ := (Option.bind_some _ _).symm.trans H; rw [hy363]; with_reducible exact H2_) | (have H2_ := (Option.bind_some _ _).symm.trans H; with_reducible exact H2_) | with_reducible exact H | (rw [hy363]; exact H) | exact H
                    have Ny363 := Aside0.mk hy363
                    clear hy363
                    by_cases c59 : 0 ≤ x21_5
                    ·
                     rw [if_pos c59] at H
                     have c59b0 : decide (0 ≤ x21_5) = true := decide_eq_true c59
                     clear c59
                     by_cases c60 : x21_5 < (y363.length : Int)
                     ·
                      rw [if_pos c60] at H
                      have c60b0 : decide (x21_5 < (y363.length : Int)) = true := decide_eq_true c60
                      clear c60
                      replace H := Option.bind_eq_some_iff.mp H
                      obtain ⟨⟨t367, t368, t369, t370, t371, t372⟩, A610, H⟩ := H
                      replace H : ((waybillref7_KeyOf.f k5 (rdOf ByteArray.empty y363 x21_5)).bind fun bt374 => (if (!(t367 == bt374.1) || (!(t368.toList == bt374.2.1.toList) || (!(t369.toList == bt374.2.2.1.toList) || (!(t370.toList == bt374.2.2.2.1.toList) || (!(t371 == bt374.2.2.2.2.1)))))) = true then (none) else (if (t372 != bt374.2.2.2.2.2) = true then (none) else (waybilllaw12_KeysTells.l1 k5 a1 a2 a3 a4 x6_2 x15_2 t349 x20_40 (wrap64 (x21_5 + 1)) x347000_2 x347001_2 x347002_2 x347003_2 x347004_2 a5_0 a5_1 a5_2 a5_3 l5_4)))) = some r := H
                      have A61 := Aside0.mk A610
                      clear A610
                      replace H := Option.bind_eq_some_iff.mp H
                      obtain ⟨⟨t374, t375, t376, t377, t378, t379⟩, A620, H⟩ := H
                      replace H : (if (!(t367 == t374) || (!(t368.toList == t375.toList) || (!(t369.toList == t376.toList) || (!(t370.toList == t377.toList) || (!(t371 == t378)))))) = true then (none) else (if (t372 != t379) = true then (none) else (waybilllaw12_KeysTells.l1 k5 a1 a2 a3 a4 x6_2 x15_2 t349 x20_40 (wrap64 (x21_5 + 1)) x347000_2 x347001_2 x347002_2 x347003_2 x347004_2 a5_0 a5_1 a5_2 a5_3 l5_4))) = some r := H
                      have A62 := Aside0.mk A620
                      clear A620
                      by_cases c63 : (!(t367 == t374) || (!(t368.toList == t375.toList) || (!(t369.toList == t376.toList) || (!(t370.toList == t377.toList) || (!(t371 == t378)))))) = true
                      ·
                       rw [if_pos c63] at H
                       exact absurd H (by simp)
                      ·
                       rw [if_neg c63] at H
                       have c63b0 : (!(t367 == t374) || (!(t368.toList == t375.toList) || (!(t369.toList == t376.toList) || (!(t370.toList == t377.toList) || (!(t371 == t378)))))) = false := by simpa using c63
                       clear c63
                       by_cases c64 : (t372 != t379) = true
                       ·
                        rw [if_pos c64] at H
                        exact absurd H (by simp)
                       ·
                        rw [if_neg c64] at H
                        have c64b0 : (t372 != t379) = false := by simpa using c64
                        (try (have c64b1 : decide (t372 = t379) = true := by simpa using c64))
                        (try (have c64b2 : (t372 == t379) = true := by simpa using c64))
                        clear c64
                        have H' := Aside0.mk H
                        clear H
                        try go_wp2
                        have pi366 : (0 ≤ (x21_5 : Int)) = True := eq_true (of_decide_eq_true (by first | (with_reducible assumption) | assumption))
                        have qi366 : (x21_5 < (y363.length : Int)) = True := eq_true (of_decide_eq_true (by first | (with_reducible assumption) | assumption))
                        have n0_ := Aside0.mk (Kd.V_drew HO_6.out)
                        have n1_ := Aside0.mk (Kd.U_drew HO_20.out)
                        have n2_ := Aside0.mk (blk_drew BK346.out)
                        have n3_ := Aside0.mk (blk_drew BK347.out)
                        have n4_ := Aside0.mk (below_drew1 HB.out)
                        clear HO_6
                        clear HO_20
                        clear BK346
                        clear BK347
                        clear HB
                        have HO_6 := n0_
                        have HO_20 := n1_
                        have BK346 := n2_
                        have BK347 := n3_
                        have HB := n4_
                        clear n0_ n1_ n2_ n3_ n4_
                        refine start_ (n := 19) (S := fun w' => (convert 26 9 (Value.slice Ao44 x20_40.length co44)).run Try.prog w' = .ok (.string (strOfNums x20_40)) w') (ds := []) #[false, false, false, false, false, false, false, false, false, false, false, false, false, false, false, false, false, false, false] (by kernel_rfl) rfl rfl ((Kd.C_string (P := Try.prog) (A := Ao44) (c := co44) Try.underlying26 Try.underlying5 Try.underlying9 ((Kd.U_reads' HO_20.out).2.2))) (fun hHeld => ?_); refine with_tabW waybilllaw12_KeysTells.tab16 waybilllaw12_KeysTells.bits16 (fun HT_ HW_ => ?_)
                        generalize wr.drew = w65 at HO_6 HO_20 BK346 BK347 HB hHeld ⊢
                        refine pure_ (i := 0) (N := some 122) (v := ?_) (a' := ?_) #[true, false, false, false, false, false, false, false, false, false, false, false, false, false, false, false, false, false, false] rfl rfl (any_of HT_.out (by kernel_rfl)) (fun _ _ _ h => h) (Or.inl ⟨by rfl, ?_⟩) ?_ ?_
                        rotate_left
                        ·
                         intro w'
                         go_simp
                         with_reducible rfl
                        rotate_left
                        ·
                         simp only [Act.put, List.setIfInBounds_toArray, List.set_cons_zero, List.set_cons_succ, i64_w, i32_w]
                         rfl
                        refine pure_ (i := 1) (N := some 123) (v := ?_) (a' := ?_) #[true, true, false, false, false, false, false, false, false, false, false, false, false, false, false, false, false, false, false] rfl rfl (any_of HT_.out (by kernel_rfl)) (fun _ _ _ h => h) (Or.inl ⟨by rfl, ?_⟩) ?_ ?_
                        rotate_left
                        ·
                         intro w'
                         go_simp
                         with_reducible rfl
                        rotate_left
                        ·
                         simp only [Act.put, List.setIfInBounds_toArray, List.set_cons_zero, List.set_cons_succ, i64_w, i32_w]
                         rfl
                        refine pure_ (i := 3) (N := some 125) (v := ?_) (a' := ?_) #[true, true, false, true, false, false, false, false, false, false, false, false, false, false, false, false, false, false, false] rfl rfl (any_of HT_.out (by kernel_rfl)) (fun _ _ _ h => h) (Or.inl ⟨by rfl, ?_⟩) ?_ ?_
                        rotate_left
                        ·
                         intro w'
                         go_simp
                         with_reducible rfl
                        rotate_left
                        ·
                         simp only [Act.put, List.setIfInBounds_toArray, List.set_cons_zero, List.set_cons_succ, i64_w, i32_w]
                         rfl
                        refine pure_ (i := 4) (N := some 126) (v := ?_) (a' := ?_) #[true, true, false, true, true, false, false, false, false, false, false, false, false, false, false, false, false, false, false] rfl rfl (any_of HT_.out (by kernel_rfl)) (fun _ _ _ h => h) (Or.inl ⟨by rfl, ?_⟩) ?_ ?_
                        rotate_left
                        ·
                         intro w'
                         go_simp
                         with_reducible rfl
                        rotate_left
                        ·
                         simp only [Act.put, List.setIfInBounds_toArray, List.set_cons_zero, List.set_cons_succ, i64_w, i32_w]
                         rfl
                        refine pure_ (i := 5) (N := some 127) (v := ?_) (a' := ?_) #[true, true, false, true, true, true, false, false, false, false, false, false, false, false, false, false, false, false, false] rfl rfl (any_of HT_.out (by kernel_rfl)) (fun _ _ _ h => h) (Or.inl ⟨by rfl, ?_⟩) ?_ ?_
                        rotate_left
                        ·
                         intro w'
                         go_simp
                         with_reducible rfl
                        rotate_left
                        ·
                         simp only [Act.put, List.setIfInBounds_toArray, List.set_cons_zero, List.set_cons_succ, i64_w, i32_w]
                         rfl
                        refine pure_ (i := 6) (N := some 128) (v := ?_) (a' := ?_) #[true, true, false, true, true, true, true, false, false, false, false, false, false, false, false, false, false, false, false] rfl rfl (any_of HT_.out (by kernel_rfl)) (fun _ _ _ h => h) (Or.inl ⟨by rfl, ?_⟩) ?_ ?_
                        rotate_left
                        ·
                         intro w'
                         go_simp
                         with_reducible rfl
                        rotate_left
                        ·
                         simp only [Act.put, List.setIfInBounds_toArray, List.set_cons_zero, List.set_cons_succ, i64_w, i32_w]
                         rfl
                        refine pure_ (i := 7) (N := some 129) (v := ?_) (a' := ?_) #[true, true, false, true, true, true, true, true, false, false, false, false, false, false, false, false, false, false, false] rfl rfl (any_of HT_.out (by kernel_rfl)) (fun _ _ _ h => h) (Or.inl ⟨by rfl, ?_⟩) ?_ ?_
                        rotate_left
                        ·
                         intro w'
                         go_simp
                         with_reducible rfl
                        rotate_left
                        ·
                         simp only [Act.put, List.setIfInBounds_toArray, List.set_cons_zero, List.set_cons_succ, i64_w, i32_w]
                         rfl
                        refine pure_ (i := 8) (N := some 130) (v := ?_) (a' := ?_) #[true, true, false, true, true, true, true, true, true, false, false, false, false, false, false, false, false, false, false] rfl rfl (any_of HT_.out (by kernel_rfl)) (fun _ _ _ h => h) (Or.inl ⟨by rfl, ?_⟩) ?_ ?_
                        rotate_left
                        ·
                         intro w'
                         go_simp
                         with_reducible rfl
                        rotate_left
                        ·
                         simp only [Act.put, List.setIfInBounds_toArray, List.set_cons_zero, List.set_cons_succ, i64_w, i32_w]
                         rfl
                        refine pure_ (i := 9) (N := some 131) (v := ?_) (a' := ?_) #[true, true, false, true, true, true, true, true, true, true, false, false, false, false, false, false, false, false, false] rfl rfl (any_of HT_.out (by kernel_rfl)) (fun _ _ _ h => h) (Or.inl ⟨by rfl, ?_⟩) ?_ ?_
                        rotate_left
                        ·
                         intro w'
                         go_simp
                         with_reducible rfl
                        rotate_left
                        ·
                         simp only [Act.put, List.setIfInBounds_toArray, List.set_cons_zero, List.set_cons_succ, i64_w, i32_w]
                         rfl
                        refine pure_ (i := 10) (N := some 132) (v := ?_) (a' := ?_) #[true, true, false, true, true, true, true, true, true, true, true, false, false, false, false, false, false, false, false] rfl rfl (any_of HT_.out (by kernel_rfl)) (fun _ _ _ h => h) (Or.inl ⟨by rfl, ?_⟩) ?_ ?_
                        rotate_left
                        ·
                         intro w'
                         go_simp
                         with_reducible rfl
                        rotate_left
                        ·
                         simp only [Act.put, List.setIfInBounds_toArray, List.set_cons_zero, List.set_cons_succ, i64_w, i32_w]
                         rfl
                        refine pure_ (i := 11) (N := some 133) (v := ?_) (a' := ?_) #[true, true, false, true, true, true, true, true, true, true, true, true, false, false, false, false, false, false, false] rfl rfl (any_of HT_.out (by kernel_rfl)) (fun _ _ _ h => h) (Or.inl ⟨by rfl, ?_⟩) ?_ ?_
                        rotate_left
                        ·
                         intro w'
                         go_simp
                         with_reducible rfl
                        rotate_left
                        ·
                         simp only [Act.put, List.setIfInBounds_toArray, List.set_cons_zero, List.set_cons_succ, i64_w, i32_w]
                         rfl
                        refine pure_ (i := 12) (N := some 134) (v := ?_) (a' := ?_) #[true, true, false, true, true, true, true, true, true, true, true, true, true, false, false, false, false, false, false] rfl rfl (any_of HT_.out (by kernel_rfl)) (fun _ _ _ h => h) (Or.inl ⟨by rfl, ?_⟩) ?_ ?_
                        rotate_left
                        ·
                         intro w'
                         go_simp
                         with_reducible rfl
                        rotate_left
                        ·
                         simp only [Act.put, List.setIfInBounds_toArray, List.set_cons_zero, List.set_cons_succ, i64_w, i32_w]
                         rfl
                        refine pure_ (i := 13) (N := some 135) (v := ?_) (a' := ?_) #[true, true, false, true, true, true, true, true, true, true, true, true, true, true, false, false, false, false, false] rfl rfl (any_of HT_.out (by kernel_rfl)) (fun _ _ _ h => h) (Or.inl ⟨by rfl, ?_⟩) ?_ ?_
                        rotate_left
                        ·
                         intro w'
                         go_simp
                         with_reducible rfl
                        rotate_left
                        ·
                         simp only [Act.put, List.setIfInBounds_toArray, List.set_cons_zero, List.set_cons_succ, i64_w, i32_w]
                         rfl
                        refine pure_ (i := 15) (N := some 137) (v := ?_) (a' := ?_) #[true, true, false, true, true, true, true, true, true, true, true, true, true, true, false, true, false, false, false] rfl rfl (any_of HT_.out (by kernel_rfl)) (fun _ _ _ h => h) (Or.inl ⟨by rfl, ?_⟩) ?_ ?_
                        rotate_left
                        ·
                         intro w'
                         go_simp
                         with_reducible rfl
                        rotate_left
                        ·
                         simp only [Act.put, List.setIfInBounds_toArray, List.set_cons_zero, List.set_cons_succ, i64_w, i32_w]
                         rfl
                        refine take_ (i := 2) (N := some 124) (v := ?_) (a' := ?_) #[true, true, true, true, true, true, true, true, true, true, true, true, true, true, false, true, false, false, false] rfl rfl (take_ofW HT_.out HW_.out (by kernel_rfl)) (fun _ _ _ h => h) (Or.inl ⟨by rfl, ?_⟩) hHeld ?_ ?_
                        rotate_left
                        ·
                         intro w' s0
                         go_simp
                         with_reducible rfl
                        rotate_left
                        ·
                         simp only [Act.put, List.setIfInBounds_toArray, List.set_cons_zero, List.set_cons_succ, i64_w, i32_w]
                         rfl
                        refine one_ (i := 14) (N := some 136) #[true, true, true, true, true, true, true, true, true, true, true, true, true, true, true, true, false, false, false] rfl rfl (one_of HT_.out (by kernel_rfl)) (by decide) (fun K hK => ?_)
                        refine Kd.R_lit_step Kd.string _ 9 ?hg (N := 136) ?hd (xs := ([a1, strOfNums x20_40, t349.extract 0 ((ji55) : Int).toNat, t349 ++ a1] : List ByteArray)) (inner := [.string a1, .string (strOfNums x20_40), .string (t349.extract 0 ((ji55) : Int).toNat), .string (t349 ++ a1)]) (ok := fun _ => True) (okp := fun _ => True) ?hr ?hp (fun _ hk => hk) trivial (Below.refl _ _) (Nat.le_refl _) (by simp) ?_; (case hd => rfl); (case hg => rfl); (case hr => first | (go_simp; done) | (go_simp; rfl)); (case hp => exact (Reps.one (show Kd.M Kd.string _ _ _ a1 [.string a1] from rfl) (Reps.one (show Kd.M Kd.string _ _ _ (strOfNums x20_40) [.string (strOfNums x20_40)] from rfl) (Reps.one (show Kd.M Kd.string _ _ _ (t349.extract 0 ((ji55) : Int).toNat) [.string (t349.extract 0 ((ji55) : Int).toNat)] from rfl) (Reps.one (show Kd.M Kd.string _ _ _ (t349 ++ a1) [.string (t349 ++ a1)] from rfl) (Reps.none _ _))))))
                        intro v364 w66 ho67 hb hg_ hnew_
                        clear hg_ hnew_
                        (first | rw [← Ny363.out] at ho67 | (simp only [Int.reduceToNat] at ho67; rw [← Ny363.out] at ho67))
                        have n0_ := Aside0.mk (Kd.V_elder' (by exact HO_6.out) (Kd.R_base ho67) hb)
                        have n1_ := Aside0.mk (Kd.U_below (by (with_reducible repeat (first | apply Kd.U_alloc | apply Kd.U_drewN | apply Kd.U_drew)); exact HO_20.out) hb)
                        have n2_ := Aside0.mk (Kd.R_lower (Kd.R_newM (M := fun k_ => (w.heap.size ≤ k_)) ho67 (below_size (by repeat (with_reducible first | exact HB.out | apply below_alloc | apply pw_below_drewN | apply below_drew1 | refine below_set ?_ GE346.out | refine below_set ?_ GE347.out))) (fun k_ h_ => h_)) (below_size (by repeat (with_reducible first | exact HB.out | apply below_alloc | apply pw_below_drewN | apply below_drew1 | refine below_set ?_ GE346.out | refine below_set ?_ GE347.out))))
                        have n3_ := Aside0.mk (blk_below (g := gb346) (o := .cells #[.int .i64 x347000_2, .string x347001_2, .string x347002_2, .string x347003_2, .int .u64 x347004_2] 74 (0, 0)) (by exact BK346.out) hb)
                        have n4_ := Aside0.mk (blk_below (g := gb347) (o := .cells #[.string a5_0, .string a5_1, .string a5_2, .int .i64 a5_3, .slice A5_4 l5_4.length c5_4] 77 (0, 0)) (by exact BK347.out) hb)
                        have n5_ := Aside0.mk (below_step (by repeat (with_reducible first | exact HB.out | apply below_alloc | apply pw_below_drewN | apply below_drew1 | refine below_set ?_ GE346.out | refine below_set ?_ GE347.out)) hb)
                        clear HO_6
                        clear HO_20
                        clear BK346
                        clear BK347
                        clear HB
                        have HO_6 := n0_
                        have HO_20 := n1_
                        have HO365 := n2_
                        have BK346 := n3_
                        have BK347 := n4_
                        have HB := n5_
                        clear n0_ n1_ n2_ n3_ n4_ n5_
                        clear hb ho67
                        obtain ⟨Ao68, co68, eo68⟩ := Kd.R_slice HO365.out
                        subst eo68
                        obtain ⟨ado68, fo68, _⟩ := Kd.at_string (Kd.R_reads' HO365.out).2.2 0 (by decide) (by rw [Ny363.out]; simp)
                        cases fo68
                        refine hK.out _ _ ((Kd.C_string (P := Try.prog) (A := Ao44) (c := co44) Try.underlying26 Try.underlying5 Try.underlying9 ((Kd.U_reads' HO_20.out).2.2))) (fun hHeld => ?_)
                        clear hK K
                        refine norm_ (a' := ?_) ?_ ?_
                        rotate_left
                        ·
                         show Act.put _ (some 136) _ = _
                         simp only [Act.put, List.setIfInBounds_toArray, List.set_cons_zero, List.set_cons_succ, i64_w, i32_w]
                         rfl
                        refine pure_ (i := 16) (N := some 138) (v := ?_) (a' := ?_) #[true, true, true, true, true, true, true, true, true, true, true, true, true, true, true, true, true, false, false] rfl rfl (any_of HT_.out (by kernel_rfl)) (fun _ _ _ h => h) (Or.inl ⟨by rfl, ?_⟩) ?_ ?_
                        rotate_left
                        ·
                         intro w'
                         go_simp
                         with_reducible rfl
                        rotate_left
                        ·
                         simp only [Act.put, List.setIfInBounds_toArray, List.set_cons_zero, List.set_cons_succ, i64_w, i32_w]
                         rfl
                        refine one_ (i := 17) (N := some 139) #[true, true, true, true, true, true, true, true, true, true, true, true, true, true, true, true, true, true, false] rfl rfl (one_of HT_.out (by kernel_rfl)) (by decide) (fun K hK => ?_)
                        (have p366 : 0 ≤ (x21_5 : Int) := of_decide_eq_true (by first | (with_reducible assumption) | assumption); have q366 : x21_5 < (y363.length : Int) := of_decide_eq_true (by first | (with_reducible assumption) | assumption); obtain ⟨ad366, e366, hx366_0⟩ := Kd.at_string (Kd.R_reads' HO365.out).2.2 x21_5 p366 q366; obtain rfl : ado68 = ad366 := (by injection e366))
                        refine value_ (w1 := ?_) (v := ?_) (by rfl) rfl ?_ ?_
                        rotate_left 2
                        ·
                         go_simp
                         constructor
                         ·
                          rfl
                         ·
                          rfl
                        clear hx366_0
                        refine hK.out _ _ ((Kd.C_string (P := Try.prog) (A := Ao44) (c := co44) Try.underlying26 Try.underlying5 Try.underlying9 ((Kd.U_reads' HO_20.out).2.2))) (fun hHeld => ?_)
                        clear hK K
                        refine norm_ (a' := ?_) ?_ ?_
                        rotate_left
                        ·
                         show Act.put _ (some 139) _ = _
                         simp only [Act.put, List.setIfInBounds_toArray, List.set_cons_zero, List.set_cons_succ, i64_w, i32_w]
                         rfl
                        refine pure_ (i := 18) (N := some 22) (v := ?_) (a' := ?_) #[true, true, true, true, true, true, true, true, true, true, true, true, true, true, true, true, true, true, true] rfl rfl (any_of HT_.out (by kernel_rfl)) (fun _ _ _ h => h) (Or.inl ⟨by rfl, ?_⟩) ?_ ?_
                        rotate_left
                        ·
                         intro w'
                         go_simp
                         with_reducible rfl
                        rotate_left
                        ·
                         simp only [Act.put, List.setIfInBounds_toArray, List.set_cons_zero, List.set_cons_succ, i64_w, i32_w]
                         rfl
                        refine done_ (done_of HT_.out (by kernel_rfl)) ?_
                        try go_wp2_with (first | ((with_reducible refine gate_callee (f := 41) rfl ?_); refine goesL_ (some 142) rfl rfl Try.func41 (by kernel_rfl) rfl #[.string (rdOf ByteArray.empty y363 x21_5)] rfl (by (try simp only [List.map_toArray, List.map_cons, List.map_nil]); first | done | rfl | (simp only [List.length_drop, List.length_take]; rfl)) ?_; (with_reducible refine (keys_Parse.calls k5 (rdOf ByteArray.empty y363 x21_5) t367 t368 t369 t370 t371 t372 _ A61.out).mono ?_); rintro e w69 ⟨rfl, hb⟩; refine ⟨_, rfl, ?_⟩; have n0_ := Aside0.mk (Kd.V_below (by exact HO_6.out) hb); have n1_ := Aside0.mk (Kd.U_below (by (with_reducible repeat (first | apply Kd.U_alloc | apply Kd.U_drewN | apply Kd.U_drew)); exact HO_20.out) hb); have n2_ := Aside0.mk (Kd.R_below (by exact HO365.out) hb); have n3_ := Aside0.mk (blk_below (g := gb346) (o := .cells #[.int .i64 x347000_2, .string x347001_2, .string x347002_2, .string x347003_2, .int .u64 x347004_2] 74 (0, 0)) (by exact BK346.out) hb); have n4_ := Aside0.mk (blk_below (g := gb347) (o := .cells #[.string a5_0, .string a5_1, .string a5_2, .int .i64 a5_3, .slice A5_4 l5_4.length c5_4] 77 (0, 0)) (by exact BK347.out) hb); have n5_ := Aside0.mk (below_step (by repeat (with_reducible first | exact HB.out | apply below_alloc | apply pw_below_drewN | apply below_drew1 | refine below_set ?_ GE346.out | refine below_set ?_ GE347.out)) hb); clear HO_6; clear HO_20; clear HO365; clear BK346; clear BK347; clear HB; have HO_6 := n0_; have HO_20 := n1_; have HO365 := n2_; have BK346 := n3_; have BK347 := n4_; have HB := n5_; clear n0_ n1_ n2_ n3_ n4_ n5_; (try clear hb); (try clear hb2); (try clear hk); (try clear hi); (try clear hge)) | ((with_reducible refine gate_dst (N := 23) rfl ?_); (try (refine gate_guard (by rfl) ?_; dsimp only)); refine box_event ?hg (N := 23) ?hd (cs := #[.int .i64 0, .string (⟨#[]⟩ : ByteArray), .string (⟨#[]⟩ : ByteArray), .string (⟨#[]⟩ : ByteArray), .int .u64 0]) (t := 74) ?hr ?_; (case hd => rfl); (case hg => rfl); (case hr => first | (go_simp; done) | (go_simp; rfl)); intro gb373 hg w70 hbox hb; have n0_ := Aside0.mk (Kd.V_below (Kd.V_elderB (by exact HO_6.out) gb373 (Nat.le_of_eq hg.symm)) hb); have n1_ := Aside0.mk (Kd.U_below (by (with_reducible repeat (first | apply Kd.U_alloc | apply Kd.U_drewN | apply Kd.U_drew)); exact HO_20.out) hb); have n2_ := Aside0.mk (Kd.R_below (by exact HO365.out) hb); have n3_ := Aside0.mk (blk_below (g := gb346) (o := .cells #[.int .i64 x347000_2, .string x347001_2, .string x347002_2, .string x347003_2, .int .u64 x347004_2] 74 (0, 0)) (by exact BK346.out) hb); have n4_ := Aside0.mk (blk_below (g := gb347) (o := .cells #[.string a5_0, .string a5_1, .string a5_2, .int .i64 a5_3, .slice A5_4 l5_4.length c5_4] 77 (0, 0)) (by exact BK347.out) hb); have n5_ := Aside0.mk (below_step (by repeat (with_reducible first | exact HB.out | apply below_alloc | apply pw_below_drewN | apply below_drew1 | refine below_set ?_ GE346.out | refine below_set ?_ GE347.out)) hb); have n6_ := Aside0.mk (hbox); have n7_ := Aside0.mk ((by rw [hg]; exact (below_size (by repeat (with_reducible first | exact HB.out | apply below_alloc | apply pw_below_drewN | apply below_drew1 | refine below_set ?_ GE346.out | refine below_set ?_ GE347.out))) : w.heap.size ≤ gb373)); have n8_ := Aside0.mk ((by rw [hg]; exact (below_size (by repeat (with_reducible first | exact HB.out | apply below_alloc | apply pw_below_drewN | apply below_drew1 | refine below_set ?_ GE346.out | refine below_set ?_ GE347.out))) : w.heap.size ≤ gb373)); have n9_ := Aside0.mk ((by rw [hg]; exact Nat.ne_of_lt (blk_lt (g := gb346) (o := .cells #[.int .i64 x347000_2, .string x347001_2, .string x347002_2, .string x347003_2, .int .u64 x347004_2] 74 (0, 0)) (by exact BK346.out)) : gb346 ≠ gb373)); have n10_ := Aside0.mk ((by rw [hg]; exact Nat.ne_of_gt (blk_lt (g := gb346) (o := .cells #[.int .i64 x347000_2, .string x347001_2, .string x347002_2, .string x347003_2, .int .u64 x347004_2] 74 (0, 0)) (by exact BK346.out)) : gb373 ≠ gb346)); have n11_ := Aside0.mk ((by rw [hg]; exact Nat.ne_of_lt (blk_lt (g := gb347) (o := .cells #[.string a5_0, .string a5_1, .string a5_2, .int .i64 a5_3, .slice A5_4 l5_4.length c5_4] 77 (0, 0)) (by exact BK347.out)) : gb347 ≠ gb373)); have n12_ := Aside0.mk ((by rw [hg]; exact Nat.ne_of_gt (blk_lt (g := gb347) (o := .cells #[.string a5_0, .string a5_1, .string a5_2, .int .i64 a5_3, .slice A5_4 l5_4.length c5_4] 77 (0, 0)) (by exact BK347.out)) : gb373 ≠ gb347)); clear HO_6; clear HO_20; clear HO365; clear BK346; clear BK347; clear HB; have HO_6 := n0_; have HO_20 := n1_; have HO365 := n2_; have BK346 := n3_; have BK347 := n4_; have HB := n5_; have BK373 := n6_; have GW373 := n7_; have GE373 := n8_; have NB346_373 := n9_; have NB373_346 := n10_; have NB347_373 := n11_; have NB373_347 := n12_; clear n0_ n1_ n2_ n3_ n4_ n5_ n6_ n7_ n8_ n9_ n10_ n11_ n12_; clear hb hbox hg; have hnb71 := NB373_346.out; have hnc71 := NB346_373.out; have hnb72 := NB373_347.out; have hnc72 := NB347_373.out; have hcz73_0 : w70.cell? ⟨gb373, 0, none⟩ = some (.int .i64 0) := (blk_cell BK373.out 0).trans rfl; have hcz73_1 : w70.cell? ⟨gb373, 1, none⟩ = some (.string (⟨#[]⟩ : ByteArray)) := (blk_cell BK373.out 1).trans rfl; have hcz73_2 : w70.cell? ⟨gb373, 2, none⟩ = some (.string (⟨#[]⟩ : ByteArray)) := (blk_cell BK373.out 2).trans rfl; have hcz73_3 : w70.cell? ⟨gb373, 3, none⟩ = some (.string (⟨#[]⟩ : ByteArray)) := (blk_cell BK373.out 3).trans rfl; have hcz73_4 : w70.cell? ⟨gb373, 4, none⟩ = some (.int .u64 0) := (blk_cell BK373.out 4).trans rfl; have hfz73_0 := blk_frozen BK373.out 0; have hfz73_1 := blk_frozen BK373.out 1; have hfz73_2 := blk_frozen BK373.out 2; have hfz73_3 := blk_frozen BK373.out 3; have hfz73_4 := blk_frozen BK373.out 4) | ((with_reducible refine gate_callee (f := 42) rfl ?_); refine goesL_ (some 147) rfl rfl Try.func42 (by kernel_rfl) rfl #[.string (rdOf ByteArray.empty y363 x21_5)] rfl (by (try simp only [List.map_toArray, List.map_cons, List.map_nil]); first | done | rfl | (simp only [List.length_drop, List.length_take]; rfl)) ?_; (with_reducible refine (waybillref7_KeyOf.calls k5 (rdOf ByteArray.empty y363 x21_5) t374 t375 t376 t377 t378 t379 _ A62.out).mono ?_); rintro e w74 ⟨rfl, hb⟩; refine ⟨_, rfl, ?_⟩; have n0_ := Aside0.mk (Kd.V_below (by exact (Kd.V_mono (Kd.V_far (p := ⟨gb373, 4, none⟩) (Kd.V_far (p := ⟨gb373, 3, none⟩) (Kd.V_far (p := ⟨gb373, 2, none⟩) (Kd.V_far (p := ⟨gb373, 1, none⟩) (Kd.V_far (p := ⟨gb373, 0, none⟩) (Kd.V_mono HO_6.out (fun k_ hk => (⟨hk, hk.2⟩ : _ ∧ k_ ≠ gb373))) (fun _ hk => hk.2) (.int .i64 t367)) (fun _ hk => hk.2) (.string t368)) (fun _ hk => hk.2) (.string t369)) (fun _ hk => hk.2) (.string t370)) (fun _ hk => hk.2) (.int .u64 t371)) (fun _ h_ => h_.1))) hb); have n1_ := Aside0.mk (Kd.U_below (by (with_reducible repeat (first | apply Kd.U_alloc | apply Kd.U_drewN | apply Kd.U_drew)); exact (Kd.U_mono (Kd.U_far (p := ⟨gb373, 4, none⟩) (Kd.U_far (p := ⟨gb373, 3, none⟩) (Kd.U_far (p := ⟨gb373, 2, none⟩) (Kd.U_far (p := ⟨gb373, 1, none⟩) (Kd.U_far (p := ⟨gb373, 0, none⟩) (Kd.U_types HO_20.out BK373.out (by decide)) (fun _ hk => hk.2) (.int .i64 t367)) (fun _ hk => hk.2) (.string t368)) (fun _ hk => hk.2) (.string t369)) (fun _ hk => hk.2) (.string t370)) (fun _ hk => hk.2) (.int .u64 t371)) (fun _ h_ => h_.1))) hb); have n2_ := Aside0.mk (Kd.R_below (by exact (Kd.R_mono (Kd.R_far (p := ⟨gb373, 4, none⟩) (Kd.R_far (p := ⟨gb373, 3, none⟩) (Kd.R_far (p := ⟨gb373, 2, none⟩) (Kd.R_far (p := ⟨gb373, 1, none⟩) (Kd.R_far (p := ⟨gb373, 0, none⟩) (Kd.R_types HO365.out BK373.out (by decide)) (fun _ hk => hk.2) (.int .i64 t367)) (fun _ hk => hk.2) (.string t368)) (fun _ hk => hk.2) (.string t369)) (fun _ hk => hk.2) (.string t370)) (fun _ hk => hk.2) (.int .u64 t371)) (fun _ h_ => h_.1))) hb); have n3_ := Aside0.mk (blk_below (g := gb346) (o := .cells #[.int .i64 x347000_2, .string x347001_2, .string x347002_2, .string x347003_2, .int .u64 x347004_2] 74 (0, 0)) (by refine blk_far ?_ NB346_373.out _; refine blk_far ?_ NB346_373.out _; refine blk_far ?_ NB346_373.out _; refine blk_far ?_ NB346_373.out _; refine blk_far ?_ NB346_373.out _; exact BK346.out) hb); have n4_ := Aside0.mk (blk_below (g := gb347) (o := .cells #[.string a5_0, .string a5_1, .string a5_2, .int .i64 a5_3, .slice A5_4 l5_4.length c5_4] 77 (0, 0)) (by refine blk_far ?_ NB347_373.out _; refine blk_far ?_ NB347_373.out _; refine blk_far ?_ NB347_373.out _; refine blk_far ?_ NB347_373.out _; refine blk_far ?_ NB347_373.out _; exact BK347.out) hb); have n5_ := Aside0.mk (blk_below (g := gb373) (o := .cells #[.int .i64 t367, .string t368, .string t369, .string t370, .int .u64 t371] 74 (0, 0)) (by refine blk_put (cs := #[.int .i64 t367, .string t368, .string t369, .string t370, .int .u64 0]) ?_ 4 _ rfl; refine blk_put (cs := #[.int .i64 t367, .string t368, .string t369, .string (⟨#[]⟩ : ByteArray), .int .u64 0]) ?_ 3 _ rfl; refine blk_put (cs := #[.int .i64 t367, .string t368, .string (⟨#[]⟩ : ByteArray), .string (⟨#[]⟩ : ByteArray), .int .u64 0]) ?_ 2 _ rfl; refine blk_put (cs := #[.int .i64 t367, .string (⟨#[]⟩ : ByteArray), .string (⟨#[]⟩ : ByteArray), .string (⟨#[]⟩ : ByteArray), .int .u64 0]) ?_ 1 _ rfl; refine blk_put (cs := #[.int .i64 0, .string (⟨#[]⟩ : ByteArray), .string (⟨#[]⟩ : ByteArray), .string (⟨#[]⟩ : ByteArray), .int .u64 0]) ?_ 0 _ rfl; exact BK373.out) hb); have n6_ := Aside0.mk (below_step (by repeat (with_reducible first | exact HB.out | apply below_alloc | apply pw_below_drewN | apply below_drew1 | refine below_set ?_ GE346.out | refine below_set ?_ GE347.out | refine below_set ?_ GE373.out)) hb); clear HO_6; clear HO_20; clear HO365; clear BK346; clear BK347; clear BK373; clear HB; have HO_6 := n0_; have HO_20 := n1_; have HO365 := n2_; have BK346 := n3_; have BK347 := n4_; have BK373 := n5_; have HB := n6_; clear n0_ n1_ n2_ n3_ n4_ n5_ n6_; (try clear hb); (try clear hb2); (try clear hk); (try clear hi); (try clear hge)) | ((with_reducible refine gate_dst (N := 25) rfl ?_); (try (refine gate_guard (by rfl) ?_; dsimp only)); refine box_event ?hg (N := 25) ?hd (cs := #[.int .i64 0, .string (⟨#[]⟩ : ByteArray), .string (⟨#[]⟩ : ByteArray), .string (⟨#[]⟩ : ByteArray), .int .u64 0]) (t := 74) ?hr ?_; (case hd => rfl); (case hg => rfl); (case hr => first | (go_simp; done) | (go_simp; rfl)); intro gb380 hg w75 hbox hb; have n0_ := Aside0.mk (Kd.V_below (Kd.V_elderB (by exact HO_6.out) gb380 (Nat.le_of_eq hg.symm)) hb); have n1_ := Aside0.mk (Kd.U_below (by (with_reducible repeat (first | apply Kd.U_alloc | apply Kd.U_drewN | apply Kd.U_drew)); exact HO_20.out) hb); have n2_ := Aside0.mk (Kd.R_below (by exact HO365.out) hb); have n3_ := Aside0.mk (blk_below (g := gb346) (o := .cells #[.int .i64 x347000_2, .string x347001_2, .string x347002_2, .string x347003_2, .int .u64 x347004_2] 74 (0, 0)) (by exact BK346.out) hb); have n4_ := Aside0.mk (blk_below (g := gb347) (o := .cells #[.string a5_0, .string a5_1, .string a5_2, .int .i64 a5_3, .slice A5_4 l5_4.length c5_4] 77 (0, 0)) (by exact BK347.out) hb); have n5_ := Aside0.mk (blk_below (g := gb373) (o := .cells #[.int .i64 t367, .string t368, .string t369, .string t370, .int .u64 t371] 74 (0, 0)) (by exact BK373.out) hb); have n6_ := Aside0.mk (below_step (by repeat (with_reducible first | exact HB.out | apply below_alloc | apply pw_below_drewN | apply below_drew1 | refine below_set ?_ GE346.out | refine below_set ?_ GE347.out | refine below_set ?_ GE373.out)) hb); have n7_ := Aside0.mk (hbox); have n8_ := Aside0.mk ((by rw [hg]; exact (below_size (by repeat (with_reducible first | exact HB.out | apply below_alloc | apply pw_below_drewN | apply below_drew1 | refine below_set ?_ GE346.out | refine below_set ?_ GE347.out | refine below_set ?_ GE373.out))) : w.heap.size ≤ gb380)); have n9_ := Aside0.mk ((by rw [hg]; exact (below_size (by repeat (with_reducible first | exact HB.out | apply below_alloc | apply pw_below_drewN | apply below_drew1 | refine below_set ?_ GE346.out | refine below_set ?_ GE347.out | refine below_set ?_ GE373.out))) : w.heap.size ≤ gb380)); have n10_ := Aside0.mk ((by rw [hg]; exact Nat.ne_of_lt (blk_lt (g := gb346) (o := .cells #[.int .i64 x347000_2, .string x347001_2, .string x347002_2, .string x347003_2, .int .u64 x347004_2] 74 (0, 0)) (by exact BK346.out)) : gb346 ≠ gb380)); have n11_ := Aside0.mk ((by rw [hg]; exact Nat.ne_of_gt (blk_lt (g := gb346) (o := .cells #[.int .i64 x347000_2, .string x347001_2, .string x347002_2, .string x347003_2, .int .u64 x347004_2] 74 (0, 0)) (by exact BK346.out)) : gb380 ≠ gb346)); have n12_ := Aside0.mk ((by rw [hg]; exact Nat.ne_of_lt (blk_lt (g := gb347) (o := .cells #[.string a5_0, .string a5_1, .string a5_2, .int .i64 a5_3, .slice A5_4 l5_4.length c5_4] 77 (0, 0)) (by exact BK347.out)) : gb347 ≠ gb380)); have n13_ := Aside0.mk ((by rw [hg]; exact Nat.ne_of_gt (blk_lt (g := gb347) (o := .cells #[.string a5_0, .string a5_1, .string a5_2, .int .i64 a5_3, .slice A5_4 l5_4.length c5_4] 77 (0, 0)) (by exact BK347.out)) : gb380 ≠ gb347)); have n14_ := Aside0.mk ((by rw [hg]; exact Nat.ne_of_lt (blk_lt (g := gb373) (o := .cells #[.int .i64 t367, .string t368, .string t369, .string t370, .int .u64 t371] 74 (0, 0)) (by exact BK373.out)) : gb373 ≠ gb380)); have n15_ := Aside0.mk ((by rw [hg]; exact Nat.ne_of_gt (blk_lt (g := gb373) (o := .cells #[.int .i64 t367, .string t368, .string t369, .string t370, .int .u64 t371] 74 (0, 0)) (by exact BK373.out)) : gb380 ≠ gb373)); clear HO_6; clear HO_20; clear HO365; clear BK346; clear BK347; clear BK373; clear HB; have HO_6 := n0_; have HO_20 := n1_; have HO365 := n2_; have BK346 := n3_; have BK347 := n4_; have BK373 := n5_; have HB := n6_; have BK380 := n7_; have GW380 := n8_; have GE380 := n9_; have NB346_380 := n10_; have NB380_346 := n11_; have NB347_380 := n12_; have NB380_347 := n13_; have NB373_380 := n14_; have NB380_373 := n15_; clear n0_ n1_ n2_ n3_ n4_ n5_ n6_ n7_ n8_ n9_ n10_ n11_ n12_ n13_ n14_ n15_; clear hb hbox hg; have hnb76 := NB380_346.out; have hnc76 := NB346_380.out; have hnb77 := NB380_347.out; have hnc77 := NB347_380.out; have hnb78 := NB380_373.out; have hnc78 := NB373_380.out; have hcz79_0 : w75.cell? ⟨gb380, 0, none⟩ = some (.int .i64 0) := (blk_cell BK380.out 0).trans rfl; have hcz79_1 : w75.cell? ⟨gb380, 1, none⟩ = some (.string (⟨#[]⟩ : ByteArray)) := (blk_cell BK380.out 1).trans rfl; have hcz79_2 : w75.cell? ⟨gb380, 2, none⟩ = some (.string (⟨#[]⟩ : ByteArray)) := (blk_cell BK380.out 2).trans rfl; have hcz79_3 : w75.cell? ⟨gb380, 3, none⟩ = some (.string (⟨#[]⟩ : ByteArray)) := (blk_cell BK380.out 3).trans rfl; have hcz79_4 : w75.cell? ⟨gb380, 4, none⟩ = some (.int .u64 0) := (blk_cell BK380.out 4).trans rfl; have hfz79_0 := blk_frozen BK380.out 0; have hfz79_1 := blk_frozen BK380.out 1; have hfz79_2 := blk_frozen BK380.out 2; have hfz79_3 := blk_frozen BK380.out 3; have hfz79_4 := blk_frozen BK380.out 4; have hcz80_0 : w75.cell? ⟨gb373, 0, none⟩ = some (.int .i64 t367) := (blk_cell BK373.out 0).trans rfl; have hcz80_1 : w75.cell? ⟨gb373, 1, none⟩ = some (.string t368) := (blk_cell BK373.out 1).trans rfl; have hcz80_2 : w75.cell? ⟨gb373, 2, none⟩ = some (.string t369) := (blk_cell BK373.out 2).trans rfl; have hcz80_3 : w75.cell? ⟨gb373, 3, none⟩ = some (.string t370) := (blk_cell BK373.out 3).trans rfl; have hcz80_4 : w75.cell? ⟨gb373, 4, none⟩ = some (.int .u64 t371) := (blk_cell BK373.out 4).trans rfl; have hfz80_0 := blk_frozen BK373.out 0; have hfz80_1 := blk_frozen BK373.out 1; have hfz80_2 := blk_frozen BK373.out 2; have hfz80_3 := blk_frozen BK373.out 3; have hfz80_4 := blk_frozen BK373.out 4))
                        go_roundg k5
                        case measure => have := HJ7.out; have := HK2.out; have := HJ31.out; have := HJ40.out; have := HK5.out; omega
                        case rel => exact ⟨(wrap64 (x21_5 + 1)), (by first | rfl | (simp; done) | (simp [*]; done)), H', ⟨by have := HJ7.out; have := HK2.out; have := HJ31.out; have := HJ40.out; have := HK5.out; omega⟩, ⟨by (try simp only [hl6_2]); (try simp only [hl20_40]); exact Kd.V_mono (Kd.V_far (p := ⟨gb380, 4, none⟩) (Kd.V_far (p := ⟨gb380, 3, none⟩) (Kd.V_far (p := ⟨gb380, 2, none⟩) (Kd.V_far (p := ⟨gb380, 1, none⟩) (Kd.V_far (p := ⟨gb380, 0, none⟩) (Kd.V_mono HO_6.out (fun k_ hk => (⟨hk, hk.2⟩ : _ ∧ k_ ≠ gb380))) (fun _ hk => hk.2) (.int .i64 t374)) (fun _ hk => hk.2) (.string t375)) (fun _ hk => hk.2) (.string t376)) (fun _ hk => hk.2) (.string t377)) (fun _ hk => hk.2) (.int .u64 t378)) (fun _ hk => ⟨hk.1.1.1.1.1, ⟨hk.1.1.1.1.2.1, ⟨hk.1.1.1.1.2.2.1, hk.1.1.1.1.2.2.2⟩⟩⟩)⟩, ⟨by (try simp only [hl6_2]); (try simp only [hl20_40]); (with_reducible repeat (first | apply Kd.U_alloc | apply Kd.U_drewN | apply Kd.U_drew)); exact Kd.U_mono (Kd.U_far (p := ⟨gb380, 4, none⟩) (Kd.U_far (p := ⟨gb380, 3, none⟩) (Kd.U_far (p := ⟨gb380, 2, none⟩) (Kd.U_far (p := ⟨gb380, 1, none⟩) (Kd.U_far (p := ⟨gb380, 0, none⟩) (Kd.U_types HO_20.out BK380.out (by decide)) (fun _ hk => hk.2) (.int .i64 t374)) (fun _ hk => hk.2) (.string t375)) (fun _ hk => hk.2) (.string t376)) (fun _ hk => hk.2) (.string t377)) (fun _ hk => hk.2) (.int .u64 t378)) (fun _ hk => hk.1)⟩, ⟨by (try simp only [hl6_2]); (try simp only [hl20_40]); refine blk_far ?_ NB346_380.out _; refine blk_far ?_ NB346_380.out _; refine blk_far ?_ NB346_380.out _; refine blk_far ?_ NB346_380.out _; refine blk_far ?_ NB346_380.out _; exact BK346.out⟩, ⟨by (try simp only [hl6_2]); (try simp only [hl20_40]); refine blk_far ?_ NB347_380.out _; refine blk_far ?_ NB347_380.out _; refine blk_far ?_ NB347_380.out _; refine blk_far ?_ NB347_380.out _; refine blk_far ?_ NB347_380.out _; exact BK347.out⟩, ⟨by repeat (with_reducible first | exact HB.out | apply below_alloc | apply pw_below_drewN | apply below_drew1 | refine below_set ?_ GE346.out | refine below_set ?_ GE347.out | refine below_set ?_ GE373.out | refine below_set ?_ GE380.out)⟩⟩
                     ·
                      rw [if_neg c60] at H
                      exact absurd H (by simp)
                    ·
                     rw [if_neg c59] at H
                     exact absurd H (by simp)
                   ·
                    rw [if_neg c58] at H
                    exact absurd H (by simp)
                  ·
                   rw [if_neg c57] at H
                   exact absurd H (by simp)
                 ·
                  rw [if_neg c56] at H
                  exact absurd H (by simp)
               ·
                rw [if_neg c53] at H
                have c53b0 : decide (x21_5 < 4) = false := decide_eq_false c53
                clear c53
                replace H := Option.bind_eq_some_iff.mp H
                obtain ⟨⟨t358, t359, t360, t361, t362⟩, A810, H⟩ := H
                replace H : (waybilllaw12_KeysTells.l0 k5 a1 a2 a3 a4 x6_2 (wrap64 (x15_2 + 1)) t358 t359 t360 t361 t362 a5_0 a5_1 a5_2 a5_3 l5_4) = some r := H
                have A81 := Aside0.mk A810
                clear A810
                have H' := Aside0.mk H
                clear H
                have hnb82 := NB346_347.out
                have hnc82 := NB347_346.out
                have hcz83_0 : wr.cell? ⟨gb346, 0, none⟩ = some (.int .i64 x347000_2) := (blk_cell BK346.out 0).trans rfl
                have hcz83_1 : wr.cell? ⟨gb346, 1, none⟩ = some (.string x347001_2) := (blk_cell BK346.out 1).trans rfl
                have hcz83_2 : wr.cell? ⟨gb346, 2, none⟩ = some (.string x347002_2) := (blk_cell BK346.out 2).trans rfl
                have hcz83_3 : wr.cell? ⟨gb346, 3, none⟩ = some (.string x347003_2) := (blk_cell BK346.out 3).trans rfl
                have hcz83_4 : wr.cell? ⟨gb346, 4, none⟩ = some (.int .u64 x347004_2) := (blk_cell BK346.out 4).trans rfl
                have hfz83_0 := blk_frozen BK346.out 0
                have hfz83_1 := blk_frozen BK346.out 1
                have hfz83_2 := blk_frozen BK346.out 2
                have hfz83_3 := blk_frozen BK346.out 3
                have hfz83_4 := blk_frozen BK346.out 4
                go_wp2_with (first | ((with_reducible refine gate_callee (f := 43) rfl ?_); refine goesL_ (some 159) rfl rfl Try.func43 (by kernel_rfl) rfl #[.agg #[.int .i64 x347000_2, .string x347001_2, .string x347002_2, .string x347003_2, .int .u64 x347004_2]] rfl (by (try simp only [List.map_toArray, List.map_cons, List.map_nil]); first | done | rfl | (simp only [List.length_drop, List.length_take]; rfl)) ?_; (with_reducible refine (waybilllaw12_Tame.calls k5 x347000_2 x347001_2 x347002_2 x347003_2 x347004_2 t358 t359 t360 t361 t362 _ A81.out).mono ?_); rintro e w84 ⟨rfl, hb⟩; refine ⟨_, rfl, ?_⟩; have n0_ := Aside0.mk (Kd.V_below (by exact HO_6.out) hb); have n1_ := Aside0.mk (Kd.U_below (by (with_reducible repeat (first | apply Kd.U_alloc | apply Kd.U_drewN | apply Kd.U_drew)); exact HO_20.out) hb); have n2_ := Aside0.mk (blk_below (g := gb346) (o := .cells #[.int .i64 x347000_2, .string x347001_2, .string x347002_2, .string x347003_2, .int .u64 x347004_2] 74 (0, 0)) (by exact BK346.out) hb); have n3_ := Aside0.mk (blk_below (g := gb347) (o := .cells #[.string a5_0, .string a5_1, .string a5_2, .int .i64 a5_3, .slice A5_4 l5_4.length c5_4] 77 (0, 0)) (by exact BK347.out) hb); have n4_ := Aside0.mk (below_step (by repeat (with_reducible first | exact HB.out | apply below_alloc | apply pw_below_drewN | apply below_drew1 | refine below_set ?_ GE346.out | refine below_set ?_ GE347.out)) hb); clear HO_6; clear HO_20; clear BK346; clear BK347; clear HB; have HO_6 := n0_; have HO_20 := n1_; have BK346 := n2_; have BK347 := n3_; have HB := n4_; clear n0_ n1_ n2_ n3_ n4_; (try clear hb); (try clear hb2); (try clear hk); (try clear hi); (try clear hge); have hcz85_0 : w84.cell? ⟨gb346, 0, none⟩ = some (.int .i64 x347000_2) := (blk_cell BK346.out 0).trans rfl; have hcz85_1 : w84.cell? ⟨gb346, 1, none⟩ = some (.string x347001_2) := (blk_cell BK346.out 1).trans rfl; have hcz85_2 : w84.cell? ⟨gb346, 2, none⟩ = some (.string x347002_2) := (blk_cell BK346.out 2).trans rfl; have hcz85_3 : w84.cell? ⟨gb346, 3, none⟩ = some (.string x347003_2) := (blk_cell BK346.out 3).trans rfl; have hcz85_4 : w84.cell? ⟨gb346, 4, none⟩ = some (.int .u64 x347004_2) := (blk_cell BK346.out 4).trans rfl; have hfz85_0 := blk_frozen BK346.out 0; have hfz85_1 := blk_frozen BK346.out 1; have hfz85_2 := blk_frozen BK346.out 2; have hfz85_3 := blk_frozen BK346.out 3; have hfz85_4 := blk_frozen BK346.out 4))
                (try simp only [← hl6_2, ← hl20_40])
                go_roundg k5
                case measure => have := HJ7.out; have := HK2.out; have := HJ31.out; have := HJ40.out; have := HK5.out; omega
                case rel => exact ⟨(x6_2), (wrap64 (x15_2 + 1)), (t358), (t359), (t360), (t361), (t362), (by first | rfl | (simp; done) | (simp [*]; done)), H', ⟨by have := HJ7.out; have := HK2.out; have := HJ31.out; have := HJ40.out; have := HK5.out; omega⟩, ⟨by (try simp only [hl6_2]); (try simp only [hl20_40]); exact Kd.V_mono (Kd.V_far (p := ⟨gb346, 4, none⟩) (Kd.V_far (p := ⟨gb346, 3, none⟩) (Kd.V_far (p := ⟨gb346, 2, none⟩) (Kd.V_far (p := ⟨gb346, 1, none⟩) (Kd.V_far (p := ⟨gb346, 0, none⟩) (Kd.V_mono HO_6.out (fun k_ hk => (⟨hk, hk.2.2.1⟩ : _ ∧ k_ ≠ gb346))) (fun _ hk => hk.2) (.int .i64 t358)) (fun _ hk => hk.2) (.string t359)) (fun _ hk => hk.2) (.string t360)) (fun _ hk => hk.2) (.string t361)) (fun _ hk => hk.2) (.int .u64 t362)) (fun _ hk => ⟨hk.1.1, ⟨hk.1.2.2.1, hk.1.2.2.2⟩⟩)⟩, ⟨by (try simp only [hl6_2]); (try simp only [hl20_40]); refine blk_put (cs := #[.int .i64 t358, .string t359, .string t360, .string t361, .int .u64 x347004_2]) ?_ 4 _ rfl; refine blk_put (cs := #[.int .i64 t358, .string t359, .string t360, .string x347003_2, .int .u64 x347004_2]) ?_ 3 _ rfl; refine blk_put (cs := #[.int .i64 t358, .string t359, .string x347002_2, .string x347003_2, .int .u64 x347004_2]) ?_ 2 _ rfl; refine blk_put (cs := #[.int .i64 t358, .string x347001_2, .string x347002_2, .string x347003_2, .int .u64 x347004_2]) ?_ 1 _ rfl; refine blk_put (cs := #[.int .i64 x347000_2, .string x347001_2, .string x347002_2, .string x347003_2, .int .u64 x347004_2]) ?_ 0 _ rfl; exact BK346.out⟩, ⟨by (try simp only [hl6_2]); (try simp only [hl20_40]); refine blk_far ?_ NB347_346.out _; refine blk_far ?_ NB347_346.out _; refine blk_far ?_ NB347_346.out _; refine blk_far ?_ NB347_346.out _; refine blk_far ?_ NB347_346.out _; exact BK347.out⟩, ⟨by repeat (with_reducible first | exact HB.out | apply below_alloc | apply pw_below_drewN | apply below_drew1 | refine below_set ?_ GE346.out | refine below_set ?_ GE347.out)⟩⟩
          ·
           rw [if_neg c40] at H
           exact absurd H (by simp)
      ·
       rw [if_neg c29] at H
       have c29b0 : decide (x15_2 < 2) = false := decide_eq_false c29
       clear c29
       replace H := Option.bind_eq_some_iff.mp H
       obtain ⟨⟨t381, t384⟩, A860, H⟩ := H
       replace H : ((waybillref7_Msg.f k2 a5_0 a5_1 a5_2 a5_3 l5_4).bind fun bt385 => (if (t384 != bt385.2) = true then (waybilllaw12_KeysTells.j5 k2 a4 x6_2 bt385.1 true) else (waybilllaw12_KeysTells.j5 k2 a4 x6_2 bt385.1 ((strOfNums t381).toList != (strOfNums bt385.1).toList)))) = some r := H
       have A86 := Aside0.mk A860
       clear A860
       replace H := Option.bind_eq_some_iff.mp H
       obtain ⟨⟨t385, t388⟩, A870, H⟩ := H
       replace H : (if (t384 != t388) = true then (waybilllaw12_KeysTells.j5 k2 a4 x6_2 t385 true) else (waybilllaw12_KeysTells.j5 k2 a4 x6_2 t385 ((strOfNums t381).toList != (strOfNums t385).toList))) = some r := H
       have A87 := Aside0.mk A870
       clear A870
       have HC88 := Aside0.mk H
       clear H
       have hnb89 := NB347_346.out
       have hnc89 := NB346_347.out
       have hcz90_0 : wr.cell? ⟨gb347, 0, none⟩ = some (.string a5_0) := (blk_cell BK347.out 0).trans rfl
       have hcz90_1 : wr.cell? ⟨gb347, 1, none⟩ = some (.string a5_1) := (blk_cell BK347.out 1).trans rfl
       have hcz90_2 : wr.cell? ⟨gb347, 2, none⟩ = some (.string a5_2) := (blk_cell BK347.out 2).trans rfl
       have hcz90_3 : wr.cell? ⟨gb347, 3, none⟩ = some (.int .i64 a5_3) := (blk_cell BK347.out 3).trans rfl
       have hcz90_4 : wr.cell? ⟨gb347, 4, none⟩ = some (.slice A5_4 l5_4.length c5_4) := (blk_cell BK347.out 4).trans rfl
       have hfz90_0 := blk_frozen BK347.out 0
       have hfz90_1 := blk_frozen BK347.out 1
       have hfz90_2 := blk_frozen BK347.out 2
       have hfz90_3 := blk_frozen BK347.out 3
       have hfz90_4 := blk_frozen BK347.out 4
       go_upto_region 24 with (first | ((with_reducible refine gate_callee (f := 39) rfl ?_); refine goesL_ (some 162) rfl rfl Try.func39 (by kernel_rfl) rfl #[.agg #[.string a5_0, .string a5_1, .string a5_2, .int .i64 a5_3, .slice A5_4 l5_4.length c5_4]] rfl (by (try simp only [List.map_toArray, List.map_cons, List.map_nil]); first | done | rfl | (simp only [List.length_drop, List.length_take]; rfl)) ?_; (with_reducible refine (keys_Msg.calls k2 a5_0 a5_1 a5_2 a5_3 _ _ l5_4 t381 t384 _ ?side1 ?side2 A86.out).mono ?_); (case side1 => repeat (first | exact (Kd.C_below HR5_4.out HB.out) | (with_reducible refine Kd.C_alloc ?_ _) | (with_reducible refine Kd.C_drewN ?_ _) | (with_reducible refine Kd.C_drew ?_))); (case side2 => exact HC5_4.out); rintro e w91 ⟨v382, rfl, ho0, hb⟩; refine ⟨_, rfl, ?_⟩; have n0_ := Aside0.mk (Kd.V_elder' (by exact HO_6.out) (Kd.R_base ho0) hb); have n1_ := Aside0.mk (Kd.R_lower (Kd.R_newM (M := fun k_ => (w.heap.size ≤ k_)) ho0 (below_size (by repeat (with_reducible first | exact HB.out | apply below_alloc | apply pw_below_drewN | apply below_drew1 | refine below_set ?_ GE346.out | refine below_set ?_ GE347.out))) (fun k_ h_ => h_)) (below_size (by repeat (with_reducible first | exact HB.out | apply below_alloc | apply pw_below_drewN | apply below_drew1 | refine below_set ?_ GE346.out | refine below_set ?_ GE347.out)))); have n2_ := Aside0.mk (blk_below (g := gb346) (o := .cells #[.int .i64 x347000_2, .string x347001_2, .string x347002_2, .string x347003_2, .int .u64 x347004_2] 74 (0, 0)) (by exact BK346.out) hb); have n3_ := Aside0.mk (blk_below (g := gb347) (o := .cells #[.string a5_0, .string a5_1, .string a5_2, .int .i64 a5_3, .slice A5_4 l5_4.length c5_4] 77 (0, 0)) (by exact BK347.out) hb); have n4_ := Aside0.mk (below_step (by repeat (with_reducible first | exact HB.out | apply below_alloc | apply pw_below_drewN | apply below_drew1 | refine below_set ?_ GE346.out | refine below_set ?_ GE347.out)) hb); clear HO_6; clear BK346; clear BK347; clear HB; have HO_6 := n0_; have HO383 := n1_; have BK346 := n2_; have BK347 := n3_; have HB := n4_; clear n0_ n1_ n2_ n3_ n4_; (try clear hb); (try clear hb2); (try clear hk); (try clear hi); (try clear hge); (try clear ho0); have hcz92_0 : w91.cell? ⟨gb347, 0, none⟩ = some (.string a5_0) := (blk_cell BK347.out 0).trans rfl; have hcz92_1 : w91.cell? ⟨gb347, 1, none⟩ = some (.string a5_1) := (blk_cell BK347.out 1).trans rfl; have hcz92_2 : w91.cell? ⟨gb347, 2, none⟩ = some (.string a5_2) := (blk_cell BK347.out 2).trans rfl; have hcz92_3 : w91.cell? ⟨gb347, 3, none⟩ = some (.int .i64 a5_3) := (blk_cell BK347.out 3).trans rfl; have hcz92_4 : w91.cell? ⟨gb347, 4, none⟩ = some (.slice A5_4 l5_4.length c5_4) := (blk_cell BK347.out 4).trans rfl; have hfz92_0 := blk_frozen BK347.out 0; have hfz92_1 := blk_frozen BK347.out 1; have hfz92_2 := blk_frozen BK347.out 2; have hfz92_3 := blk_frozen BK347.out 3; have hfz92_4 := blk_frozen BK347.out 4) | ((with_reducible refine gate_callee (f := 44) rfl ?_); refine goesL_ (some 167) rfl rfl Try.func44 (by kernel_rfl) rfl #[.agg #[.string a5_0, .string a5_1, .string a5_2, .int .i64 a5_3, .slice A5_4 l5_4.length c5_4]] rfl (by (try simp only [List.map_toArray, List.map_cons, List.map_nil]); first | done | rfl | (simp only [List.length_drop, List.length_take]; rfl)) ?_; (with_reducible refine (waybillref7_Msg.calls k2 a5_0 a5_1 a5_2 a5_3 _ _ l5_4 t385 t388 _ ?side1 ?side2 A87.out).mono ?_); (case side1 => repeat (first | exact (Kd.C_below HR5_4.out HB.out) | (with_reducible refine Kd.C_alloc ?_ _) | (with_reducible refine Kd.C_drewN ?_ _) | (with_reducible refine Kd.C_drew ?_))); (case side2 => exact HC5_4.out); rintro e w93 ⟨v386, rfl, ho0, hb⟩; refine ⟨_, rfl, ?_⟩; have n0_ := Aside0.mk (Kd.V_elder' (by exact HO_6.out) (Kd.R_base ho0) hb); have n1_ := Aside0.mk (Kd.R_elder' (by exact HO383.out) (Kd.R_base ho0) hb); have n2_ := Aside0.mk (Kd.R_lower (Kd.R_new' (Kd.R_newM (M := fun k_ => (w.heap.size ≤ k_)) ho0 (below_size (by repeat (with_reducible first | exact HB.out | apply below_alloc | apply pw_below_drewN | apply below_drew1 | refine below_set ?_ GE346.out | refine below_set ?_ GE347.out))) (fun k_ h_ => h_)) (Kd.R_lt (by exact HO383.out))) (below_size (by repeat (with_reducible first | exact HB.out | apply below_alloc | apply pw_below_drewN | apply below_drew1 | refine below_set ?_ GE346.out | refine below_set ?_ GE347.out)))); have n3_ := Aside0.mk (blk_below (g := gb346) (o := .cells #[.int .i64 x347000_2, .string x347001_2, .string x347002_2, .string x347003_2, .int .u64 x347004_2] 74 (0, 0)) (by exact BK346.out) hb); have n4_ := Aside0.mk (blk_below (g := gb347) (o := .cells #[.string a5_0, .string a5_1, .string a5_2, .int .i64 a5_3, .slice A5_4 l5_4.length c5_4] 77 (0, 0)) (by exact BK347.out) hb); have n5_ := Aside0.mk (below_step (by repeat (with_reducible first | exact HB.out | apply below_alloc | apply pw_below_drewN | apply below_drew1 | refine below_set ?_ GE346.out | refine below_set ?_ GE347.out)) hb); clear HO_6; clear HO383; clear BK346; clear BK347; clear HB; have HO_6 := n0_; have HO383 := n1_; have HO387 := n2_; have BK346 := n3_; have BK347 := n4_; have HB := n5_; clear n0_ n1_ n2_ n3_ n4_ n5_; (try clear hb); (try clear hb2); (try clear hk); (try clear hi); (try clear hge); (try clear ho0)))
       (try simp only [Act.put, List.setIfInBounds_toArray, List.set_cons_zero, List.set_cons_succ])
       go_cut [179] (fun v179 wc => ∃ (kq : Nat) (x179_87 : Bool), v179 = .bool x179_87 ∧ Aside0 (waybilllaw12_KeysTells.j5 kq a4 x6_2 t385 x179_87 = some r) ∧ Aside0 (kq ≤ k2) ∧ Aside0 (Kd.V (Kd.int .u8) 5 wc w.heap.size (fun k_ => (P6_ k_ ∨ w.heap.size ≤ k_) ∧ some k_ ≠ (v386 : Value).ownBlock ∧ k_ ≠ gb346 ∧ k_ ≠ gb347) (.slice A6 x6_2.length c6) x6_2) ∧ Aside0 (Kd.R (Kd.int .u8) 5 wc w.heap.size (fun k_ => (w.heap.size ≤ k_)) v386 t385) ∧ Aside0 (wc.heap[gb346]? = some (.cells #[.int .i64 x347000_2, .string x347001_2, .string x347002_2, .string x347003_2, .int .u64 x347004_2] 74 (0, 0))) ∧ Aside0 (wc.heap[gb347]? = some (.cells #[.string a5_0, .string a5_1, .string a5_2, .int .i64 a5_3, (.slice A5_4 l5_4.length c5_4)] 77 (0, 0))) ∧ Aside0 (Below w.heap.size w wc))
       case first =>
        have H := HC88.out
        clear HC88
        by_cases c94 : (t384 != t388) = true
        ·
         rw [if_pos c94] at H
         have c94b0 : (t384 != t388) = true := c94
         (try (have c94b1 : decide (t384 = t388) = false := by simpa using c94))
         (try (have c94b2 : (t384 == t388) = false := by simpa using c94))
         (try (have c94b3 : ¬ (t384 = t388) := by simpa using c94))
         clear c94
         (first | rw [c94b0] | rw [c94b2] | rw [c94b1] | (simp only [i64_w, i32_w]; rw [c94b0]) | skip)
         have H' := Aside0.mk H
         clear H
         go_wp2
         go_meet
         case rel => exact ⟨_, (true), (by first | rfl | (simp; done) | (simp [*]; done)), H', ⟨by have := HJ7.out; have := HK2.out; first | omega | exact Nat.le_refl _⟩, ⟨by (try simp only [hl6_2]); exact Kd.V_mono HO_6.out (fun _ hk => ⟨hk.1.1.1, ⟨hk.2, ⟨hk.1.1.2.1, hk.1.1.2.2⟩⟩⟩)⟩, ⟨by (try simp only [hl6_2]); exact Kd.R_mono HO387.out (fun _ hk => hk.1.1)⟩, ⟨by (try simp only [hl6_2]); exact BK346.out⟩, ⟨by (try simp only [hl6_2]); exact BK347.out⟩, ⟨by repeat (with_reducible first | exact HB.out | apply below_alloc | apply pw_below_drewN | apply below_drew1 | refine below_set ?_ GE346.out | refine below_set ?_ GE347.out)⟩⟩
        ·
         rw [if_neg c94] at H
         have c94b0 : (t384 != t388) = false := by simpa using c94
         (try (have c94b1 : decide (t384 = t388) = true := by simpa using c94))
         (try (have c94b2 : (t384 == t388) = true := by simpa using c94))
         clear c94
         (first | rw [c94b0] | rw [c94b2] | rw [c94b1] | (simp only [i64_w, i32_w]; rw [c94b0]) | skip)
         have H' := Aside0.mk H
         clear H
         have hcv95 := own_string (P := Try.prog) Try.underlying26 Try.underlying5 Try.underlying9 (Kd.own_of_R HO383.out)
         have hcv96 := own_string (P := Try.prog) Try.underlying26 Try.underlying5 Try.underlying9 (Kd.own_of_R HO387.out)
         go_wp2
         go_meet
         case rel => exact ⟨_, (((strOfNums t381).toList != (strOfNums t385).toList)), (by first | rfl | (simp; done) | (simp [*]; done)), H', ⟨by have := HJ7.out; have := HK2.out; first | omega | exact Nat.le_refl _⟩, ⟨by (try simp only [hl6_2]); exact Kd.V_mono HO_6.out (fun _ hk => ⟨hk.1.1.1, ⟨hk.2, ⟨hk.1.1.2.1, hk.1.1.2.2⟩⟩⟩)⟩, ⟨by (try simp only [hl6_2]); exact Kd.R_mono HO387.out (fun _ hk => hk.1.1)⟩, ⟨by (try simp only [hl6_2]); exact BK346.out⟩, ⟨by (try simp only [hl6_2]); exact BK347.out⟩, ⟨by repeat (with_reducible first | exact HB.out | apply below_alloc | apply pw_below_drewN | apply below_drew1 | refine below_set ?_ GE346.out | refine below_set ?_ GE347.out)⟩⟩
       case rest =>
        clear HC88
        (try clear c1); (try clear c2); (try clear p2); (try clear c3); (try clear p3); (try clear q3); (try clear hx3); (try clear qi3); (try clear c4); (try clear c5); (try clear p5); (try clear q5); (try clear hx5); (try clear c6); (try clear p6); (try clear c7); (try clear c8); (try clear c9); (try clear hcv9); (try clear c11); (try clear c11b0); (try clear c11b1); (try clear c12); (try clear c12b0); (try clear c13); (try clear c15); (try clear c15b0); (try clear c16); (try clear c19); (try clear c19b0); (try clear c19b1); (try clear c20); (try clear c23); (try clear c26); (try clear c29); (try clear c29b0); (try clear c33); (try clear p35); (try clear q35); (try clear hx35); (try clear p36); (try clear q36); (try clear hx36); (try clear qi36); (try clear c37); (try clear c38); (try clear c38b0); (try clear c38b1); (try clear c39); (try clear c40); (try clear c40b0); (try clear c40b1); (try clear c40b2); (try clear c41); (try clear c42); (try clear c43); (try clear c44); (try clear c45); (try clear c45b0); (try clear c45b1); (try clear c46); (try clear c46b0); (try clear c46b1); (try clear c46b2); (try clear c48); (try clear c48b0); (try clear c49); (try clear c49b0); (try clear p50); (try clear q50); (try clear hx50); (try clear hf50); (try clear c53); (try clear c53b0); (try clear c54); (try clear c54b0); (try clear c54b1); (try clear c56); (try clear c56b0); (try clear c56b1); (try clear c57); (try clear c57b0); (try clear c57b1); (try clear c58); (try clear c58b0); (try clear c58b1); (try clear c58b2); (try clear c59); (try clear c59b0); (try clear c60); (try clear c60b0); (try clear c63); (try clear c63b0); (try clear c64); (try clear c64b0); (try clear c64b1); (try clear c64b2); (try clear p64); (try clear c71); (try clear c72); (try clear c76); (try clear c77); (try clear c78); (try clear c82); (try clear c89); (try clear c94); (try clear c94b0); (try clear c94b1); (try clear c94b2); (try clear hcv95); (try clear hcv96); (try clear hcz14_0); (try clear hcz14_1); (try clear hcz14_2); (try clear hcz14_3); (try clear hcz14_4); (try clear hcz17_0); (try clear hcz17_1); (try clear hcz17_2); (try clear hcz17_3); (try clear hcz17_4); (try clear hcz18_0); (try clear hcz18_1); (try clear hcz18_2); (try clear hcz18_3); (try clear hcz18_4); (try clear hcz21_0); (try clear hcz21_1); (try clear hcz21_2); (try clear hcz21_3); (try clear hcz21_4); (try clear hcz22_0); (try clear hcz22_1); (try clear hcz22_2); (try clear hcz22_3); (try clear hcz22_4); (try clear hcz24_0); (try clear hcz24_1); (try clear hcz24_2); (try clear hcz24_3); (try clear hcz24_4); (try clear hcz25_0); (try clear hcz25_1); (try clear hcz25_2); (try clear hcz25_3); (try clear hcz25_4); (try clear hcz34_0); (try clear hcz34_1); (try clear hcz34_2); (try clear hcz34_3); (try clear hcz34_4); (try clear hcz36_0); (try clear hcz36_1); (try clear hcz36_2); (try clear hcz36_3); (try clear hcz36_4); (try clear hcz73_0); (try clear hcz73_1); (try clear hcz73_2); (try clear hcz73_3); (try clear hcz73_4); (try clear hcz79_0); (try clear hcz79_1); (try clear hcz79_2); (try clear hcz79_3); (try clear hcz79_4); (try clear hcz80_0); (try clear hcz80_1); (try clear hcz80_2); (try clear hcz80_3); (try clear hcz80_4); (try clear hcz83_0); (try clear hcz83_1); (try clear hcz83_2); (try clear hcz83_3); (try clear hcz83_4); (try clear hcz85_0); (try clear hcz85_1); (try clear hcz85_2); (try clear hcz85_3); (try clear hcz85_4); (try clear hcz90_0); (try clear hcz90_1); (try clear hcz90_2); (try clear hcz90_3); (try clear hcz90_4); (try clear hcz92_0); (try clear hcz92_1); (try clear hcz92_2); (try clear hcz92_3); (try clear hcz92_4); (try clear hfz14_0); (try clear hfz14_1); (try clear hfz14_2); (try clear hfz14_3); (try clear hfz14_4); (try clear hfz17_0); (try clear hfz17_1); (try clear hfz17_2); (try clear hfz17_3); (try clear hfz17_4); (try clear hfz18_0); (try clear hfz18_1); (try clear hfz18_2); (try clear hfz18_3); (try clear hfz18_4); (try clear hfz21_0); (try clear hfz21_1); (try clear hfz21_2); (try clear hfz21_3); (try clear hfz21_4); (try clear hfz22_0); (try clear hfz22_1); (try clear hfz22_2); (try clear hfz22_3); (try clear hfz22_4); (try clear hfz24_0); (try clear hfz24_1); (try clear hfz24_2); (try clear hfz24_3); (try clear hfz24_4); (try clear hfz25_0); (try clear hfz25_1); (try clear hfz25_2); (try clear hfz25_3); (try clear hfz25_4); (try clear hfz34_0); (try clear hfz34_1); (try clear hfz34_2); (try clear hfz34_3); (try clear hfz34_4); (try clear hfz36_0); (try clear hfz36_1); (try clear hfz36_2); (try clear hfz36_3); (try clear hfz36_4); (try clear hfz73_0); (try clear hfz73_1); (try clear hfz73_2); (try clear hfz73_3); (try clear hfz73_4); (try clear hfz79_0); (try clear hfz79_1); (try clear hfz79_2); (try clear hfz79_3); (try clear hfz79_4); (try clear hfz80_0); (try clear hfz80_1); (try clear hfz80_2); (try clear hfz80_3); (try clear hfz80_4); (try clear hfz83_0); (try clear hfz83_1); (try clear hfz83_2); (try clear hfz83_3); (try clear hfz83_4); (try clear hfz85_0); (try clear hfz85_1); (try clear hfz85_2); (try clear hfz85_3); (try clear hfz85_4); (try clear hfz90_0); (try clear hfz90_1); (try clear hfz90_2); (try clear hfz90_3); (try clear hfz90_4); (try clear hfz92_0); (try clear hfz92_1); (try clear hfz92_2); (try clear hfz92_3); (try clear hfz92_4); (try clear hx356_0); (try clear hx366_0); (try clear hx50_0); (try clear p2); (try clear p3); (try clear p35); (try clear p356); (try clear p366); (try clear p5); (try clear p50); (try clear p6); (try clear q3); (try clear q35); (try clear q356); (try clear q366); (try clear q5); (try clear q50)
        obtain ⟨kq, x179_87, rfl, HA, HJ87, HO_6, HO_29, BK346, BK347, HB⟩ := hcut
        cases kq with
        | zero => exact absurd HA.out (by simp [waybilllaw12_KeysTells.j5])
        | succ kj87 =>
         have H := HA.out
         clear HA
         simp only [waybilllaw12_KeysTells.j5] at H
         by_cases c97 : x179_87 = true
         ·
          subst c97
          have H1 : (none) = some r := by rw [if_pos rfl] at H; exact H
          clear H
          have H := H1
          clear H1
          exact absurd H (by simp)
         ·
          replace c97 := Bool.eq_false_iff.mpr c97
          subst c97
          have H1 : (waybilllaw12_KeysTells.l2 kj87 a4 x6_2 t385 0) = some r := by rw [if_neg (show ¬ (false = true) by decide)] at H; exact H
          clear H
          have H := H1
          clear H1
          have H' := Aside0.mk H
          clear H
          go_wp2
          go_loopg [31] kj87 (fun kq v31 w' => ∃ (x31_4 : Int), v31 = .int .i64 x31_4 ∧ Aside0 (waybilllaw12_KeysTells.l2 kq a4 x6_2 t385 x31_4 = some r) ∧ Aside0 (kq ≤ kj87) ∧ Aside0 (Kd.V (Kd.int .u8) 5 w' w.heap.size (fun k_ => (P6_ k_ ∨ w.heap.size ≤ k_) ∧ k_ ≠ gb346 ∧ k_ ≠ gb347) (.slice A6 x6_2.length c6) x6_2) ∧ Aside0 (Kd.V (Kd.int .u8) 5 w' w.heap.size (fun k_ => (P6_ k_ ∨ w.heap.size ≤ k_) ∧ k_ ≠ gb346 ∧ k_ ≠ gb347) v386 t385) ∧ Aside0 (w'.heap[gb346]? = some (.cells #[.int .i64 x347000_2, .string x347001_2, .string x347002_2, .string x347003_2, .int .u64 x347004_2] 74 (0, 0))) ∧ Aside0 (w'.heap[gb347]? = some (.cells #[.string a5_0, .string a5_1, .string a5_2, .int .i64 a5_3, (.slice A5_4 l5_4.length c5_4)] 77 (0, 0))) ∧ Aside0 (Below w.heap.size w w'))
          case atStart => exact ⟨(0), (by first | rfl | (simp; done) | (simp [*]; done)), H', ⟨Nat.le_refl _⟩, ⟨by (try simp only [hl6_2]); exact Kd.V_mono HO_6.out (fun _ hk => ⟨hk.1, ⟨hk.2.2.1, hk.2.2.2⟩⟩)⟩, ⟨Kd.V_mono (Kd.R_V (ok := fun k_ => ((w.heap.size ≤ k_) ∧ (k_ ≠ gb346 ∧ k_ ≠ gb347))) (by (try simp only [hl6_2]); exact Kd.R_mono (Kd.R_types (Kd.R_types HO_29.out BK346.out (by decide)) BK347.out (by decide)) (fun _ hk => ⟨hk.1.1, ⟨hk.1.2, hk.2⟩⟩))) (fun k_ hk => by first | exact ⟨(.inr (hk.1)), hk.2⟩ | exact (.inr (hk)))⟩, ⟨by (try simp only [hl6_2]); exact BK346.out⟩, ⟨by (try simp only [hl6_2]); exact BK347.out⟩, ⟨by repeat (with_reducible first | exact HB.out | apply below_alloc | apply pw_below_drewN | apply below_drew1 | refine below_set ?_ GE346.out | refine below_set ?_ GE347.out)⟩⟩
          case round =>
           clear H'
           (try clear c1); (try clear c2); (try clear p2); (try clear c3); (try clear p3); (try clear q3); (try clear hx3); (try clear qi3); (try clear c4); (try clear c5); (try clear p5); (try clear q5); (try clear hx5); (try clear c6); (try clear p6); (try clear c7); (try clear c8); (try clear c9); (try clear hcv9); (try clear c11); (try clear c11b0); (try clear c11b1); (try clear c12); (try clear c12b0); (try clear c13); (try clear c15); (try clear c15b0); (try clear c16); (try clear c19); (try clear c19b0); (try clear c19b1); (try clear c20); (try clear c23); (try clear c26); (try clear c29); (try clear c29b0); (try clear c33); (try clear p35); (try clear q35); (try clear hx35); (try clear p36); (try clear q36); (try clear hx36); (try clear qi36); (try clear c37); (try clear c38); (try clear c38b0); (try clear c38b1); (try clear c39); (try clear c40); (try clear c40b0); (try clear c40b1); (try clear c40b2); (try clear c41); (try clear c42); (try clear c43); (try clear c44); (try clear c45); (try clear c45b0); (try clear c45b1); (try clear c46); (try clear c46b0); (try clear c46b1); (try clear c46b2); (try clear c48); (try clear c48b0); (try clear c49); (try clear c49b0); (try clear p50); (try clear q50); (try clear hx50); (try clear hf50); (try clear c53); (try clear c53b0); (try clear c54); (try clear c54b0); (try clear c54b1); (try clear c56); (try clear c56b0); (try clear c56b1); (try clear c57); (try clear c57b0); (try clear c57b1); (try clear c58); (try clear c58b0); (try clear c58b1); (try clear c58b2); (try clear c59); (try clear c59b0); (try clear c60); (try clear c60b0); (try clear c63); (try clear c63b0); (try clear c64); (try clear c64b0); (try clear c64b1); (try clear c64b2); (try clear p64); (try clear c71); (try clear c72); (try clear c76); (try clear c77); (try clear c78); (try clear c82); (try clear c89); (try clear c94); (try clear c94b0); (try clear c94b1); (try clear c94b2); (try clear hcv95); (try clear hcv96); (try clear c97); (try clear hcz14_0); (try clear hcz14_1); (try clear hcz14_2); (try clear hcz14_3); (try clear hcz14_4); (try clear hcz17_0); (try clear hcz17_1); (try clear hcz17_2); (try clear hcz17_3); (try clear hcz17_4); (try clear hcz18_0); (try clear hcz18_1); (try clear hcz18_2); (try clear hcz18_3); (try clear hcz18_4); (try clear hcz21_0); (try clear hcz21_1); (try clear hcz21_2); (try clear hcz21_3); (try clear hcz21_4); (try clear hcz22_0); (try clear hcz22_1); (try clear hcz22_2); (try clear hcz22_3); (try clear hcz22_4); (try clear hcz24_0); (try clear hcz24_1); (try clear hcz24_2); (try clear hcz24_3); (try clear hcz24_4); (try clear hcz25_0); (try clear hcz25_1); (try clear hcz25_2); (try clear hcz25_3); (try clear hcz25_4); (try clear hcz34_0); (try clear hcz34_1); (try clear hcz34_2); (try clear hcz34_3); (try clear hcz34_4); (try clear hcz36_0); (try clear hcz36_1); (try clear hcz36_2); (try clear hcz36_3); (try clear hcz36_4); (try clear hcz73_0); (try clear hcz73_1); (try clear hcz73_2); (try clear hcz73_3); (try clear hcz73_4); (try clear hcz79_0); (try clear hcz79_1); (try clear hcz79_2); (try clear hcz79_3); (try clear hcz79_4); (try clear hcz80_0); (try clear hcz80_1); (try clear hcz80_2); (try clear hcz80_3); (try clear hcz80_4); (try clear hcz83_0); (try clear hcz83_1); (try clear hcz83_2); (try clear hcz83_3); (try clear hcz83_4); (try clear hcz85_0); (try clear hcz85_1); (try clear hcz85_2); (try clear hcz85_3); (try clear hcz85_4); (try clear hcz90_0); (try clear hcz90_1); (try clear hcz90_2); (try clear hcz90_3); (try clear hcz90_4); (try clear hcz92_0); (try clear hcz92_1); (try clear hcz92_2); (try clear hcz92_3); (try clear hcz92_4); (try clear hfz14_0); (try clear hfz14_1); (try clear hfz14_2); (try clear hfz14_3); (try clear hfz14_4); (try clear hfz17_0); (try clear hfz17_1); (try clear hfz17_2); (try clear hfz17_3); (try clear hfz17_4); (try clear hfz18_0); (try clear hfz18_1); (try clear hfz18_2); (try clear hfz18_3); (try clear hfz18_4); (try clear hfz21_0); (try clear hfz21_1); (try clear hfz21_2); (try clear hfz21_3); (try clear hfz21_4); (try clear hfz22_0); (try clear hfz22_1); (try clear hfz22_2); (try clear hfz22_3); (try clear hfz22_4); (try clear hfz24_0); (try clear hfz24_1); (try clear hfz24_2); (try clear hfz24_3); (try clear hfz24_4); (try clear hfz25_0); (try clear hfz25_1); (try clear hfz25_2); (try clear hfz25_3); (try clear hfz25_4); (try clear hfz34_0); (try clear hfz34_1); (try clear hfz34_2); (try clear hfz34_3); (try clear hfz34_4); (try clear hfz36_0); (try clear hfz36_1); (try clear hfz36_2); (try clear hfz36_3); (try clear hfz36_4); (try clear hfz73_0); (try clear hfz73_1); (try clear hfz73_2); (try clear hfz73_3); (try clear hfz73_4); (try clear hfz79_0); (try clear hfz79_1); (try clear hfz79_2); (try clear hfz79_3); (try clear hfz79_4); (try clear hfz80_0); (try clear hfz80_1); (try clear hfz80_2); (try clear hfz80_3); (try clear hfz80_4); (try clear hfz83_0); (try clear hfz83_1); (try clear hfz83_2); (try clear hfz83_3); (try clear hfz83_4); (try clear hfz85_0); (try clear hfz85_1); (try clear hfz85_2); (try clear hfz85_3); (try clear hfz85_4); (try clear hfz90_0); (try clear hfz90_1); (try clear hfz90_2); (try clear hfz90_3); (try clear hfz90_4); (try clear hfz92_0); (try clear hfz92_1); (try clear hfz92_2); (try clear hfz92_3); (try clear hfz92_4); (try clear hx356_0); (try clear hx366_0); (try clear hx50_0); (try clear p2); (try clear p3); (try clear p35); (try clear p356); (try clear p36); (try clear p366); (try clear p5); (try clear p50); (try clear p6); (try clear p64); (try clear q3); (try clear q35); (try clear q356); (try clear q36); (try clear q366); (try clear q5); (try clear q50)
           repeat (clear HO_6)
           obtain ⟨x31_4, rfl, HA, HK4, HO_6, HO_29, BK346, BK347, HB⟩ := hrel
           cases gk with
           | zero => exact absurd HA.out (by simp [waybilllaw12_KeysTells.l2])
           | succ k4 =>
            have H := HA.out
            clear HA
            simp only [waybilllaw12_KeysTells.l2] at H
            by_cases c98 : x31_4 < 2
            ·
             rw [if_pos c98] at H
             have c98b0 : decide (x31_4 < 2) = true := decide_eq_true c98
             clear c98
             by_cases c99 : (wrap64 ((t385.length : Int) + 1)) = 0
             ·
              rw [if_pos c99] at H
              exact absurd H (by simp)
             ·
              rw [if_neg c99] at H
              have c99b0 : ((wrap64 ((t385.length : Int) + 1)) == 0) = false := beq_eq_false_iff_ne.mpr c99
              have c99b1 : ((wrap64 ((t385.length : Int) + 1)) != 0) = true := bne_iff_ne.mpr c99
              obtain ⟨ji100, hji100⟩ : ∃ j_ : Int, (Int.tmod (Go.bits .and .i64 a4 65535) (wrap64 ((t385.length : Int) + 1))) = j_ := ⟨_, rfl⟩
              replace H : (if 0 ≤ (ji100) then (if (ji100) ≤ (t385.length : Int) then (if 0 ≤ x31_4 then ((some (([x6_2, (t385.take ((ji100) : Int).toNat)] : List (List Int)).getD (x31_4).toNat [] : List Int)).bind fun y395 => ((keys_ParseMsg.f k4 y395).bind fun bt398 => ((waybillref7_MsgOf.f k4 y395).bind fun bt407 => (if (bt398.2.2.2.2.2 != bt407.2.2.2.2.2) = true then (none) else ((waybillref7_SameMsg.f bt398.1 bt398.2.1 bt398.2.2.1 bt398.2.2.2.1 bt398.2.2.2.2.1 bt407.1 bt407.2.1 bt407.2.2.1 bt407.2.2.2.1 bt407.2.2.2.2.1).bind fun t416 => (if t416 = true then (waybilllaw12_KeysTells.l2 k4 a4 x6_2 t385 (wrap64 (x31_4 + 1))) else (none))))))) else (none)) else (none)) else (none)) = some r := by first | (rw [hji100] at H; exact H) | (simp only [hji100] at H ⊢; exact H)
              by_cases c101 : 0 ≤ (ji100)
              ·
               rw [if_pos c101] at H
               have c101b0 := eq_true c101
               have c101b1 : decide (0 ≤ (ji100)) = true := decide_eq_true c101
               clear c101
               by_cases c102 : (ji100) ≤ (t385.length : Int)
               ·
                rw [if_pos c102] at H
                have c102b0 := eq_true c102
                have c102b1 : decide ((ji100) ≤ (t385.length : Int)) = true := decide_eq_true c102
                clear c102
                obtain ⟨y390, hy390⟩ : ∃ y_ : List Int, y_ = (t385.take ((ji100) : Int).toNat) := ⟨_, rfl⟩
                replace H : (if 0 ≤ x31_4 then ((some (([x6_2, y390] : List (List Int)).getD (x31_4).toNat [] : List Int)).bind fun y395 => ((keys_ParseMsg.f k4 y395).bind fun bt398 => ((waybillref7_MsgOf.f k4 y395).bind fun bt407 => (if (bt398.2.2.2.2.2 != bt407.2.2.2.2.2) = true then (none) else ((waybillref7_SameMsg.f bt398.1 bt398.2.1 bt398.2.2.1 bt398.2.2.2.1 bt398.2.2.2.2.1 bt407.1 bt407.2.1 bt407.2.2.1 bt407.2.2.2.1 bt407.2.2.2.2.1).bind fun t416 => (if t416 = true then (waybilllaw12_KeysTells.l2 k4 a4 x6_2 t385 (wrap64 (x31_4 + 1))) else (none))))))) else (none)) = some r := by first | (rw [hy390]; with_reducible exact H) | (have H2_ := (Option.bind_some _ _).symm.trans H; rw [hy390]; with_reducible exact H2_) | (have H2_ := (Option.bind_some _ _).symm.trans H; with_reducible exact H2_) | with_reducible exact H | (rw [hy390]; exact H) | exact H
                have Ny390 := Aside0.mk hy390
                clear hy390
                by_cases c103 : 0 ≤ x31_4
                ·
                 rw [if_pos c103] at H
                 have c103b0 : decide (0 ≤ x31_4) = true := decide_eq_true c103
                 clear c103
                 obtain ⟨y395, hy395⟩ : ∃ y_ : List Int, y_ = (([x6_2, y390] : List (List Int)).getD (x31_4).toNat []) := ⟨_, rfl⟩
                 replace H : ((keys_ParseMsg.f k4 y395).bind fun bt398 => ((waybillref7_MsgOf.f k4 y395).bind fun bt407 => (if (bt398.2.2.2.2.2 != bt407.2.2.2.2.2) = true then (none) else ((waybillref7_SameMsg.f bt398.1 bt398.2.1 bt398.2.2.1 bt398.2.2.2.1 bt398.2.2.2.2.1 bt407.1 bt407.2.1 bt407.2.2.1 bt407.2.2.2.1 bt407.2.2.2.2.1).bind fun t416 => (if t416 = true then (waybilllaw12_KeysTells.l2 k4 a4 x6_2 t385 (wrap64 (x31_4 + 1))) else (none)))))) = some r := by first | (rw [hy395]; with_reducible exact H) | (have H2_ := (Option.bind_some _ _).symm.trans H; rw [hy395]; with_reducible exact H2_) | (have H2_ := (Option.bind_some _ _).symm.trans H; with_reducible exact H2_) | with_reducible exact H | (rw [hy395]; exact H) | exact H
                 have Ny395 := Aside0.mk hy395
                 clear hy395
                 replace H := Option.bind_eq_some_iff.mp H
                 obtain ⟨⟨t398, t399, t400, t401, t402, t405⟩, A1040, H⟩ := H
                 replace H : ((waybillref7_MsgOf.f k4 y395).bind fun bt407 => (if (t405 != bt407.2.2.2.2.2) = true then (none) else ((waybillref7_SameMsg.f t398 t399 t400 t401 t402 bt407.1 bt407.2.1 bt407.2.2.1 bt407.2.2.2.1 bt407.2.2.2.2.1).bind fun t416 => (if t416 = true then (waybilllaw12_KeysTells.l2 k4 a4 x6_2 t385 (wrap64 (x31_4 + 1))) else (none))))) = some r := H
                 have A104 := Aside0.mk A1040
                 clear A1040
                 replace H := Option.bind_eq_some_iff.mp H
                 obtain ⟨⟨t407, t408, t409, t410, t411, t414⟩, A1050, H⟩ := H
                 replace H : (if (t405 != t414) = true then (none) else ((waybillref7_SameMsg.f t398 t399 t400 t401 t402 t407 t408 t409 t410 t411).bind fun t416 => (if t416 = true then (waybilllaw12_KeysTells.l2 k4 a4 x6_2 t385 (wrap64 (x31_4 + 1))) else (none)))) = some r := H
                 have A105 := Aside0.mk A1050
                 clear A1050
                 by_cases c106 : (t405 != t414) = true
                 ·
                  rw [if_pos c106] at H
                  exact absurd H (by simp)
                 ·
                  rw [if_neg c106] at H
                  have c106b0 : (t405 != t414) = false := by simpa using c106
                  (try (have c106b1 : decide (t405 = t414) = true := by simpa using c106))
                  (try (have c106b2 : (t405 == t414) = true := by simpa using c106))
                  clear c106
                  replace H := Option.bind_eq_some_iff.mp H
                  obtain ⟨t416, A1070, H⟩ := H
                  replace H : (if t416 = true then (waybilllaw12_KeysTells.l2 k4 a4 x6_2 t385 (wrap64 (x31_4 + 1))) else (none)) = some r := H
                  have A107 := Aside0.mk A1070
                  clear A1070
                  by_cases c108 : t416 = true
                  ·
                   subst c108
                   have H1 : (waybilllaw12_KeysTells.l2 k4 a4 x6_2 t385 (wrap64 (x31_4 + 1))) = some r := by rw [if_pos rfl] at H; exact H
                   clear H
                   have H := H1
                   clear H1
                   have H' := Aside0.mk H
                   clear H
                   obtain ⟨Ao109, co109, eo109⟩ := Kd.V_slice HO_29.out
                   subst eo109
                   have q110 : ((ji100) : Int) ≤ ((t385.length : Int) : Int) := of_decide_eq_true (by first | (with_reducible assumption) | assumption)
                   obtain ⟨i0110, hi0110, _, hsz110, _⟩ := info_parts info5
                   have hroom110 : t385.length ≤ co109 := (Kd.V_reads' HO_29.out).2.1
                   have hC110 : Kd.F (Kd.int .u8) _ _ Ao109 t385.length t385 := (Kd.V_at (base := w.heap.size) HO_29.out).2.2
                   have hcut110 := cut_to (P := Try.prog) 26 5 .i64 Try.underlying26 hi0110 Ao109 t385.length co109 (ji100) (of_decide_eq_true (by first | (with_reducible assumption) | assumption)) q110 hroom110
                   have hr110 := Kd.F_take (m := ((ji100) : Int).toNat) hC110 (by omega)
                   have hy110 : y390.length = ((ji100) : Int).toNat := (by rw [Ny390.out, List.length_take]; omega)
                   rw [← Ny390.out] at hr110
                   rw [← hy110] at hcut110
                   have HO394 := Aside0.mk (show Kd.V (Kd.int .u8) 5 _ w.heap.size _ (.slice Ao109 y390.length co109) y390 from Kd.V_mk (by omega) hr110)
                   have HC394 := Aside0.mk (show y390.length ≤ co109 from by omega)
                   clear hr110 hC110 hroom110 hi0110 hsz110
                   have KY110 := Aside0.mk hy110
                   clear hy110
                   replace q110 := eq_true q110
                   have plq111 : (0 ≤ x31_4) = True := eq_true (of_decide_eq_true (by first | (with_reducible assumption) | assumption))
                   have qlq111 : (x31_4 < 2) = True := eq_true (of_decide_eq_true (by first | (with_reducible assumption) | assumption))
                   have jlq111 : (x31_4).toNat < 2 := by have h1_ := of_eq_true plq111; have h2_ := of_eq_true qlq111; omega
                   go_wp2_with (first | ((with_reducible refine gate_dst (N := 196) rfl ?_); (try (refine gate_guard (by rfl) ?_; dsimp only)); have hvq111 : Kd.AllV (Kd.int .u8) 5 wr w.heap.size (fun k_ => ((P6_ k_ ∨ w.heap.size ≤ k_) ∧ (k_ ≠ gb346 ∧ k_ ≠ gb347))) [.slice A6 x6_2.length c6, .slice Ao109 y390.length co109] ([x6_2, y390] : List (List Int)) := ⟨by (with_reducible repeat (first | apply Kd.V_alloc | apply Kd.V_drewN | apply Kd.V_drew)); exact HO_6.out, by (with_reducible repeat (first | apply Kd.V_alloc | apply Kd.V_drewN | apply Kd.V_drew)); exact HO394.out, trivial⟩; obtain ⟨v396, hqq111⟩ : ∃ v_, ([.slice A6 x6_2.length c6, .slice Ao109 y390.length co109] : List Value).getD (x31_4).toNat undef = v_ := ⟨_, rfl⟩; have hoq111 : Kd.V (Kd.int .u8) 5 wr w.heap.size (fun k_ => ((P6_ k_ ∨ w.heap.size ≤ k_) ∧ (k_ ≠ gb346 ∧ k_ ≠ gb347))) v396 y395 := (by rw [← hqq111, Ny395.out]; exact Kd.AllV_get _ _ _ hvq111 jlq111); refine Kd.event_run (v := v396) rfl (by rw [← hqq111]; first | done | exact pick_run (by rfl) (by rfl) Try.underlying26 jlq111) ?_; clear hvq111 hqq111; obtain ⟨Ao112, co112, epq111_⟩ := Kd.V_slice hoq111; subst epq111_; have HO397 := Aside0.mk hoq111; clear hoq111) | ((with_reducible refine gate_callee (f := 45) rfl ?_); refine goesL_ (some 199) rfl rfl Try.func45 (by kernel_rfl) rfl #[.slice Ao112 y395.length co112] rfl (by (try simp only [List.map_toArray, List.map_cons, List.map_nil]); first | done | rfl | (simp only [List.length_drop, List.length_take]; rfl)) ?_; (with_reducible refine (keys_ParseMsg.calls k4 _ _ y395 t398 t399 t400 t401 t402 t405 _ ?side1 ?side2 A104.out).mono ?_); (case side1 => repeat (first | exact (Kd.V_reads' HO397.out).2.2 | (with_reducible refine Kd.C_alloc ?_ _) | (with_reducible refine Kd.C_drewN ?_ _) | (with_reducible refine Kd.C_drew ?_))); (case side2 => exact (Kd.V_reads' HO397.out).2.1); rintro e w113 ⟨v403, rfl, ho0, hb⟩; refine ⟨_, rfl, ?_⟩; have n0_ := Aside0.mk (Kd.V_elder' (by (with_reducible repeat (first | apply Kd.V_alloc | apply Kd.V_drewN | apply Kd.V_drew)); exact HO_6.out) (Kd.R_base ho0) hb); have n1_ := Aside0.mk (Kd.V_elder' (by (with_reducible repeat (first | apply Kd.V_alloc | apply Kd.V_drewN | apply Kd.V_drew)); exact HO_29.out) (Kd.R_base ho0) hb); have n2_ := Aside0.mk (Kd.V_elder' (by (with_reducible repeat (first | apply Kd.V_alloc | apply Kd.V_drewN | apply Kd.V_drew)); exact HO394.out) (Kd.R_base ho0) hb); have n3_ := Aside0.mk (Kd.V_elder' (by (with_reducible repeat (first | apply Kd.V_alloc | apply Kd.V_drewN | apply Kd.V_drew)); exact HO397.out) (Kd.R_base ho0) hb); have n4_ := Aside0.mk (Kd.R_lower (Kd.R_newM (M := fun k_ => (w.heap.size ≤ k_)) ho0 (below_size (by repeat (with_reducible first | exact HB.out | apply below_alloc | apply pw_below_drewN | apply below_drew1 | refine below_set ?_ GE346.out | refine below_set ?_ GE347.out))) (fun k_ h_ => h_)) (below_size (by repeat (with_reducible first | exact HB.out | apply below_alloc | apply pw_below_drewN | apply below_drew1 | refine below_set ?_ GE346.out | refine below_set ?_ GE347.out)))); have n5_ := Aside0.mk (blk_below (g := gb346) (o := .cells #[.int .i64 x347000_2, .string x347001_2, .string x347002_2, .string x347003_2, .int .u64 x347004_2] 74 (0, 0)) (by (with_reducible repeat (first | refine blk_drewN ?_ _ | refine blk_drew ?_ | refine blk_alloc ?_ _)); exact BK346.out) hb); have n6_ := Aside0.mk (blk_below (g := gb347) (o := .cells #[.string a5_0, .string a5_1, .string a5_2, .int .i64 a5_3, .slice A5_4 l5_4.length c5_4] 77 (0, 0)) (by (with_reducible repeat (first | refine blk_drewN ?_ _ | refine blk_drew ?_ | refine blk_alloc ?_ _)); exact BK347.out) hb); have n7_ := Aside0.mk (below_step (by repeat (with_reducible first | exact HB.out | apply below_alloc | apply pw_below_drewN | apply below_drew1 | refine below_set ?_ GE346.out | refine below_set ?_ GE347.out)) hb); clear HO_6; clear HO_29; clear HO394; clear HO397; clear BK346; clear BK347; clear HB; have HO_6 := n0_; have HO_29 := n1_; have HO394 := n2_; have HO397 := n3_; have HO404 := n4_; have BK346 := n5_; have BK347 := n6_; have HB := n7_; clear n0_ n1_ n2_ n3_ n4_ n5_ n6_ n7_; (try clear hb); (try clear hb2); (try clear hk); (try clear hi); (try clear hge); (try clear ho0)) | ((with_reducible refine gate_dst (N := 33) rfl ?_); (try (refine gate_guard (by rfl) ?_; dsimp only)); refine box_event ?hg (N := 33) ?hd (cs := #[.string (⟨#[]⟩ : ByteArray), .string (⟨#[]⟩ : ByteArray), .string (⟨#[]⟩ : ByteArray), .int .i64 0, .slice none 0 0]) (t := 77) ?hr ?_; (case hd => rfl); (case hg => rfl); (case hr => first | (go_simp; done) | (go_simp; rfl)); intro gb406 hg w114 hbox hb; have n0_ := Aside0.mk (Kd.V_below (Kd.V_elderB (by (with_reducible repeat (first | apply Kd.V_alloc | apply Kd.V_drewN | apply Kd.V_drew)); exact HO_6.out) gb406 (Nat.le_of_eq hg.symm)) hb); have n1_ := Aside0.mk (Kd.V_below (Kd.V_elderB (by (with_reducible repeat (first | apply Kd.V_alloc | apply Kd.V_drewN | apply Kd.V_drew)); exact HO_29.out) gb406 (Nat.le_of_eq hg.symm)) hb); have n2_ := Aside0.mk (Kd.V_below (Kd.V_elderB (by (with_reducible repeat (first | apply Kd.V_alloc | apply Kd.V_drewN | apply Kd.V_drew)); exact HO394.out) gb406 (Nat.le_of_eq hg.symm)) hb); have n3_ := Aside0.mk (Kd.V_below (Kd.V_elderB (by (with_reducible repeat (first | apply Kd.V_alloc | apply Kd.V_drewN | apply Kd.V_drew)); exact HO397.out) gb406 (Nat.le_of_eq hg.symm)) hb); have n4_ := Aside0.mk (Kd.R_below (by (with_reducible repeat (first | apply Kd.R_alloc | apply Kd.R_drewN | apply Kd.R_drew)); exact HO404.out) hb); have n5_ := Aside0.mk (blk_below (g := gb346) (o := .cells #[.int .i64 x347000_2, .string x347001_2, .string x347002_2, .string x347003_2, .int .u64 x347004_2] 74 (0, 0)) (by (with_reducible repeat (first | refine blk_drewN ?_ _ | refine blk_drew ?_ | refine blk_alloc ?_ _)); exact BK346.out) hb); have n6_ := Aside0.mk (blk_below (g := gb347) (o := .cells #[.string a5_0, .string a5_1, .string a5_2, .int .i64 a5_3, .slice A5_4 l5_4.length c5_4] 77 (0, 0)) (by (with_reducible repeat (first | refine blk_drewN ?_ _ | refine blk_drew ?_ | refine blk_alloc ?_ _)); exact BK347.out) hb); have n7_ := Aside0.mk (below_step (by repeat (with_reducible first | exact HB.out | apply below_alloc | apply pw_below_drewN | apply below_drew1 | refine below_set ?_ GE346.out | refine below_set ?_ GE347.out)) hb); have n8_ := Aside0.mk (hbox); have n9_ := Aside0.mk ((by rw [hg]; exact (below_size (by repeat (with_reducible first | exact HB.out | apply below_alloc | apply pw_below_drewN | apply below_drew1 | refine below_set ?_ GE346.out | refine below_set ?_ GE347.out))) : w.heap.size ≤ gb406)); have n10_ := Aside0.mk ((by rw [hg]; exact (below_size (by repeat (with_reducible first | exact HB.out | apply below_alloc | apply pw_below_drewN | apply below_drew1 | refine below_set ?_ GE346.out | refine below_set ?_ GE347.out))) : w.heap.size ≤ gb406)); have n11_ := Aside0.mk ((by rw [hg]; exact Nat.ne_of_lt (blk_lt (g := gb346) (o := .cells #[.int .i64 x347000_2, .string x347001_2, .string x347002_2, .string x347003_2, .int .u64 x347004_2] 74 (0, 0)) (by (with_reducible repeat (first | refine blk_drewN ?_ _ | refine blk_drew ?_ | refine blk_alloc ?_ _)); exact BK346.out)) : gb346 ≠ gb406)); have n12_ := Aside0.mk ((by rw [hg]; exact Nat.ne_of_gt (blk_lt (g := gb346) (o := .cells #[.int .i64 x347000_2, .string x347001_2, .string x347002_2, .string x347003_2, .int .u64 x347004_2] 74 (0, 0)) (by (with_reducible repeat (first | refine blk_drewN ?_ _ | refine blk_drew ?_ | refine blk_alloc ?_ _)); exact BK346.out)) : gb406 ≠ gb346)); have n13_ := Aside0.mk ((by rw [hg]; exact Nat.ne_of_lt (blk_lt (g := gb347) (o := .cells #[.string a5_0, .string a5_1, .string a5_2, .int .i64 a5_3, .slice A5_4 l5_4.length c5_4] 77 (0, 0)) (by (with_reducible repeat (first | refine blk_drewN ?_ _ | refine blk_drew ?_ | refine blk_alloc ?_ _)); exact BK347.out)) : gb347 ≠ gb406)); have n14_ := Aside0.mk ((by rw [hg]; exact Nat.ne_of_gt (blk_lt (g := gb347) (o := .cells #[.string a5_0, .string a5_1, .string a5_2, .int .i64 a5_3, .slice A5_4 l5_4.length c5_4] 77 (0, 0)) (by (with_reducible repeat (first | refine blk_drewN ?_ _ | refine blk_drew ?_ | refine blk_alloc ?_ _)); exact BK347.out)) : gb406 ≠ gb347)); clear HO_6; clear HO_29; clear HO394; clear HO397; clear HO404; clear BK346; clear BK347; clear HB; have HO_6 := n0_; have HO_29 := n1_; have HO394 := n2_; have HO397 := n3_; have HO404 := n4_; have BK346 := n5_; have BK347 := n6_; have HB := n7_; have BK406 := n8_; have GW406 := n9_; have GE406 := n10_; have NB346_406 := n11_; have NB406_346 := n12_; have NB347_406 := n13_; have NB406_347 := n14_; clear n0_ n1_ n2_ n3_ n4_ n5_ n6_ n7_ n8_ n9_ n10_ n11_ n12_ n13_ n14_; clear hb hbox hg; have hnb115 := NB406_346.out; have hnc115 := NB346_406.out; have hnb116 := NB406_347.out; have hnc116 := NB347_406.out; have hcz117_0 : w114.cell? ⟨gb406, 0, none⟩ = some (.string (⟨#[]⟩ : ByteArray)) := (blk_cell BK406.out 0).trans rfl; have hcz117_1 : w114.cell? ⟨gb406, 1, none⟩ = some (.string (⟨#[]⟩ : ByteArray)) := (blk_cell BK406.out 1).trans rfl; have hcz117_2 : w114.cell? ⟨gb406, 2, none⟩ = some (.string (⟨#[]⟩ : ByteArray)) := (blk_cell BK406.out 2).trans rfl; have hcz117_3 : w114.cell? ⟨gb406, 3, none⟩ = some (.int .i64 0) := (blk_cell BK406.out 3).trans rfl; have hcz117_4 : w114.cell? ⟨gb406, 4, none⟩ = some (.slice none 0 0) := (blk_cell BK406.out 4).trans rfl; have hfz117_0 := blk_frozen BK406.out 0; have hfz117_1 := blk_frozen BK406.out 1; have hfz117_2 := blk_frozen BK406.out 2; have hfz117_3 := blk_frozen BK406.out 3; have hfz117_4 := blk_frozen BK406.out 4; obtain ⟨Ao118, co118, eo118⟩ := Kd.R_slice HO404.out; subst eo118) | ((with_reducible refine gate_store (t := 77) (p := 33) rfl ?_); refine store_event (t := 77) (p := 33) (v := ?vo_w119) (w1 := (((((w114.setCell ⟨gb406, 0, none⟩ (.string t398)).setCell ⟨gb406, 1, none⟩ (.string t399)).setCell ⟨gb406, 2, none⟩ (.string t400)).setCell ⟨gb406, 3, none⟩ (.int .i64 t401)).setCell ⟨gb406, 4, none⟩ (.slice Ao118 t402.length co118))) ?hg ?ho ?hn ?hr ?_; (case ho => rfl); (case hg => rfl); (case hn => rfl); (case hr => first | (go_simp; done) | (go_simp; rfl)); intro w119 hw; have n0_ : Aside0 (Kd.V (Kd.int .u8) 5 w119 w.heap.size (fun k_ => (P6_ k_ ∨ w.heap.size ≤ k_) ∧ some k_ ≠ (.slice Ao118 t402.length co118 : Value).ownBlock ∧ k_ ≠ gb346 ∧ k_ ≠ gb347 ∧ k_ ≠ gb406) (.slice A6 x6_2.length c6) x6_2) := ⟨(by rw [hw]; exact (by (with_reducible repeat (first | apply Kd.V_alloc | apply Kd.V_drewN | apply Kd.V_drew)); exact Kd.V_mono (Kd.V_far (p := ⟨gb406, 4, none⟩) (Kd.V_far (p := ⟨gb406, 3, none⟩) (Kd.V_far (p := ⟨gb406, 2, none⟩) (Kd.V_far (p := ⟨gb406, 1, none⟩) (Kd.V_far (p := ⟨gb406, 0, none⟩) (Kd.V_mono HO_6.out (fun k_ hk => (⟨hk, hk.2⟩ : _ ∧ k_ ≠ gb406))) (fun _ hk => hk.2) (.string t398)) (fun _ hk => hk.2) (.string t399)) (fun _ hk => hk.2) (.string t400)) (fun _ hk => hk.2) (.int .i64 t401)) (fun _ hk => hk.2) (.slice Ao118 t402.length co118)) (fun _ hk => ⟨hk.1.1.1.1, ⟨hk.1.1.2, ⟨hk.1.1.1.2.1, ⟨hk.1.1.1.2.2, hk.1.2⟩⟩⟩⟩)))⟩; have n1_ : Aside0 (Kd.V (Kd.int .u8) 5 w119 w.heap.size (fun k_ => (P6_ k_ ∨ w.heap.size ≤ k_) ∧ some k_ ≠ (.slice Ao118 t402.length co118 : Value).ownBlock ∧ k_ ≠ gb346 ∧ k_ ≠ gb347 ∧ k_ ≠ gb406) (.slice Ao109 t385.length co109) t385) := ⟨(by rw [hw]; exact (by (with_reducible repeat (first | apply Kd.V_alloc | apply Kd.V_drewN | apply Kd.V_drew)); exact Kd.V_mono (Kd.V_far (p := ⟨gb406, 4, none⟩) (Kd.V_far (p := ⟨gb406, 3, none⟩) (Kd.V_far (p := ⟨gb406, 2, none⟩) (Kd.V_far (p := ⟨gb406, 1, none⟩) (Kd.V_far (p := ⟨gb406, 0, none⟩) (Kd.V_mono HO_29.out (fun k_ hk => (⟨hk, hk.2⟩ : _ ∧ k_ ≠ gb406))) (fun _ hk => hk.2) (.string t398)) (fun _ hk => hk.2) (.string t399)) (fun _ hk => hk.2) (.string t400)) (fun _ hk => hk.2) (.int .i64 t401)) (fun _ hk => hk.2) (.slice Ao118 t402.length co118)) (fun _ hk => ⟨hk.1.1.1.1, ⟨hk.1.1.2, ⟨hk.1.1.1.2.1, ⟨hk.1.1.1.2.2, hk.1.2⟩⟩⟩⟩)))⟩; have n2_ : Aside0 (Kd.V (Kd.int .u8) 5 w119 w.heap.size (fun k_ => (P6_ k_ ∨ w.heap.size ≤ k_) ∧ some k_ ≠ (.slice Ao118 t402.length co118 : Value).ownBlock ∧ k_ ≠ gb346 ∧ k_ ≠ gb347 ∧ k_ ≠ gb406) (.slice Ao109 y390.length co109) y390) := ⟨(by rw [hw]; exact (by (with_reducible repeat (first | apply Kd.V_alloc | apply Kd.V_drewN | apply Kd.V_drew)); exact Kd.V_mono (Kd.V_far (p := ⟨gb406, 4, none⟩) (Kd.V_far (p := ⟨gb406, 3, none⟩) (Kd.V_far (p := ⟨gb406, 2, none⟩) (Kd.V_far (p := ⟨gb406, 1, none⟩) (Kd.V_far (p := ⟨gb406, 0, none⟩) (Kd.V_mono HO394.out (fun k_ hk => (⟨hk, hk.2⟩ : _ ∧ k_ ≠ gb406))) (fun _ hk => hk.2) (.string t398)) (fun _ hk => hk.2) (.string t399)) (fun _ hk => hk.2) (.string t400)) (fun _ hk => hk.2) (.int .i64 t401)) (fun _ hk => hk.2) (.slice Ao118 t402.length co118)) (fun _ hk => ⟨hk.1.1.1.1, ⟨hk.1.1.2, ⟨hk.1.1.1.2.1, ⟨hk.1.1.1.2.2, hk.1.2⟩⟩⟩⟩)))⟩; have n3_ : Aside0 (Kd.V (Kd.int .u8) 5 w119 w.heap.size (fun k_ => (P6_ k_ ∨ w.heap.size ≤ k_) ∧ some k_ ≠ (.slice Ao118 t402.length co118 : Value).ownBlock ∧ k_ ≠ gb346 ∧ k_ ≠ gb347 ∧ k_ ≠ gb406) (.slice Ao112 y395.length co112) y395) := ⟨(by rw [hw]; exact (by (with_reducible repeat (first | apply Kd.V_alloc | apply Kd.V_drewN | apply Kd.V_drew)); exact Kd.V_mono (Kd.V_far (p := ⟨gb406, 4, none⟩) (Kd.V_far (p := ⟨gb406, 3, none⟩) (Kd.V_far (p := ⟨gb406, 2, none⟩) (Kd.V_far (p := ⟨gb406, 1, none⟩) (Kd.V_far (p := ⟨gb406, 0, none⟩) (Kd.V_mono HO397.out (fun k_ hk => (⟨hk, hk.2⟩ : _ ∧ k_ ≠ gb406))) (fun _ hk => hk.2) (.string t398)) (fun _ hk => hk.2) (.string t399)) (fun _ hk => hk.2) (.string t400)) (fun _ hk => hk.2) (.int .i64 t401)) (fun _ hk => hk.2) (.slice Ao118 t402.length co118)) (fun _ hk => ⟨hk.1.1.1.1, ⟨hk.1.1.2, ⟨hk.1.1.1.2.1, ⟨hk.1.1.1.2.2, hk.1.2⟩⟩⟩⟩)))⟩; have n4_ : Aside0 (Kd.R (Kd.int .u8) 5 w119 w.heap.size (fun k_ => (w.heap.size ≤ k_)) (.slice Ao118 t402.length co118) t402) := ⟨(by rw [hw]; exact (by (with_reducible repeat (first | apply Kd.R_alloc | apply Kd.R_drewN | apply Kd.R_drew)); exact Kd.R_mono (Kd.R_far (p := ⟨gb406, 4, none⟩) (Kd.R_far (p := ⟨gb406, 3, none⟩) (Kd.R_far (p := ⟨gb406, 2, none⟩) (Kd.R_far (p := ⟨gb406, 1, none⟩) (Kd.R_far (p := ⟨gb406, 0, none⟩) (Kd.R_types HO404.out BK406.out (by decide)) (fun _ hk => hk.2) (.string t398)) (fun _ hk => hk.2) (.string t399)) (fun _ hk => hk.2) (.string t400)) (fun _ hk => hk.2) (.int .i64 t401)) (fun _ hk => hk.2) (.slice Ao118 t402.length co118)) (fun _ hk => hk.1.1)))⟩; have n5_ : Aside0 (w119.heap[gb346]? = some (.cells #[.int .i64 x347000_2, .string x347001_2, .string x347002_2, .string x347003_2, .int .u64 x347004_2] 74 (0, 0))) := ⟨(by rw [hw]; exact (by (with_reducible repeat (first | refine blk_drewN ?_ _ | refine blk_drew ?_ | refine blk_alloc ?_ _)); refine blk_far ?_ NB346_406.out _; (with_reducible repeat (first | refine blk_drewN ?_ _ | refine blk_drew ?_ | refine blk_alloc ?_ _)); refine blk_far ?_ NB346_406.out _; (with_reducible repeat (first | refine blk_drewN ?_ _ | refine blk_drew ?_ | refine blk_alloc ?_ _)); refine blk_far ?_ NB346_406.out _; (with_reducible repeat (first | refine blk_drewN ?_ _ | refine blk_drew ?_ | refine blk_alloc ?_ _)); refine blk_far ?_ NB346_406.out _; (with_reducible repeat (first | refine blk_drewN ?_ _ | refine blk_drew ?_ | refine blk_alloc ?_ _)); refine blk_far ?_ NB346_406.out _; (with_reducible repeat (first | refine blk_drewN ?_ _ | refine blk_drew ?_ | refine blk_alloc ?_ _)); exact BK346.out))⟩; have n6_ : Aside0 (w119.heap[gb347]? = some (.cells #[.string a5_0, .string a5_1, .string a5_2, .int .i64 a5_3, .slice A5_4 l5_4.length c5_4] 77 (0, 0))) := ⟨(by rw [hw]; exact (by (with_reducible repeat (first | refine blk_drewN ?_ _ | refine blk_drew ?_ | refine blk_alloc ?_ _)); refine blk_far ?_ NB347_406.out _; (with_reducible repeat (first | refine blk_drewN ?_ _ | refine blk_drew ?_ | refine blk_alloc ?_ _)); refine blk_far ?_ NB347_406.out _; (with_reducible repeat (first | refine blk_drewN ?_ _ | refine blk_drew ?_ | refine blk_alloc ?_ _)); refine blk_far ?_ NB347_406.out _; (with_reducible repeat (first | refine blk_drewN ?_ _ | refine blk_drew ?_ | refine blk_alloc ?_ _)); refine blk_far ?_ NB347_406.out _; (with_reducible repeat (first | refine blk_drewN ?_ _ | refine blk_drew ?_ | refine blk_alloc ?_ _)); refine blk_far ?_ NB347_406.out _; (with_reducible repeat (first | refine blk_drewN ?_ _ | refine blk_drew ?_ | refine blk_alloc ?_ _)); exact BK347.out))⟩; have n7_ : Aside0 (w119.heap[gb406]? = some (.cells #[.string t398, .string t399, .string t400, .int .i64 t401, .slice Ao118 t402.length co118] 77 (0, 0))) := ⟨(by rw [hw]; exact (by (with_reducible repeat (first | refine blk_drewN ?_ _ | refine blk_drew ?_ | refine blk_alloc ?_ _)); refine blk_put (cs := #[.string t398, .string t399, .string t400, .int .i64 t401, .slice none 0 0]) ?_ 4 _ rfl; (with_reducible repeat (first | refine blk_drewN ?_ _ | refine blk_drew ?_ | refine blk_alloc ?_ _)); refine blk_put (cs := #[.string t398, .string t399, .string t400, .int .i64 0, .slice none 0 0]) ?_ 3 _ rfl; (with_reducible repeat (first | refine blk_drewN ?_ _ | refine blk_drew ?_ | refine blk_alloc ?_ _)); refine blk_put (cs := #[.string t398, .string t399, .string (⟨#[]⟩ : ByteArray), .int .i64 0, .slice none 0 0]) ?_ 2 _ rfl; (with_reducible repeat (first | refine blk_drewN ?_ _ | refine blk_drew ?_ | refine blk_alloc ?_ _)); refine blk_put (cs := #[.string t398, .string (⟨#[]⟩ : ByteArray), .string (⟨#[]⟩ : ByteArray), .int .i64 0, .slice none 0 0]) ?_ 1 _ rfl; (with_reducible repeat (first | refine blk_drewN ?_ _ | refine blk_drew ?_ | refine blk_alloc ?_ _)); refine blk_put (cs := #[.string (⟨#[]⟩ : ByteArray), .string (⟨#[]⟩ : ByteArray), .string (⟨#[]⟩ : ByteArray), .int .i64 0, .slice none 0 0]) ?_ 0 _ rfl; (with_reducible repeat (first | refine blk_drewN ?_ _ | refine blk_drew ?_ | refine blk_alloc ?_ _)); exact BK406.out))⟩; have n8_ : Aside0 (Below w.heap.size w w119) := ⟨(by rw [hw]; exact (by repeat (with_reducible first | exact HB.out | apply below_alloc | apply pw_below_drewN | apply below_drew1 | refine below_set ?_ GE346.out | refine below_set ?_ GE347.out | refine below_set ?_ GE406.out)))⟩; clear hw; clear HO_6; clear HO_29; clear HO394; clear HO397; clear HO404; clear BK346; clear BK347; clear BK406; clear HB; have HO_6 := n0_; have HO_29 := n1_; have HO394 := n2_; have HO397 := n3_; have HO404 := n4_; have BK346 := n5_; have BK347 := n6_; have BK406 := n7_; have HB := n8_; clear n0_ n1_ n2_ n3_ n4_ n5_ n6_ n7_ n8_) | ((with_reducible refine gate_callee (f := 46) rfl ?_); refine goesL_ (some 204) rfl rfl Try.func46 (by kernel_rfl) rfl #[.slice Ao112 y395.length co112] rfl (by (try simp only [List.map_toArray, List.map_cons, List.map_nil]); first | done | rfl | (simp only [List.length_drop, List.length_take]; rfl)) ?_; (with_reducible refine (waybillref7_MsgOf.calls k4 (fun k_ => ((P6_ k_ ∨ w.heap.size ≤ k_) ∧ (some k_ ≠ (.slice Ao118 t402.length co118 : Value).ownBlock ∧ (k_ ≠ gb346 ∧ (k_ ≠ gb347 ∧ k_ ≠ gb406))))) _ _ y395 t407 t408 t409 t410 t411 t414 _ ?side1 A105.out).mono ?_); (case side1 => exact HO397.out); rintro e w120 ⟨v412, rfl, ho0, hb⟩; refine ⟨_, rfl, ?_⟩; have n0_ := Aside0.mk (Kd.V_below (by (with_reducible repeat (first | apply Kd.V_alloc | apply Kd.V_drewN | apply Kd.V_drew)); exact HO_6.out) hb); have n1_ := Aside0.mk (Kd.V_below (by (with_reducible repeat (first | apply Kd.V_alloc | apply Kd.V_drewN | apply Kd.V_drew)); exact HO_29.out) hb); have n2_ := Aside0.mk (Kd.V_below (by (with_reducible repeat (first | apply Kd.V_alloc | apply Kd.V_drewN | apply Kd.V_drew)); exact HO394.out) hb); have n3_ := Aside0.mk (Kd.V_below (by (with_reducible repeat (first | apply Kd.V_alloc | apply Kd.V_drewN | apply Kd.V_drew)); exact HO397.out) hb); have n4_ := Aside0.mk (Kd.R_below (by (with_reducible repeat (first | apply Kd.R_alloc | apply Kd.R_drewN | apply Kd.R_drew)); exact HO404.out) hb); have n5_ := Aside0.mk (Kd.V_lower (Kd.V_mono (ok' := fun k_ => (P6_ k_ ∨ w.heap.size ≤ k_) ∧ some k_ ≠ (.slice Ao118 t402.length co118 : Value).ownBlock ∧ k_ ≠ gb346 ∧ k_ ≠ gb347 ∧ k_ ≠ gb406) ho0 (fun k_ hk_ => ⟨Or.elim hk_ (fun hs_ => hs_.1) (fun hn_ => (.inr (Nat.le_trans (below_size (by repeat (with_reducible first | exact HB.out | apply below_alloc | apply pw_below_drewN | apply below_drew1 | refine below_set ?_ GE346.out | refine below_set ?_ GE347.out | refine below_set ?_ GE406.out))) hn_))), Or.elim hk_ (fun hs_ => hs_.2.1) (fun hn_ => (Kd.fresh' (Kd.R_lt (by (with_reducible repeat (first | apply Kd.R_alloc | apply Kd.R_drewN | apply Kd.R_drew)); exact HO404.out)) k_ hn_)), Or.elim hk_ (fun hs_ => hs_.2.2.1) (fun hn_ => (Kd.freshB (g := gb346) (o := .cells #[.int .i64 x347000_2, .string x347001_2, .string x347002_2, .string x347003_2, .int .u64 x347004_2] 74 (0, 0)) (by (with_reducible repeat (first | refine blk_drewN ?_ _ | refine blk_drew ?_ | refine blk_alloc ?_ _)); exact BK346.out) k_ hn_)), Or.elim hk_ (fun hs_ => hs_.2.2.2.1) (fun hn_ => (Kd.freshB (g := gb347) (o := .cells #[.string a5_0, .string a5_1, .string a5_2, .int .i64 a5_3, .slice A5_4 l5_4.length c5_4] 77 (0, 0)) (by (with_reducible repeat (first | refine blk_drewN ?_ _ | refine blk_drew ?_ | refine blk_alloc ?_ _)); exact BK347.out) k_ hn_)), Or.elim hk_ (fun hs_ => hs_.2.2.2.2) (fun hn_ => (Kd.freshB (g := gb406) (o := .cells #[.string t398, .string t399, .string t400, .int .i64 t401, .slice Ao118 t402.length co118] 77 (0, 0)) (by (with_reducible repeat (first | refine blk_drewN ?_ _ | refine blk_drew ?_ | refine blk_alloc ?_ _)); exact BK406.out) k_ hn_))⟩)) (below_size (by repeat (with_reducible first | exact HB.out | apply below_alloc | apply pw_below_drewN | apply below_drew1 | refine below_set ?_ GE346.out | refine below_set ?_ GE347.out | refine below_set ?_ GE406.out)))); have n6_ := Aside0.mk (blk_below (g := gb346) (o := .cells #[.int .i64 x347000_2, .string x347001_2, .string x347002_2, .string x347003_2, .int .u64 x347004_2] 74 (0, 0)) (by (with_reducible repeat (first | refine blk_drewN ?_ _ | refine blk_drew ?_ | refine blk_alloc ?_ _)); exact BK346.out) hb); have n7_ := Aside0.mk (blk_below (g := gb347) (o := .cells #[.string a5_0, .string a5_1, .string a5_2, .int .i64 a5_3, .slice A5_4 l5_4.length c5_4] 77 (0, 0)) (by (with_reducible repeat (first | refine blk_drewN ?_ _ | refine blk_drew ?_ | refine blk_alloc ?_ _)); exact BK347.out) hb); have n8_ := Aside0.mk (blk_below (g := gb406) (o := .cells #[.string t398, .string t399, .string t400, .int .i64 t401, .slice Ao118 t402.length co118] 77 (0, 0)) (by (with_reducible repeat (first | refine blk_drewN ?_ _ | refine blk_drew ?_ | refine blk_alloc ?_ _)); exact BK406.out) hb); have n9_ := Aside0.mk (below_step (by repeat (with_reducible first | exact HB.out | apply below_alloc | apply pw_below_drewN | apply below_drew1 | refine below_set ?_ GE346.out | refine below_set ?_ GE347.out | refine below_set ?_ GE406.out)) hb); clear HO_6; clear HO_29; clear HO394; clear HO397; clear HO404; clear BK346; clear BK347; clear BK406; clear HB; have HO_6 := n0_; have HO_29 := n1_; have HO394 := n2_; have HO397 := n3_; have HO404 := n4_; have HO413 := n5_; have BK346 := n6_; have BK347 := n7_; have BK406 := n8_; have HB := n9_; clear n0_ n1_ n2_ n3_ n4_ n5_ n6_ n7_ n8_ n9_; (try clear hb); (try clear hb2); (try clear hk); (try clear hi); (try clear hge); (try clear ho0)) | ((with_reducible refine gate_dst (N := 35) rfl ?_); (try (refine gate_guard (by rfl) ?_; dsimp only)); refine box_event ?hg (N := 35) ?hd (cs := #[.string (⟨#[]⟩ : ByteArray), .string (⟨#[]⟩ : ByteArray), .string (⟨#[]⟩ : ByteArray), .int .i64 0, .slice none 0 0]) (t := 77) ?hr ?_; (case hd => rfl); (case hg => rfl); (case hr => first | (go_simp; done) | (go_simp; rfl)); intro gb415 hg w121 hbox hb; have n0_ := Aside0.mk (Kd.V_below (Kd.V_elderB (by (with_reducible repeat (first | apply Kd.V_alloc | apply Kd.V_drewN | apply Kd.V_drew)); exact HO_6.out) gb415 (Nat.le_of_eq hg.symm)) hb); have n1_ := Aside0.mk (Kd.V_below (Kd.V_elderB (by (with_reducible repeat (first | apply Kd.V_alloc | apply Kd.V_drewN | apply Kd.V_drew)); exact HO_29.out) gb415 (Nat.le_of_eq hg.symm)) hb); have n2_ := Aside0.mk (Kd.V_below (Kd.V_elderB (by (with_reducible repeat (first | apply Kd.V_alloc | apply Kd.V_drewN | apply Kd.V_drew)); exact HO394.out) gb415 (Nat.le_of_eq hg.symm)) hb); have n3_ := Aside0.mk (Kd.V_below (Kd.V_elderB (by (with_reducible repeat (first | apply Kd.V_alloc | apply Kd.V_drewN | apply Kd.V_drew)); exact HO397.out) gb415 (Nat.le_of_eq hg.symm)) hb); have n4_ := Aside0.mk (Kd.R_below (by (with_reducible repeat (first | apply Kd.R_alloc | apply Kd.R_drewN | apply Kd.R_drew)); exact HO404.out) hb); have n5_ := Aside0.mk (Kd.V_below (Kd.V_elderB (by (with_reducible repeat (first | apply Kd.V_alloc | apply Kd.V_drewN | apply Kd.V_drew)); exact HO413.out) gb415 (Nat.le_of_eq hg.symm)) hb); have n6_ := Aside0.mk (blk_below (g := gb346) (o := .cells #[.int .i64 x347000_2, .string x347001_2, .string x347002_2, .string x347003_2, .int .u64 x347004_2] 74 (0, 0)) (by (with_reducible repeat (first | refine blk_drewN ?_ _ | refine blk_drew ?_ | refine blk_alloc ?_ _)); exact BK346.out) hb); have n7_ := Aside0.mk (blk_below (g := gb347) (o := .cells #[.string a5_0, .string a5_1, .string a5_2, .int .i64 a5_3, .slice A5_4 l5_4.length c5_4] 77 (0, 0)) (by (with_reducible repeat (first | refine blk_drewN ?_ _ | refine blk_drew ?_ | refine blk_alloc ?_ _)); exact BK347.out) hb); have n8_ := Aside0.mk (blk_below (g := gb406) (o := .cells #[.string t398, .string t399, .string t400, .int .i64 t401, .slice Ao118 t402.length co118] 77 (0, 0)) (by (with_reducible repeat (first | refine blk_drewN ?_ _ | refine blk_drew ?_ | refine blk_alloc ?_ _)); exact BK406.out) hb); have n9_ := Aside0.mk (below_step (by repeat (with_reducible first | exact HB.out | apply below_alloc | apply pw_below_drewN | apply below_drew1 | refine below_set ?_ GE346.out | refine below_set ?_ GE347.out | refine below_set ?_ GE406.out)) hb); have n10_ := Aside0.mk (hbox); have n11_ := Aside0.mk ((by rw [hg]; exact (below_size (by repeat (with_reducible first | exact HB.out | apply below_alloc | apply pw_below_drewN | apply below_drew1 | refine below_set ?_ GE346.out | refine below_set ?_ GE347.out | refine below_set ?_ GE406.out))) : w.heap.size ≤ gb415)); have n12_ := Aside0.mk ((by rw [hg]; exact (below_size (by repeat (with_reducible first | exact HB.out | apply below_alloc | apply pw_below_drewN | apply below_drew1 | refine below_set ?_ GE346.out | refine below_set ?_ GE347.out | refine below_set ?_ GE406.out))) : w.heap.size ≤ gb415)); have n13_ := Aside0.mk ((by rw [hg]; exact Nat.ne_of_lt (blk_lt (g := gb346) (o := .cells #[.int .i64 x347000_2, .string x347001_2, .string x347002_2, .string x347003_2, .int .u64 x347004_2] 74 (0, 0)) (by (with_reducible repeat (first | refine blk_drewN ?_ _ | refine blk_drew ?_ | refine blk_alloc ?_ _)); exact BK346.out)) : gb346 ≠ gb415)); have n14_ := Aside0.mk ((by rw [hg]; exact Nat.ne_of_gt (blk_lt (g := gb346) (o := .cells #[.int .i64 x347000_2, .string x347001_2, .string x347002_2, .string x347003_2, .int .u64 x347004_2] 74 (0, 0)) (by (with_reducible repeat (first | refine blk_drewN ?_ _ | refine blk_drew ?_ | refine blk_alloc ?_ _)); exact BK346.out)) : gb415 ≠ gb346)); have n15_ := Aside0.mk ((by rw [hg]; exact Nat.ne_of_lt (blk_lt (g := gb347) (o := .cells #[.string a5_0, .string a5_1, .string a5_2, .int .i64 a5_3, .slice A5_4 l5_4.length c5_4] 77 (0, 0)) (by (with_reducible repeat (first | refine blk_drewN ?_ _ | refine blk_drew ?_ | refine blk_alloc ?_ _)); exact BK347.out)) : gb347 ≠ gb415)); have n16_ := Aside0.mk ((by rw [hg]; exact Nat.ne_of_gt (blk_lt (g := gb347) (o := .cells #[.string a5_0, .string a5_1, .string a5_2, .int .i64 a5_3, .slice A5_4 l5_4.length c5_4] 77 (0, 0)) (by (with_reducible repeat (first | refine blk_drewN ?_ _ | refine blk_drew ?_ | refine blk_alloc ?_ _)); exact BK347.out)) : gb415 ≠ gb347)); have n17_ := Aside0.mk ((by rw [hg]; exact Nat.ne_of_lt (blk_lt (g := gb406) (o := .cells #[.string t398, .string t399, .string t400, .int .i64 t401, .slice Ao118 t402.length co118] 77 (0, 0)) (by (with_reducible repeat (first | refine blk_drewN ?_ _ | refine blk_drew ?_ | refine blk_alloc ?_ _)); exact BK406.out)) : gb406 ≠ gb415)); have n18_ := Aside0.mk ((by rw [hg]; exact Nat.ne_of_gt (blk_lt (g := gb406) (o := .cells #[.string t398, .string t399, .string t400, .int .i64 t401, .slice Ao118 t402.length co118] 77 (0, 0)) (by (with_reducible repeat (first | refine blk_drewN ?_ _ | refine blk_drew ?_ | refine blk_alloc ?_ _)); exact BK406.out)) : gb415 ≠ gb406)); clear HO_6; clear HO_29; clear HO394; clear HO397; clear HO404; clear HO413; clear BK346; clear BK347; clear BK406; clear HB; have HO_6 := n0_; have HO_29 := n1_; have HO394 := n2_; have HO397 := n3_; have HO404 := n4_; have HO413 := n5_; have BK346 := n6_; have BK347 := n7_; have BK406 := n8_; have HB := n9_; have BK415 := n10_; have GW415 := n11_; have GE415 := n12_; have NB346_415 := n13_; have NB415_346 := n14_; have NB347_415 := n15_; have NB415_347 := n16_; have NB406_415 := n17_; have NB415_406 := n18_; clear n0_ n1_ n2_ n3_ n4_ n5_ n6_ n7_ n8_ n9_ n10_ n11_ n12_ n13_ n14_ n15_ n16_ n17_ n18_; clear hb hbox hg; have hnb122 := NB415_346.out; have hnc122 := NB346_415.out; have hnb123 := NB415_347.out; have hnc123 := NB347_415.out; have hnb124 := NB415_406.out; have hnc124 := NB406_415.out; have hcz125_0 : w121.cell? ⟨gb415, 0, none⟩ = some (.string (⟨#[]⟩ : ByteArray)) := (blk_cell BK415.out 0).trans rfl; have hcz125_1 : w121.cell? ⟨gb415, 1, none⟩ = some (.string (⟨#[]⟩ : ByteArray)) := (blk_cell BK415.out 1).trans rfl; have hcz125_2 : w121.cell? ⟨gb415, 2, none⟩ = some (.string (⟨#[]⟩ : ByteArray)) := (blk_cell BK415.out 2).trans rfl; have hcz125_3 : w121.cell? ⟨gb415, 3, none⟩ = some (.int .i64 0) := (blk_cell BK415.out 3).trans rfl; have hcz125_4 : w121.cell? ⟨gb415, 4, none⟩ = some (.slice none 0 0) := (blk_cell BK415.out 4).trans rfl; have hfz125_0 := blk_frozen BK415.out 0; have hfz125_1 := blk_frozen BK415.out 1; have hfz125_2 := blk_frozen BK415.out 2; have hfz125_3 := blk_frozen BK415.out 3; have hfz125_4 := blk_frozen BK415.out 4; obtain ⟨Ao126, co126, eo126⟩ := Kd.V_slice HO413.out; subst eo126; have hcz127_0 : w121.cell? ⟨gb406, 0, none⟩ = some (.string t398) := (blk_cell BK406.out 0).trans rfl; have hcz127_1 : w121.cell? ⟨gb406, 1, none⟩ = some (.string t399) := (blk_cell BK406.out 1).trans rfl; have hcz127_2 : w121.cell? ⟨gb406, 2, none⟩ = some (.string t400) := (blk_cell BK406.out 2).trans rfl; have hcz127_3 : w121.cell? ⟨gb406, 3, none⟩ = some (.int .i64 t401) := (blk_cell BK406.out 3).trans rfl; have hcz127_4 : w121.cell? ⟨gb406, 4, none⟩ = some (.slice Ao118 t402.length co118) := (blk_cell BK406.out 4).trans rfl; have hfz127_0 := blk_frozen BK406.out 0; have hfz127_1 := blk_frozen BK406.out 1; have hfz127_2 := blk_frozen BK406.out 2; have hfz127_3 := blk_frozen BK406.out 3; have hfz127_4 := blk_frozen BK406.out 4) | (go_at_call 47; (with_reducible refine (waybillref7_SameMsg.calls t398 t399 t400 t401 _ _ t402 t407 t408 t409 t410 _ _ t411 true _ ?side1 ?side2 ?side3 ?side4 A107.out).mono ?_); (case side1 => refine (Kd.R_reads' (e := 5) (base := w.heap.size) (ok := fun k_ => (w.heap.size ≤ k_)) (n := t402.length) (c := co118) ?_).2.2; exact (by (with_reducible repeat (first | apply Kd.R_alloc | apply Kd.R_drewN | apply Kd.R_drew)); exact (Kd.R_mono (Kd.R_far (p := ⟨gb415, 4, none⟩) (Kd.R_far (p := ⟨gb415, 3, none⟩) (Kd.R_far (p := ⟨gb415, 2, none⟩) (Kd.R_far (p := ⟨gb415, 1, none⟩) (Kd.R_far (p := ⟨gb415, 0, none⟩) (Kd.R_types HO404.out BK415.out (by decide)) (fun _ hk => hk.2) (.string t407)) (fun _ hk => hk.2) (.string t408)) (fun _ hk => hk.2) (.string t409)) (fun _ hk => hk.2) (.int .i64 t410)) (fun _ hk => hk.2) (.slice Ao126 t411.length co126)) (fun _ h_ => h_.1)))); (case side2 => exact (Kd.R_reads' HO404.out).2.1); (case side3 => refine (Kd.V_reads' (e := 5) (base := w.heap.size) (ok := fun k_ => (((P6_ k_ ∨ w.heap.size ≤ k_) ∧ (some k_ ≠ (.slice Ao118 t402.length co118 : Value).ownBlock ∧ (k_ ≠ gb346 ∧ (k_ ≠ gb347 ∧ k_ ≠ gb406)))) ∧ k_ ≠ gb415)) (n := t411.length) (c := co126) ?_).2.2; exact (by (with_reducible repeat (first | apply Kd.V_alloc | apply Kd.V_drewN | apply Kd.V_drew)); exact (Kd.V_mono (Kd.V_far (p := ⟨gb415, 4, none⟩) (Kd.V_far (p := ⟨gb415, 3, none⟩) (Kd.V_far (p := ⟨gb415, 2, none⟩) (Kd.V_far (p := ⟨gb415, 1, none⟩) (Kd.V_far (p := ⟨gb415, 0, none⟩) (Kd.V_mono HO413.out (fun k_ hk => (⟨hk, hk.2⟩ : _ ∧ k_ ≠ gb415))) (fun _ hk => hk.2) (.string t407)) (fun _ hk => hk.2) (.string t408)) (fun _ hk => hk.2) (.string t409)) (fun _ hk => hk.2) (.int .i64 t410)) (fun _ hk => hk.2) (.slice Ao126 t411.length co126)) (fun _ h_ => h_.1)))); (case side4 => exact (Kd.V_reads' HO413.out).2.1); rintro e w128 ⟨rfl, hb⟩; have n0_ := Aside0.mk (Kd.V_below (by (with_reducible repeat (first | apply Kd.V_alloc | apply Kd.V_drewN | apply Kd.V_drew)); exact (Kd.V_mono (Kd.V_far (p := ⟨gb415, 4, none⟩) (Kd.V_far (p := ⟨gb415, 3, none⟩) (Kd.V_far (p := ⟨gb415, 2, none⟩) (Kd.V_far (p := ⟨gb415, 1, none⟩) (Kd.V_far (p := ⟨gb415, 0, none⟩) (Kd.V_mono HO_6.out (fun k_ hk => (⟨hk, hk.2⟩ : _ ∧ k_ ≠ gb415))) (fun _ hk => hk.2) (.string t407)) (fun _ hk => hk.2) (.string t408)) (fun _ hk => hk.2) (.string t409)) (fun _ hk => hk.2) (.int .i64 t410)) (fun _ hk => hk.2) (.slice Ao126 t411.length co126)) (fun _ h_ => h_.1))) hb); have n1_ := Aside0.mk (Kd.V_below (by (with_reducible repeat (first | apply Kd.V_alloc | apply Kd.V_drewN | apply Kd.V_drew)); exact (Kd.V_mono (Kd.V_far (p := ⟨gb415, 4, none⟩) (Kd.V_far (p := ⟨gb415, 3, none⟩) (Kd.V_far (p := ⟨gb415, 2, none⟩) (Kd.V_far (p := ⟨gb415, 1, none⟩) (Kd.V_far (p := ⟨gb415, 0, none⟩) (Kd.V_mono HO_29.out (fun k_ hk => (⟨hk, hk.2⟩ : _ ∧ k_ ≠ gb415))) (fun _ hk => hk.2) (.string t407)) (fun _ hk => hk.2) (.string t408)) (fun _ hk => hk.2) (.string t409)) (fun _ hk => hk.2) (.int .i64 t410)) (fun _ hk => hk.2) (.slice Ao126 t411.length co126)) (fun _ h_ => h_.1))) hb); have n2_ := Aside0.mk (Kd.V_below (by (with_reducible repeat (first | apply Kd.V_alloc | apply Kd.V_drewN | apply Kd.V_drew)); exact (Kd.V_mono (Kd.V_far (p := ⟨gb415, 4, none⟩) (Kd.V_far (p := ⟨gb415, 3, none⟩) (Kd.V_far (p := ⟨gb415, 2, none⟩) (Kd.V_far (p := ⟨gb415, 1, none⟩) (Kd.V_far (p := ⟨gb415, 0, none⟩) (Kd.V_mono HO394.out (fun k_ hk => (⟨hk, hk.2⟩ : _ ∧ k_ ≠ gb415))) (fun _ hk => hk.2) (.string t407)) (fun _ hk => hk.2) (.string t408)) (fun _ hk => hk.2) (.string t409)) (fun _ hk => hk.2) (.int .i64 t410)) (fun _ hk => hk.2) (.slice Ao126 t411.length co126)) (fun _ h_ => h_.1))) hb); have n3_ := Aside0.mk (Kd.V_below (by (with_reducible repeat (first | apply Kd.V_alloc | apply Kd.V_drewN | apply Kd.V_drew)); exact (Kd.V_mono (Kd.V_far (p := ⟨gb415, 4, none⟩) (Kd.V_far (p := ⟨gb415, 3, none⟩) (Kd.V_far (p := ⟨gb415, 2, none⟩) (Kd.V_far (p := ⟨gb415, 1, none⟩) (Kd.V_far (p := ⟨gb415, 0, none⟩) (Kd.V_mono HO397.out (fun k_ hk => (⟨hk, hk.2⟩ : _ ∧ k_ ≠ gb415))) (fun _ hk => hk.2) (.string t407)) (fun _ hk => hk.2) (.string t408)) (fun _ hk => hk.2) (.string t409)) (fun _ hk => hk.2) (.int .i64 t410)) (fun _ hk => hk.2) (.slice Ao126 t411.length co126)) (fun _ h_ => h_.1))) hb); have n4_ := Aside0.mk (Kd.R_below (by (with_reducible repeat (first | apply Kd.R_alloc | apply Kd.R_drewN | apply Kd.R_drew)); exact (Kd.R_mono (Kd.R_far (p := ⟨gb415, 4, none⟩) (Kd.R_far (p := ⟨gb415, 3, none⟩) (Kd.R_far (p := ⟨gb415, 2, none⟩) (Kd.R_far (p := ⟨gb415, 1, none⟩) (Kd.R_far (p := ⟨gb415, 0, none⟩) (Kd.R_types HO404.out BK415.out (by decide)) (fun _ hk => hk.2) (.string t407)) (fun _ hk => hk.2) (.string t408)) (fun _ hk => hk.2) (.string t409)) (fun _ hk => hk.2) (.int .i64 t410)) (fun _ hk => hk.2) (.slice Ao126 t411.length co126)) (fun _ h_ => h_.1))) hb); have n5_ := Aside0.mk (Kd.V_below (by (with_reducible repeat (first | apply Kd.V_alloc | apply Kd.V_drewN | apply Kd.V_drew)); exact (Kd.V_mono (Kd.V_far (p := ⟨gb415, 4, none⟩) (Kd.V_far (p := ⟨gb415, 3, none⟩) (Kd.V_far (p := ⟨gb415, 2, none⟩) (Kd.V_far (p := ⟨gb415, 1, none⟩) (Kd.V_far (p := ⟨gb415, 0, none⟩) (Kd.V_mono HO413.out (fun k_ hk => (⟨hk, hk.2⟩ : _ ∧ k_ ≠ gb415))) (fun _ hk => hk.2) (.string t407)) (fun _ hk => hk.2) (.string t408)) (fun _ hk => hk.2) (.string t409)) (fun _ hk => hk.2) (.int .i64 t410)) (fun _ hk => hk.2) (.slice Ao126 t411.length co126)) (fun _ h_ => h_.1))) hb); have n6_ := Aside0.mk (blk_below (g := gb346) (o := .cells #[.int .i64 x347000_2, .string x347001_2, .string x347002_2, .string x347003_2, .int .u64 x347004_2] 74 (0, 0)) (by (with_reducible repeat (first | refine blk_drewN ?_ _ | refine blk_drew ?_ | refine blk_alloc ?_ _)); refine blk_far ?_ NB346_415.out _; (with_reducible repeat (first | refine blk_drewN ?_ _ | refine blk_drew ?_ | refine blk_alloc ?_ _)); refine blk_far ?_ NB346_415.out _; (with_reducible repeat (first | refine blk_drewN ?_ _ | refine blk_drew ?_ | refine blk_alloc ?_ _)); refine blk_far ?_ NB346_415.out _; (with_reducible repeat (first | refine blk_drewN ?_ _ | refine blk_drew ?_ | refine blk_alloc ?_ _)); refine blk_far ?_ NB346_415.out _; (with_reducible repeat (first | refine blk_drewN ?_ _ | refine blk_drew ?_ | refine blk_alloc ?_ _)); refine blk_far ?_ NB346_415.out _; (with_reducible repeat (first | refine blk_drewN ?_ _ | refine blk_drew ?_ | refine blk_alloc ?_ _)); exact BK346.out) hb); have n7_ := Aside0.mk (blk_below (g := gb347) (o := .cells #[.string a5_0, .string a5_1, .string a5_2, .int .i64 a5_3, .slice A5_4 l5_4.length c5_4] 77 (0, 0)) (by (with_reducible repeat (first | refine blk_drewN ?_ _ | refine blk_drew ?_ | refine blk_alloc ?_ _)); refine blk_far ?_ NB347_415.out _; (with_reducible repeat (first | refine blk_drewN ?_ _ | refine blk_drew ?_ | refine blk_alloc ?_ _)); refine blk_far ?_ NB347_415.out _; (with_reducible repeat (first | refine blk_drewN ?_ _ | refine blk_drew ?_ | refine blk_alloc ?_ _)); refine blk_far ?_ NB347_415.out _; (with_reducible repeat (first | refine blk_drewN ?_ _ | refine blk_drew ?_ | refine blk_alloc ?_ _)); refine blk_far ?_ NB347_415.out _; (with_reducible repeat (first | refine blk_drewN ?_ _ | refine blk_drew ?_ | refine blk_alloc ?_ _)); refine blk_far ?_ NB347_415.out _; (with_reducible repeat (first | refine blk_drewN ?_ _ | refine blk_drew ?_ | refine blk_alloc ?_ _)); exact BK347.out) hb); have n8_ := Aside0.mk (blk_below (g := gb406) (o := .cells #[.string t398, .string t399, .string t400, .int .i64 t401, .slice Ao118 t402.length co118] 77 (0, 0)) (by (with_reducible repeat (first | refine blk_drewN ?_ _ | refine blk_drew ?_ | refine blk_alloc ?_ _)); refine blk_far ?_ NB406_415.out _; (with_reducible repeat (first | refine blk_drewN ?_ _ | refine blk_drew ?_ | refine blk_alloc ?_ _)); refine blk_far ?_ NB406_415.out _; (with_reducible repeat (first | refine blk_drewN ?_ _ | refine blk_drew ?_ | refine blk_alloc ?_ _)); refine blk_far ?_ NB406_415.out _; (with_reducible repeat (first | refine blk_drewN ?_ _ | refine blk_drew ?_ | refine blk_alloc ?_ _)); refine blk_far ?_ NB406_415.out _; (with_reducible repeat (first | refine blk_drewN ?_ _ | refine blk_drew ?_ | refine blk_alloc ?_ _)); refine blk_far ?_ NB406_415.out _; (with_reducible repeat (first | refine blk_drewN ?_ _ | refine blk_drew ?_ | refine blk_alloc ?_ _)); exact BK406.out) hb); have n9_ := Aside0.mk (blk_below (g := gb415) (o := .cells #[.string t407, .string t408, .string t409, .int .i64 t410, .slice Ao126 t411.length co126] 77 (0, 0)) (by (with_reducible repeat (first | refine blk_drewN ?_ _ | refine blk_drew ?_ | refine blk_alloc ?_ _)); refine blk_put (cs := #[.string t407, .string t408, .string t409, .int .i64 t410, .slice none 0 0]) ?_ 4 _ rfl; (with_reducible repeat (first | refine blk_drewN ?_ _ | refine blk_drew ?_ | refine blk_alloc ?_ _)); refine blk_put (cs := #[.string t407, .string t408, .string t409, .int .i64 0, .slice none 0 0]) ?_ 3 _ rfl; (with_reducible repeat (first | refine blk_drewN ?_ _ | refine blk_drew ?_ | refine blk_alloc ?_ _)); refine blk_put (cs := #[.string t407, .string t408, .string (⟨#[]⟩ : ByteArray), .int .i64 0, .slice none 0 0]) ?_ 2 _ rfl; (with_reducible repeat (first | refine blk_drewN ?_ _ | refine blk_drew ?_ | refine blk_alloc ?_ _)); refine blk_put (cs := #[.string t407, .string (⟨#[]⟩ : ByteArray), .string (⟨#[]⟩ : ByteArray), .int .i64 0, .slice none 0 0]) ?_ 1 _ rfl; (with_reducible repeat (first | refine blk_drewN ?_ _ | refine blk_drew ?_ | refine blk_alloc ?_ _)); refine blk_put (cs := #[.string (⟨#[]⟩ : ByteArray), .string (⟨#[]⟩ : ByteArray), .string (⟨#[]⟩ : ByteArray), .int .i64 0, .slice none 0 0]) ?_ 0 _ rfl; (with_reducible repeat (first | refine blk_drewN ?_ _ | refine blk_drew ?_ | refine blk_alloc ?_ _)); exact BK415.out) hb); have n10_ := Aside0.mk (below_step (by repeat (with_reducible first | exact HB.out | apply below_alloc | apply pw_below_drewN | apply below_drew1 | refine below_set ?_ GE346.out | refine below_set ?_ GE347.out | refine below_set ?_ GE406.out | refine below_set ?_ GE415.out)) hb); clear HO_6; clear HO_29; clear HO394; clear HO397; clear HO404; clear HO413; clear BK346; clear BK347; clear BK406; clear BK415; clear HB; have HO_6 := n0_; have HO_29 := n1_; have HO394 := n2_; have HO397 := n3_; have HO404 := n4_; have HO413 := n5_; have BK346 := n6_; have BK347 := n7_; have BK406 := n8_; have BK415 := n9_; have HB := n10_; clear n0_ n1_ n2_ n3_ n4_ n5_ n6_ n7_ n8_ n9_ n10_; (try clear hb); (try clear hb2); (try clear hk); (try clear hi); (try clear hge)))
                   go_roundg k4
                   case measure => have := HJ7.out; have := HK2.out; have := HJ87.out; have := HK4.out; omega
                   case rel => exact ⟨(wrap64 (x31_4 + 1)), (by first | rfl | (simp; done) | (simp [*]; done)), H', ⟨by have := HJ7.out; have := HK2.out; have := HJ87.out; have := HK4.out; omega⟩, ⟨by (try simp only [hl6_2]); exact Kd.V_mono HO_6.out (fun _ hk => ⟨hk.1.1, ⟨hk.1.2.2.1, hk.1.2.2.2.1⟩⟩)⟩, ⟨by (try simp only [hl6_2]); exact Kd.V_mono HO_29.out (fun _ hk => ⟨hk.1.1, ⟨hk.1.2.2.1, hk.1.2.2.2.1⟩⟩)⟩, ⟨by (try simp only [hl6_2]); exact BK346.out⟩, ⟨by (try simp only [hl6_2]); exact BK347.out⟩, ⟨by repeat (with_reducible first | exact HB.out | apply below_alloc | apply pw_below_drewN | apply below_drew1 | refine below_set ?_ GE346.out | refine below_set ?_ GE347.out | refine below_set ?_ GE406.out | refine below_set ?_ GE415.out)⟩⟩
                  ·
                   replace c108 := Bool.eq_false_iff.mpr c108
                   subst c108
                   have H1 : (none) = some r := by rw [if_neg (show ¬ (false = true) by decide)] at H; exact H
                   clear H
                   have H := H1
                   clear H1
                   exact absurd H (by simp)
                ·
                 rw [if_neg c103] at H
                 exact absurd H (by simp)
               ·
                rw [if_neg c102] at H
                exact absurd H (by simp)
              ·
               rw [if_neg c101] at H
               exact absurd H (by simp)
            ·
             rw [if_neg c98] at H
             have c98b0 : decide (x31_4 < 2) = false := decide_eq_false c98
             clear c98
             replace H := Option.bind_eq_some_iff.mp H
             obtain ⟨t389, A1290, H⟩ := H
             replace H : (some t389) = some r := H
             have A129 := Aside0.mk A1290
             clear A1290
             obtain rfl := Option.some.inj H
             go_wp2_with (first | ((with_reducible refine gate_callee (f := 37) rfl ?_); refine goesL_ (some 216) rfl rfl Try.func37 (by kernel_rfl) rfl #[] rfl (by (try simp only [List.map_toArray, List.map_cons, List.map_nil]); first | done | rfl | (simp only [List.length_drop, List.length_take]; rfl)) ?_; (with_reducible refine (waybilllaw12_awake.calls k4  t389 _ A129.out).mono ?_); rintro e w130 ⟨rfl, hb⟩; refine ⟨_, rfl, ?_⟩; have n0_ := Aside0.mk (Kd.V_below (by exact HO_6.out) hb); have n1_ := Aside0.mk (Kd.V_below (by exact HO_29.out) hb); have n2_ := Aside0.mk (blk_below (g := gb346) (o := .cells #[.int .i64 x347000_2, .string x347001_2, .string x347002_2, .string x347003_2, .int .u64 x347004_2] 74 (0, 0)) (by exact BK346.out) hb); have n3_ := Aside0.mk (blk_below (g := gb347) (o := .cells #[.string a5_0, .string a5_1, .string a5_2, .int .i64 a5_3, .slice A5_4 l5_4.length c5_4] 77 (0, 0)) (by exact BK347.out) hb); have n4_ := Aside0.mk (below_step (by repeat (with_reducible first | exact HB.out | apply below_alloc | apply pw_below_drewN | apply below_drew1 | refine below_set ?_ GE346.out | refine below_set ?_ GE347.out)) hb); clear HO_6; clear HO_29; clear BK346; clear BK347; clear HB; have HO_6 := n0_; have HO_29 := n1_; have BK346 := n2_; have BK347 := n3_; have HB := n4_; clear n0_ n1_ n2_ n3_ n4_; (try clear hb); (try clear hb2); (try clear hk); (try clear hi); (try clear hge)))
             all_goals first | (go_ret; exact ⟨by first | rfl | (simp [errW_none, errW_some]; done) | (simp [errW_none, errW_some]; rfl) | (simp [*, errW_none, errW_some]; done) | (simp [*, errW_none, errW_some]; rfl), by repeat (with_reducible first | exact HB.out | apply below_alloc | apply pw_below_drewN | apply below_drew1 | refine below_set ?_ GE346.out | refine below_set ?_ GE347.out)⟩) | (exfalso; simp_all; done)

end Go.Proofs.Ytpjkaodbcclecaa.PK
