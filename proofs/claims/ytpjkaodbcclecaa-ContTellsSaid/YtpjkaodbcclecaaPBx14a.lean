/- What functions of the given program come to, and that they do: written out of the translation by a program of this session; Lean checks it. -/
import Derived.Test.YtpjkaodbcclecaaPBx0
import Derived.Test.YtpjkaodbcclecaaPBx1
import Derived.Test.YtpjkaodbcclecaaPBx3
import Derived.Test.YtpjkaodbcclecaaPBx6
import Derived.Test.YtpjkaodbcclecaaPBx7
import Derived.Test.YtpjkaodbcclecaaPBx8
import Derived.Test.YtpjkaodbcclecaaPBx10
import Derived.Test.YtpjkaodbcclecaaPBx12
import Derived.Test.YtpjkaodbcclecaaPBx13
namespace Go.Proofs.Ytpjkaodbcclecaa.PB
open Go.RowKit Go.Proofs.YtpjkaodbcclecaaW.PrintWords Go.Proofs.YtpjkaodbcclecaaW.PrintLast Go.Proofs.YtpjkaodbcclecaaW.PrintMore
attribute [local go_sem] max2_int min2_int max_two min_two max_three min_three max_four min_four   -- for this text's walks alone
set_option linter.unusedVariables false
set_option linter.unusedSimpArgs false

attribute [local go_sem high] eqA25
/-! ### waybilllaw5_ContTells: function 8 -/
mutual
def waybilllaw5_ContTells.j0 : Nat → List Int → Int → Int → Int → Int → List Int → Bool → Int → Int → ByteArray → Option (Bool)
 | 0, _, _, _, _, _, _, _, _, _, _ => none
 | k + 1, x0, x2, x3, x4, x5, x6, x43, x363000, x363001, x363002 => if x43 = true then ((waybilllaw5_awake.f k).bind fun t363 => (some t363)) else (waybilllaw5_ContTells.l0 k x0 x2 x3 x4 x5 x6 0 x363000 x363001 x363002)
def waybilllaw5_ContTells.l0 : Nat → List Int → Int → Int → Int → Int → List Int → Int → Int → Int → ByteArray → Option (Bool)
 | 0, _, _, _, _, _, _, _, _, _, _ => none
 | k + 1, x0, x2, x3, x4, x5, x6, x15, x363000, x363001, x363002 => if x15 < 2 then ((cont_Append.f k (([3] : List Int)) x363000 x363001 x363002).bind fun bt368 => ((some (([3] : List Int) : List Int)).bind fun y372 => ((waybillref1_HeadOk.f x363000 x363001 x363002).bind fun t375 => (if t375 = true then ((waybillref1_Head.f k y372 x363000 x363001 x363002).bind fun t376 => (waybilllaw5_ContTells.j2 k x0 x2 x3 x4 x5 x6 x15 bt368.1 bt368.2 t376 t375 x363000 x363001 x363002)) else (waybilllaw5_ContTells.j2 k x0 x2 x3 x4 x5 x6 x15 bt368.1 bt368.2 y372 t375 x363000 x363001 x363002))))) else ((waybilllaw5_awake.f k).bind fun t364 => (some t364))
def waybilllaw5_ContTells.j2 : Nat → List Int → Int → Int → Int → Int → List Int → Int → List Int → Bool → List Int → Bool → Int → Int → ByteArray → Option (Bool)
 | 0, _, _, _, _, _, _, _, _, _, _, _, _, _, _ => none
 | k + 1, x0, x2, x3, x4, x5, x6, x15, x16, x17, x18, x19, x363000, x363001, x363002 => if (x17 != x19) = true then (waybilllaw5_ContTells.j3 k x0 x2 x3 x4 x5 x6 x15 x18 x19 true x363000 x363001 x363002) else (waybilllaw5_ContTells.j3 k x0 x2 x3 x4 x5 x6 x15 x18 x19 ((strOfNums x16).toList != (strOfNums x18).toList) x363000 x363001 x363002)
def waybilllaw5_ContTells.j3 : Nat → List Int → Int → Int → Int → Int → List Int → Int → List Int → Bool → Bool → Int → Int → ByteArray → Option (Bool)
 | 0, _, _, _, _, _, _, _, _, _, _, _, _, _ => none
 | k + 1, x0, x2, x3, x4, x5, x6, x15, x18, x19, x71, x363000, x363001, x363002 => if x71 = true then (none) else ((some (([] : List Int) : List Int)).bind fun y379 => (if 1 ≤ (x18.length : Int) then ((some (x18.drop 1 : List Int)).bind fun y382 => (if y379.length + y382.length < 140737488355328 then ((some (y379 ++ y382 : List Int)).bind fun y386 => (if (y386.length : Int) > 0 then (if (y386.length : Int) = 0 then (none) else (if 0 ≤ (Int.tmod (Go.bits .and .i64 x2 65535) (y386.length : Int)) then (if (Int.tmod (Go.bits .and .i64 x2 65535) (y386.length : Int)) < (y386.length : Int) then (waybilllaw5_ContTells.j4 k x0 x2 x3 x4 x5 x6 x15 x18 x19 (y386.set ((Int.tmod (Go.bits .and .i64 x2 65535) (y386.length : Int)) : Int).toNat (Go.bits .xor .u8 (rd y386 (Int.tmod (Go.bits .and .i64 x2 65535) (y386.length : Int))) x3)) x363000 x363001 x363002) else (none)) else (none))) else (waybilllaw5_ContTells.j4 k x0 x2 x3 x4 x5 x6 x15 x18 x19 y386 x363000 x363001 x363002))) else (none))) else (none)))
def waybilllaw5_ContTells.j4 : Nat → List Int → Int → Int → Int → Int → List Int → Int → List Int → Bool → List Int → Int → Int → ByteArray → Option (Bool)
 | 0, _, _, _, _, _, _, _, _, _, _, _, _, _ => none
 | k + 1, x0, x2, x3, x4, x5, x6, x15, x18, x19, x20, x363000, x363001, x363002 => waybilllaw5_ContTells.l1 k x0 x2 x3 x4 x5 x6 x15 x18 x19 x20 0 x363000 x363001 x363002
def waybilllaw5_ContTells.l1 : Nat → List Int → Int → Int → Int → Int → List Int → Int → List Int → Bool → List Int → Int → Int → Int → ByteArray → Option (Bool)
 | 0, _, _, _, _, _, _, _, _, _, _, _, _, _, _ => none
 | k + 1, x0, x2, x3, x4, x5, x6, x15, x18, x19, x20, x21, x363000, x363001, x363002 => if x21 < 4 then (if (x18.length : Int) = 0 then (none) else (if 1 ≤ (wrap64 (1 + (Int.tmod (Go.bits .and .i64 x4 65535) (x18.length : Int)))) then (if (wrap64 (1 + (Int.tmod (Go.bits .and .i64 x4 65535) (x18.length : Int)))) ≤ (x18.length : Int) then ((some (([] : List Int) : List Int)).bind fun y396 => (if 1 ≤ (x18.length : Int) then ((some (x18.drop 1 : List Int)).bind fun y399 => (if y396.length + y399.length < 140737488355328 then ((some (y396 ++ y399 : List Int)).bind fun y404 => ((some (([x3] : List Int) : List Int)).bind fun y407 => (if y404.length + y407.length < 140737488355328 then (if 0 ≤ x21 then ((some (([x0, x20, ((x18.take ((wrap64 (1 + (Int.tmod (Go.bits .and .i64 x4 65535) (x18.length : Int)))) : Int).toNat).drop 1), (y404 ++ y407)] : List (List Int)).getD (x21).toNat [] : List Int)).bind fun y413 => ((cont_Parse.f k y413).bind fun bt416 => ((waybillref1_HeadOf.f k y413).bind fun bt421 => (if bt416.2.2.2 = bt421.2.2.2 then (if (!(bt416.1 == bt421.1) || (!(bt416.2.1 == bt421.2.1) || (!(bt416.2.2.1.toList == bt421.2.2.1.toList)))) = true then (none) else (waybilllaw5_ContTells.l1 k x0 x2 x3 x4 x5 x6 x15 x18 x19 x20 (wrap64 (x21 + 1)) x363000 x363001 x363002)) else (none))))) else (none)) else (none)))) else (none))) else (none))) else (none)) else (none))) else ((cont_Frames.f k (([4] : List Int)) x5 x363000 x363001 x363002 x6).bind fun bt429 => ((some (([4] : List Int) : List Int)).bind fun y433 => (if x19 = true then (if x5 ≥ 0 then (waybilllaw5_ContTells.j6 k x0 x2 x3 x4 x5 x6 x15 x19 bt429.1 bt429.2 y433 (decide (x5 ≤ 65535)) x363000 x363001 x363002) else (waybilllaw5_ContTells.j6 k x0 x2 x3 x4 x5 x6 x15 x19 bt429.1 bt429.2 y433 false x363000 x363001 x363002)) else (waybilllaw5_ContTells.j6 k x0 x2 x3 x4 x5 x6 x15 x19 bt429.1 bt429.2 y433 false x363000 x363001 x363002))))
def waybilllaw5_ContTells.j6 : Nat → List Int → Int → Int → Int → Int → List Int → Int → Bool → List Int → Bool → List Int → Bool → Int → Int → ByteArray → Option (Bool)
 | 0, _, _, _, _, _, _, _, _, _, _, _, _, _, _, _ => none
 | k + 1, x0, x2, x3, x4, x5, x6, x15, x19, x27, x28, x29, x150, x363000, x363001, x363002 => if x150 = true then ((waybillref1_Content.f k x29 x5 x363000 x363001 x363002 x6).bind fun t436 => (if x19 = true then (if x5 ≥ 0 then (if (x28 != (decide (x5 ≤ 65535))) = true then (none) else (if (strOfNums x27).toList = (strOfNums t436).toList then (waybilllaw5_ContTells.l0 k x0 x2 x3 x4 (Go.bits .and .i64 x5 65535) x6 (wrap64 (x15 + 1)) x363000 (Go.bits .and .i64 x363001 3) x363002) else (none))) else (if (x28 != false) = true then (none) else (if (strOfNums x27).toList = (strOfNums t436).toList then (waybilllaw5_ContTells.l0 k x0 x2 x3 x4 (Go.bits .and .i64 x5 65535) x6 (wrap64 (x15 + 1)) x363000 (Go.bits .and .i64 x363001 3) x363002) else (none)))) else (if (x28 != false) = true then (none) else (if (strOfNums x27).toList = (strOfNums t436).toList then (waybilllaw5_ContTells.l0 k x0 x2 x3 x4 (Go.bits .and .i64 x5 65535) x6 (wrap64 (x15 + 1)) x363000 (Go.bits .and .i64 x363001 3) x363002) else (none))))) else (if x19 = true then (if x5 ≥ 0 then (if (x28 != (decide (x5 ≤ 65535))) = true then (none) else (if (strOfNums x27).toList = (strOfNums x29).toList then (waybilllaw5_ContTells.l0 k x0 x2 x3 x4 (Go.bits .and .i64 x5 65535) x6 (wrap64 (x15 + 1)) x363000 (Go.bits .and .i64 x363001 3) x363002) else (none))) else (if (x28 != false) = true then (none) else (if (strOfNums x27).toList = (strOfNums x29).toList then (waybilllaw5_ContTells.l0 k x0 x2 x3 x4 (Go.bits .and .i64 x5 65535) x6 (wrap64 (x15 + 1)) x363000 (Go.bits .and .i64 x363001 3) x363002) else (none)))) else (if (x28 != false) = true then (none) else (if (strOfNums x27).toList = (strOfNums x29).toList then (waybilllaw5_ContTells.l0 k x0 x2 x3 x4 (Go.bits .and .i64 x5 65535) x6 (wrap64 (x15 + 1)) x363000 (Go.bits .and .i64 x363001 3) x363002) else (none))))
end
def waybilllaw5_ContTells.f (k : Nat) (l0 : List Int) (a1_0 : Int) (a1_1 : Int) (a1_2 : ByteArray) (a2 : Int) (a3 : Int) (a4 : Int) (a5 : Int) (l6 : List Int) : Option (Bool) := if (l0.length : Int) > 400 then (waybilllaw5_ContTells.j0 k l0 a2 a3 a4 a5 l6 true a1_0 a1_1 a1_2) else (if (a1_2.size : Int) > 400 then (waybilllaw5_ContTells.j0 k l0 a2 a3 a4 a5 l6 true a1_0 a1_1 a1_2) else (waybilllaw5_ContTells.j0 k l0 a2 a3 a4 a5 l6 (decide ((l6.length : Int) > 11000)) a1_0 a1_1 a1_2))
theorem waybilllaw5_ContTells.mono_l : ∀ k, (∀ y0 y1 y2 y3 y4 y5 y6 y7 y8 y9, LeO (waybilllaw5_ContTells.j0 k y0 y1 y2 y3 y4 y5 y6 y7 y8 y9) (waybilllaw5_ContTells.j0 (k + 1) y0 y1 y2 y3 y4 y5 y6 y7 y8 y9)) ∧ (∀ y0 y1 y2 y3 y4 y5 y6 y7 y8 y9, LeO (waybilllaw5_ContTells.l0 k y0 y1 y2 y3 y4 y5 y6 y7 y8 y9) (waybilllaw5_ContTells.l0 (k + 1) y0 y1 y2 y3 y4 y5 y6 y7 y8 y9)) ∧ (∀ y0 y1 y2 y3 y4 y5 y6 y7 y8 y9 y10 y11 y12 y13, LeO (waybilllaw5_ContTells.j2 k y0 y1 y2 y3 y4 y5 y6 y7 y8 y9 y10 y11 y12 y13) (waybilllaw5_ContTells.j2 (k + 1) y0 y1 y2 y3 y4 y5 y6 y7 y8 y9 y10 y11 y12 y13)) ∧ (∀ y0 y1 y2 y3 y4 y5 y6 y7 y8 y9 y10 y11 y12, LeO (waybilllaw5_ContTells.j3 k y0 y1 y2 y3 y4 y5 y6 y7 y8 y9 y10 y11 y12) (waybilllaw5_ContTells.j3 (k + 1) y0 y1 y2 y3 y4 y5 y6 y7 y8 y9 y10 y11 y12)) ∧ (∀ y0 y1 y2 y3 y4 y5 y6 y7 y8 y9 y10 y11 y12, LeO (waybilllaw5_ContTells.j4 k y0 y1 y2 y3 y4 y5 y6 y7 y8 y9 y10 y11 y12) (waybilllaw5_ContTells.j4 (k + 1) y0 y1 y2 y3 y4 y5 y6 y7 y8 y9 y10 y11 y12)) ∧ (∀ y0 y1 y2 y3 y4 y5 y6 y7 y8 y9 y10 y11 y12 y13, LeO (waybilllaw5_ContTells.l1 k y0 y1 y2 y3 y4 y5 y6 y7 y8 y9 y10 y11 y12 y13) (waybilllaw5_ContTells.l1 (k + 1) y0 y1 y2 y3 y4 y5 y6 y7 y8 y9 y10 y11 y12 y13)) ∧ (∀ y0 y1 y2 y3 y4 y5 y6 y7 y8 y9 y10 y11 y12 y13 y14, LeO (waybilllaw5_ContTells.j6 k y0 y1 y2 y3 y4 y5 y6 y7 y8 y9 y10 y11 y12 y13 y14) (waybilllaw5_ContTells.j6 (k + 1) y0 y1 y2 y3 y4 y5 y6 y7 y8 y9 y10 y11 y12 y13 y14))
 | 0 => ⟨fun _ _ _ _ _ _ _ _ _ _ r h => by simp [waybilllaw5_ContTells.j0] at h, fun _ _ _ _ _ _ _ _ _ _ r h => by simp [waybilllaw5_ContTells.l0] at h, fun _ _ _ _ _ _ _ _ _ _ _ _ _ _ r h => by simp [waybilllaw5_ContTells.j2] at h, fun _ _ _ _ _ _ _ _ _ _ _ _ _ r h => by simp [waybilllaw5_ContTells.j3] at h, fun _ _ _ _ _ _ _ _ _ _ _ _ _ r h => by simp [waybilllaw5_ContTells.j4] at h, fun _ _ _ _ _ _ _ _ _ _ _ _ _ _ r h => by simp [waybilllaw5_ContTells.l1] at h, fun _ _ _ _ _ _ _ _ _ _ _ _ _ _ _ r h => by simp [waybilllaw5_ContTells.j6] at h⟩
 | k + 1 => by
  obtain ⟨ih0, ih1, ih2, ih3, ih4, ih5, ih6⟩ := waybilllaw5_ContTells.mono_l k
  refine ⟨?_, ?_, ?_, ?_, ?_, ?_, ?_⟩
  ·
   intro y0 y1 y2 y3 y4 y5 y6 y7 y8 y9
   unfold waybilllaw5_ContTells.j0
   repeat' first
   | (with_reducible exact ih0 _ _ _ _ _ _ _ _ _ _)
   | (with_reducible exact ih1 _ _ _ _ _ _ _ _ _ _)
   | (with_reducible exact ih2 _ _ _ _ _ _ _ _ _ _ _ _ _ _)
   | (with_reducible exact ih3 _ _ _ _ _ _ _ _ _ _ _ _ _)
   | (with_reducible exact ih4 _ _ _ _ _ _ _ _ _ _ _ _ _)
   | (with_reducible exact ih5 _ _ _ _ _ _ _ _ _ _ _ _ _ _)
   | (with_reducible exact ih6 _ _ _ _ _ _ _ _ _ _ _ _ _ _ _)
   | (with_reducible exact cont_Append.mono _ _ _ _ _)
   | (with_reducible exact cont_Frames.mono _ _ _ _ _ _ _)
   | (with_reducible exact cont_Parse.mono _ _)
   | (with_reducible exact waybilllaw5_awake.mono _)
   | (with_reducible exact waybillref1_Content.mono _ _ _ _ _ _ _)
   | (with_reducible exact waybillref1_Head.mono _ _ _ _ _)
   | (with_reducible exact waybillref1_HeadOf.mono _ _)
   | (with_reducible exact LeO.refl _)
   | (with_reducible exact LeO.none _)
   | (with_reducible refine LeO.ite ?_ ?_)
   | (with_reducible refine LeO.bind ?_ (fun _ => ?_))
   | exact ih0 _ _ _ _ _ _ _ _ _ _
   | exact ih1 _ _ _ _ _ _ _ _ _ _
   | exact ih2 _ _ _ _ _ _ _ _ _ _ _ _ _ _
   | exact ih3 _ _ _ _ _ _ _ _ _ _ _ _ _
   | exact ih4 _ _ _ _ _ _ _ _ _ _ _ _ _
   | exact ih5 _ _ _ _ _ _ _ _ _ _ _ _ _ _
   | exact ih6 _ _ _ _ _ _ _ _ _ _ _ _ _ _ _
   | exact cont_Append.mono _ _ _ _ _
   | exact cont_Frames.mono _ _ _ _ _ _ _
   | exact cont_Parse.mono _ _
   | exact waybilllaw5_awake.mono _
   | exact waybillref1_Content.mono _ _ _ _ _ _ _
   | exact waybillref1_Head.mono _ _ _ _ _
   | exact waybillref1_HeadOf.mono _ _
   | exact LeO.none _
   | refine LeO.ite ?_ ?_
   | refine LeO.bind ?_ (fun _ => ?_)
  ·
   intro y0 y1 y2 y3 y4 y5 y6 y7 y8 y9
   unfold waybilllaw5_ContTells.l0
   repeat' first
   | (with_reducible exact ih0 _ _ _ _ _ _ _ _ _ _)
   | (with_reducible exact ih1 _ _ _ _ _ _ _ _ _ _)
   | (with_reducible exact ih2 _ _ _ _ _ _ _ _ _ _ _ _ _ _)
   | (with_reducible exact ih3 _ _ _ _ _ _ _ _ _ _ _ _ _)
   | (with_reducible exact ih4 _ _ _ _ _ _ _ _ _ _ _ _ _)
   | (with_reducible exact ih5 _ _ _ _ _ _ _ _ _ _ _ _ _ _)
   | (with_reducible exact ih6 _ _ _ _ _ _ _ _ _ _ _ _ _ _ _)
   | (with_reducible exact cont_Append.mono _ _ _ _ _)
   | (with_reducible exact cont_Frames.mono _ _ _ _ _ _ _)
   | (with_reducible exact cont_Parse.mono _ _)
   | (with_reducible exact waybilllaw5_awake.mono _)
   | (with_reducible exact waybillref1_Content.mono _ _ _ _ _ _ _)
   | (with_reducible exact waybillref1_Head.mono _ _ _ _ _)
   | (with_reducible exact waybillref1_HeadOf.mono _ _)
   | (with_reducible exact LeO.refl _)
   | (with_reducible exact LeO.none _)
   | (with_reducible refine LeO.ite ?_ ?_)
   | (with_reducible refine LeO.bind ?_ (fun _ => ?_))
   | exact ih0 _ _ _ _ _ _ _ _ _ _
   | exact ih1 _ _ _ _ _ _ _ _ _ _
   | exact ih2 _ _ _ _ _ _ _ _ _ _ _ _ _ _
   | exact ih3 _ _ _ _ _ _ _ _ _ _ _ _ _
   | exact ih4 _ _ _ _ _ _ _ _ _ _ _ _ _
   | exact ih5 _ _ _ _ _ _ _ _ _ _ _ _ _ _
   | exact ih6 _ _ _ _ _ _ _ _ _ _ _ _ _ _ _
   | exact cont_Append.mono _ _ _ _ _
   | exact cont_Frames.mono _ _ _ _ _ _ _
   | exact cont_Parse.mono _ _
   | exact waybilllaw5_awake.mono _
   | exact waybillref1_Content.mono _ _ _ _ _ _ _
   | exact waybillref1_Head.mono _ _ _ _ _
   | exact waybillref1_HeadOf.mono _ _
   | exact LeO.none _
   | refine LeO.ite ?_ ?_
   | refine LeO.bind ?_ (fun _ => ?_)
  ·
   intro y0 y1 y2 y3 y4 y5 y6 y7 y8 y9 y10 y11 y12 y13
   unfold waybilllaw5_ContTells.j2
   repeat' first
   | (with_reducible exact ih0 _ _ _ _ _ _ _ _ _ _)
   | (with_reducible exact ih1 _ _ _ _ _ _ _ _ _ _)
   | (with_reducible exact ih2 _ _ _ _ _ _ _ _ _ _ _ _ _ _)
   | (with_reducible exact ih3 _ _ _ _ _ _ _ _ _ _ _ _ _)
   | (with_reducible exact ih4 _ _ _ _ _ _ _ _ _ _ _ _ _)
   | (with_reducible exact ih5 _ _ _ _ _ _ _ _ _ _ _ _ _ _)
   | (with_reducible exact ih6 _ _ _ _ _ _ _ _ _ _ _ _ _ _ _)
   | (with_reducible exact cont_Append.mono _ _ _ _ _)
   | (with_reducible exact cont_Frames.mono _ _ _ _ _ _ _)
   | (with_reducible exact cont_Parse.mono _ _)
   | (with_reducible exact waybilllaw5_awake.mono _)
   | (with_reducible exact waybillref1_Content.mono _ _ _ _ _ _ _)
   | (with_reducible exact waybillref1_Head.mono _ _ _ _ _)
   | (with_reducible exact waybillref1_HeadOf.mono _ _)
   | (with_reducible exact LeO.refl _)
   | (with_reducible exact LeO.none _)
   | (with_reducible refine LeO.ite ?_ ?_)
   | (with_reducible refine LeO.bind ?_ (fun _ => ?_))
   | exact ih0 _ _ _ _ _ _ _ _ _ _
   | exact ih1 _ _ _ _ _ _ _ _ _ _
   | exact ih2 _ _ _ _ _ _ _ _ _ _ _ _ _ _
   | exact ih3 _ _ _ _ _ _ _ _ _ _ _ _ _
   | exact ih4 _ _ _ _ _ _ _ _ _ _ _ _ _
   | exact ih5 _ _ _ _ _ _ _ _ _ _ _ _ _ _
   | exact ih6 _ _ _ _ _ _ _ _ _ _ _ _ _ _ _
   | exact cont_Append.mono _ _ _ _ _
   | exact cont_Frames.mono _ _ _ _ _ _ _
   | exact cont_Parse.mono _ _
   | exact waybilllaw5_awake.mono _
   | exact waybillref1_Content.mono _ _ _ _ _ _ _
   | exact waybillref1_Head.mono _ _ _ _ _
   | exact waybillref1_HeadOf.mono _ _
   | exact LeO.none _
   | refine LeO.ite ?_ ?_
   | refine LeO.bind ?_ (fun _ => ?_)
  ·
   intro y0 y1 y2 y3 y4 y5 y6 y7 y8 y9 y10 y11 y12
   unfold waybilllaw5_ContTells.j3
   repeat' first
   | (with_reducible exact ih0 _ _ _ _ _ _ _ _ _ _)
   | (with_reducible exact ih1 _ _ _ _ _ _ _ _ _ _)
   | (with_reducible exact ih2 _ _ _ _ _ _ _ _ _ _ _ _ _ _)
   | (with_reducible exact ih3 _ _ _ _ _ _ _ _ _ _ _ _ _)
   | (with_reducible exact ih4 _ _ _ _ _ _ _ _ _ _ _ _ _)
   | (with_reducible exact ih5 _ _ _ _ _ _ _ _ _ _ _ _ _ _)
   | (with_reducible exact ih6 _ _ _ _ _ _ _ _ _ _ _ _ _ _ _)
   | (with_reducible exact cont_Append.mono _ _ _ _ _)
   | (with_reducible exact cont_Frames.mono _ _ _ _ _ _ _)
   | (with_reducible exact cont_Parse.mono _ _)
   | (with_reducible exact waybilllaw5_awake.mono _)
   | (with_reducible exact waybillref1_Content.mono _ _ _ _ _ _ _)
   | (with_reducible exact waybillref1_Head.mono _ _ _ _ _)
   | (with_reducible exact waybillref1_HeadOf.mono _ _)
   | (with_reducible exact LeO.refl _)
   | (with_reducible exact LeO.none _)
   | (with_reducible refine LeO.ite ?_ ?_)
   | (with_reducible refine LeO.bind ?_ (fun _ => ?_))
   | exact ih0 _ _ _ _ _ _ _ _ _ _
   | exact ih1 _ _ _ _ _ _ _ _ _ _
   | exact ih2 _ _ _ _ _ _ _ _ _ _ _ _ _ _
   | exact ih3 _ _ _ _ _ _ _ _ _ _ _ _ _
   | exact ih4 _ _ _ _ _ _ _ _ _ _ _ _ _
   | exact ih5 _ _ _ _ _ _ _ _ _ _ _ _ _ _
   | exact ih6 _ _ _ _ _ _ _ _ _ _ _ _ _ _ _
   | exact cont_Append.mono _ _ _ _ _
   | exact cont_Frames.mono _ _ _ _ _ _ _
   | exact cont_Parse.mono _ _
   | exact waybilllaw5_awake.mono _
   | exact waybillref1_Content.mono _ _ _ _ _ _ _
   | exact waybillref1_Head.mono _ _ _ _ _
   | exact waybillref1_HeadOf.mono _ _
   | exact LeO.none _
   | refine LeO.ite ?_ ?_
   | refine LeO.bind ?_ (fun _ => ?_)
  ·
   intro y0 y1 y2 y3 y4 y5 y6 y7 y8 y9 y10 y11 y12
   unfold waybilllaw5_ContTells.j4
   repeat' first
   | (with_reducible exact ih0 _ _ _ _ _ _ _ _ _ _)
   | (with_reducible exact ih1 _ _ _ _ _ _ _ _ _ _)
   | (with_reducible exact ih2 _ _ _ _ _ _ _ _ _ _ _ _ _ _)
   | (with_reducible exact ih3 _ _ _ _ _ _ _ _ _ _ _ _ _)
   | (with_reducible exact ih4 _ _ _ _ _ _ _ _ _ _ _ _ _)
   | (with_reducible exact ih5 _ _ _ _ _ _ _ _ _ _ _ _ _ _)
   | (with_reducible exact ih6 _ _ _ _ _ _ _ _ _ _ _ _ _ _ _)
   | (with_reducible exact cont_Append.mono _ _ _ _ _)
   | (with_reducible exact cont_Frames.mono _ _ _ _ _ _ _)
   | (with_reducible exact cont_Parse.mono _ _)
   | (with_reducible exact waybilllaw5_awake.mono _)
   | (with_reducible exact waybillref1_Content.mono _ _ _ _ _ _ _)
   | (with_reducible exact waybillref1_Head.mono _ _ _ _ _)
   | (with_reducible exact waybillref1_HeadOf.mono _ _)
   | (with_reducible exact LeO.refl _)
   | (with_reducible exact LeO.none _)
   | (with_reducible refine LeO.ite ?_ ?_)
   | (with_reducible refine LeO.bind ?_ (fun _ => ?_))
   | exact ih0 _ _ _ _ _ _ _ _ _ _
   | exact ih1 _ _ _ _ _ _ _ _ _ _
   | exact ih2 _ _ _ _ _ _ _ _ _ _ _ _ _ _
   | exact ih3 _ _ _ _ _ _ _ _ _ _ _ _ _
   | exact ih4 _ _ _ _ _ _ _ _ _ _ _ _ _
   | exact ih5 _ _ _ _ _ _ _ _ _ _ _ _ _ _
   | exact ih6 _ _ _ _ _ _ _ _ _ _ _ _ _ _ _
   | exact cont_Append.mono _ _ _ _ _
   | exact cont_Frames.mono _ _ _ _ _ _ _
   | exact cont_Parse.mono _ _
   | exact waybilllaw5_awake.mono _
   | exact waybillref1_Content.mono _ _ _ _ _ _ _
   | exact waybillref1_Head.mono _ _ _ _ _
   | exact waybillref1_HeadOf.mono _ _
   | exact LeO.none _
   | refine LeO.ite ?_ ?_
   | refine LeO.bind ?_ (fun _ => ?_)
  ·
   intro y0 y1 y2 y3 y4 y5 y6 y7 y8 y9 y10 y11 y12 y13
   unfold waybilllaw5_ContTells.l1
   repeat' first
   | (with_reducible exact ih0 _ _ _ _ _ _ _ _ _ _)
   | (with_reducible exact ih1 _ _ _ _ _ _ _ _ _ _)
   | (with_reducible exact ih2 _ _ _ _ _ _ _ _ _ _ _ _ _ _)
   | (with_reducible exact ih3 _ _ _ _ _ _ _ _ _ _ _ _ _)
   | (with_reducible exact ih4 _ _ _ _ _ _ _ _ _ _ _ _ _)
   | (with_reducible exact ih5 _ _ _ _ _ _ _ _ _ _ _ _ _ _)
   | (with_reducible exact ih6 _ _ _ _ _ _ _ _ _ _ _ _ _ _ _)
   | (with_reducible exact cont_Append.mono _ _ _ _ _)
   | (with_reducible exact cont_Frames.mono _ _ _ _ _ _ _)
   | (with_reducible exact cont_Parse.mono _ _)
   | (with_reducible exact waybilllaw5_awake.mono _)
   | (with_reducible exact waybillref1_Content.mono _ _ _ _ _ _ _)
   | (with_reducible exact waybillref1_Head.mono _ _ _ _ _)
   | (with_reducible exact waybillref1_HeadOf.mono _ _)
   | (with_reducible exact LeO.refl _)
   | (with_reducible exact LeO.none _)
   | (with_reducible refine LeO.ite ?_ ?_)
   | (with_reducible refine LeO.bind ?_ (fun _ => ?_))
   | exact ih0 _ _ _ _ _ _ _ _ _ _
   | exact ih1 _ _ _ _ _ _ _ _ _ _
   | exact ih2 _ _ _ _ _ _ _ _ _ _ _ _ _ _
   | exact ih3 _ _ _ _ _ _ _ _ _ _ _ _ _
   | exact ih4 _ _ _ _ _ _ _ _ _ _ _ _ _
   | exact ih5 _ _ _ _ _ _ _ _ _ _ _ _ _ _
   | exact ih6 _ _ _ _ _ _ _ _ _ _ _ _ _ _ _
   | exact cont_Append.mono _ _ _ _ _
   | exact cont_Frames.mono _ _ _ _ _ _ _
   | exact cont_Parse.mono _ _
   | exact waybilllaw5_awake.mono _
   | exact waybillref1_Content.mono _ _ _ _ _ _ _
   | exact waybillref1_Head.mono _ _ _ _ _
   | exact waybillref1_HeadOf.mono _ _
   | exact LeO.none _
   | refine LeO.ite ?_ ?_
   | refine LeO.bind ?_ (fun _ => ?_)
  ·
   intro y0 y1 y2 y3 y4 y5 y6 y7 y8 y9 y10 y11 y12 y13 y14
   unfold waybilllaw5_ContTells.j6
   repeat' first
   | (with_reducible exact ih0 _ _ _ _ _ _ _ _ _ _)
   | (with_reducible exact ih1 _ _ _ _ _ _ _ _ _ _)
   | (with_reducible exact ih2 _ _ _ _ _ _ _ _ _ _ _ _ _ _)
   | (with_reducible exact ih3 _ _ _ _ _ _ _ _ _ _ _ _ _)
   | (with_reducible exact ih4 _ _ _ _ _ _ _ _ _ _ _ _ _)
   | (with_reducible exact ih5 _ _ _ _ _ _ _ _ _ _ _ _ _ _)
   | (with_reducible exact ih6 _ _ _ _ _ _ _ _ _ _ _ _ _ _ _)
   | (with_reducible exact cont_Append.mono _ _ _ _ _)
   | (with_reducible exact cont_Frames.mono _ _ _ _ _ _ _)
   | (with_reducible exact cont_Parse.mono _ _)
   | (with_reducible exact waybilllaw5_awake.mono _)
   | (with_reducible exact waybillref1_Content.mono _ _ _ _ _ _ _)
   | (with_reducible exact waybillref1_Head.mono _ _ _ _ _)
   | (with_reducible exact waybillref1_HeadOf.mono _ _)
   | (with_reducible exact LeO.refl _)
   | (with_reducible exact LeO.none _)
   | (with_reducible refine LeO.ite ?_ ?_)
   | (with_reducible refine LeO.bind ?_ (fun _ => ?_))
   | exact ih0 _ _ _ _ _ _ _ _ _ _
   | exact ih1 _ _ _ _ _ _ _ _ _ _
   | exact ih2 _ _ _ _ _ _ _ _ _ _ _ _ _ _
   | exact ih3 _ _ _ _ _ _ _ _ _ _ _ _ _
   | exact ih4 _ _ _ _ _ _ _ _ _ _ _ _ _
   | exact ih5 _ _ _ _ _ _ _ _ _ _ _ _ _ _
   | exact ih6 _ _ _ _ _ _ _ _ _ _ _ _ _ _ _
   | exact cont_Append.mono _ _ _ _ _
   | exact cont_Frames.mono _ _ _ _ _ _ _
   | exact cont_Parse.mono _ _
   | exact waybilllaw5_awake.mono _
   | exact waybillref1_Content.mono _ _ _ _ _ _ _
   | exact waybillref1_Head.mono _ _ _ _ _
   | exact waybillref1_HeadOf.mono _ _
   | exact LeO.none _
   | refine LeO.ite ?_ ?_
   | refine LeO.bind ?_ (fun _ => ?_)
theorem waybilllaw5_ContTells.mono : ∀ a0 a1 a2 a3 a4 a5 a6 a7 a8 k, LeO (waybilllaw5_ContTells.f k a0 a1 a2 a3 a4 a5 a6 a7 a8) (waybilllaw5_ContTells.f (k + 1) a0 a1 a2 a3 a4 a5 a6 a7 a8) := by
 intro a0 a1 a2 a3 a4 a5 a6 a7 a8 k
 obtain ⟨ih0, ih1, ih2, ih3, ih4, ih5, ih6⟩ := waybilllaw5_ContTells.mono_l k
 unfold waybilllaw5_ContTells.f
 repeat' first
   | (with_reducible exact ih0 _ _ _ _ _ _ _ _ _ _)
   | (with_reducible exact ih1 _ _ _ _ _ _ _ _ _ _)
   | (with_reducible exact ih2 _ _ _ _ _ _ _ _ _ _ _ _ _ _)
   | (with_reducible exact ih3 _ _ _ _ _ _ _ _ _ _ _ _ _)
   | (with_reducible exact ih4 _ _ _ _ _ _ _ _ _ _ _ _ _)
   | (with_reducible exact ih5 _ _ _ _ _ _ _ _ _ _ _ _ _ _)
   | (with_reducible exact ih6 _ _ _ _ _ _ _ _ _ _ _ _ _ _ _)
   | (with_reducible exact cont_Append.mono _ _ _ _ _)
   | (with_reducible exact cont_Frames.mono _ _ _ _ _ _ _)
   | (with_reducible exact cont_Parse.mono _ _)
   | (with_reducible exact waybilllaw5_awake.mono _)
   | (with_reducible exact waybillref1_Content.mono _ _ _ _ _ _ _)
   | (with_reducible exact waybillref1_Head.mono _ _ _ _ _)
   | (with_reducible exact waybillref1_HeadOf.mono _ _)
   | (with_reducible exact LeO.refl _)
   | (with_reducible exact LeO.none _)
   | (with_reducible refine LeO.ite ?_ ?_)
   | (with_reducible refine LeO.bind ?_ (fun _ => ?_))
   | exact ih0 _ _ _ _ _ _ _ _ _ _
   | exact ih1 _ _ _ _ _ _ _ _ _ _
   | exact ih2 _ _ _ _ _ _ _ _ _ _ _ _ _ _
   | exact ih3 _ _ _ _ _ _ _ _ _ _ _ _ _
   | exact ih4 _ _ _ _ _ _ _ _ _ _ _ _ _
   | exact ih5 _ _ _ _ _ _ _ _ _ _ _ _ _ _
   | exact ih6 _ _ _ _ _ _ _ _ _ _ _ _ _ _ _
   | exact cont_Append.mono _ _ _ _ _
   | exact cont_Frames.mono _ _ _ _ _ _ _
   | exact cont_Parse.mono _ _
   | exact waybilllaw5_awake.mono _
   | exact waybillref1_Content.mono _ _ _ _ _ _ _
   | exact waybillref1_Head.mono _ _ _ _ _
   | exact waybillref1_HeadOf.mono _ _
   | exact LeO.none _
   | refine LeO.ite ?_ ?_
   | refine LeO.bind ?_ (fun _ => ?_)
end Go.Proofs.Ytpjkaodbcclecaa.PB
