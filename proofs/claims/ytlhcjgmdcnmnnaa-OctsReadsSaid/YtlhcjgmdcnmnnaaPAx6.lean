/- What functions of the given program come to, and that they do: written out of the translation by a program of this session; Lean checks it. -/
import Derived.Test.YtlhcjgmdcnmnnaaPAx0
import Derived.Test.YtlhcjgmdcnmnnaaPAx1
import Derived.Test.YtlhcjgmdcnmnnaaPAx2
import Derived.Test.YtlhcjgmdcnmnnaaPAx3
import Derived.Test.YtlhcjgmdcnmnnaaPAx5
namespace Go.Proofs.Ytlhcjgmdcnmnnaa.PA
open Go.RowKit Go.Proofs.YtlhcjgmdcnmnnaaW.PrintWords Go.Proofs.YtlhcjgmdcnmnnaaW.PrintLast Go.Proofs.YtlhcjgmdcnmnnaaW.PrintMore
attribute [local go_sem] max2_int min2_int max_two min_two max_three min_three max_four min_four   -- for this text's walks alone
set_option linter.unusedVariables false
set_option linter.unusedSimpArgs false

/-! ### waybilllaw1_OctsReads: function 7 -/
mutual
def waybilllaw1_OctsReads.l0 : Nat → List Int → List Int → Int → Bool → Int → List Int → Bool → Option (Bool)
  | 0, _, _, _, _, _, _, _ => none
  | k + 1, x0, x1, x6, x7, x8, x203000, x203001 => if x8 < (x1.length : Int) then (waybilllaw1_OctsReads.j1 k x0 x1 x6 x7 x8 (decide (x8 < 60)) x203000 x203001) else (waybilllaw1_OctsReads.j1 k x0 x1 x6 x7 x8 false x203000 x203001)
def waybilllaw1_OctsReads.j1 : Nat → List Int → List Int → Int → Bool → Int → Bool → List Int → Bool → Option (Bool)
  | 0, _, _, _, _, _, _, _, _ => none
  | k + 1, x0, x1, x6, x7, x8, x38, x203000, x203001 => if x38 = true then (if 0 ≤ x8 then (if x8 < (x1.length : Int) then (if (Go.bits .and .i64 (rd x1 x8) 3) = 0 then ((waybillref1_Num.f k x0 x6 (mn (mx ((rd x1 x8) / 4) 1) 8)).bind fun bt206 => (if x7 = true then (waybilllaw1_OctsReads.j2 k x0 x1 x6 true x8 ((rd x1 x8) / 4) (mn (mx ((rd x1 x8) / 4) 1) 8) bt206.1 x203000 x203001) else (waybilllaw1_OctsReads.j2 k x0 x1 x6 (!bt206.2) x8 ((rd x1 x8) / 4) (mn (mx ((rd x1 x8) / 4) 1) 8) bt206.1 x203000 x203001))) else (if (Go.bits .and .i64 (rd x1 x8) 3) = 1 then (waybilllaw1_OctsReads.j3 k x0 x1 x6 x7 x8 ((Go.bits .and .i64 (rd x1 x8) 3) == 1) x203000 x203001) else (waybilllaw1_OctsReads.j3 k x0 x1 x6 x7 x8 ((Go.bits .and .i64 (rd x1 x8) 3) == 2) x203000 x203001))) else (none)) else (none)) else (some true)
def waybilllaw1_OctsReads.j8 : Nat → List Int → List Int → Int → Bool → Int → List Int → Bool → Option (Bool)
  | 0, _, _, _, _, _, _, _ => none
  | k + 1, x0, x1, x6, x7, x8, x203000, x203001 => if x7 = true then (waybilllaw1_OctsReads.j9 k x0 x1 x6 x7 x8 0 x203000 x203001) else (waybilllaw1_OctsReads.j9 k x0 x1 x6 x7 x8 (wrap64 ((x0.length : Int) - x6)) x203000 x203001)
def waybilllaw1_OctsReads.j9 : Nat → List Int → List Int → Int → Bool → Int → Int → List Int → Bool → Option (Bool)
  | 0, _, _, _, _, _, _, _, _ => none
  | k + 1, x0, x1, x6, x7, x8, x18, x203000, x203001 => (octs_In_Ok.f x203000 x203001).bind fun bt247 => (if (bt247.1 == x7) = true then (none) else ((octs_In_Left.f bt247.2.1 bt247.2.2).bind fun bt250 => (if bt250.1 = x18 then (waybilllaw1_OctsReads.l0 k x0 x1 x6 x7 (wrap64 (x8 + 1)) bt250.2.1 bt250.2.2) else (none))))
def waybilllaw1_OctsReads.j2 : Nat → List Int → List Int → Int → Bool → Int → Int → Int → Int → List Int → Bool → Option (Bool)
  | 0, _, _, _, _, _, _, _, _, _, _ => none
  | k + 1, x0, x1, x6, x7, x8, x9, x10, x11, x203000, x203001 => if x7 = true then ((octs_In_Int.f k x203000 x203001 x9).bind fun bt208 => (if bt208.1 = 0 then (waybilllaw1_OctsReads.j8 k x0 x1 x6 x7 x8 bt208.2.1 bt208.2.2) else (none))) else ((octs_In_Int.f k x203000 x203001 x9).bind fun bt211 => (if bt211.1 = x11 then (waybilllaw1_OctsReads.j8 k x0 x1 (wrap64 (x6 + x10)) x7 x8 bt211.2.1 bt211.2.2) else (none)))
def waybilllaw1_OctsReads.j3 : Nat → List Int → List Int → Int → Bool → Int → Bool → List Int → Bool → Option (Bool)
  | 0, _, _, _, _, _, _, _, _ => none
  | k + 1, x0, x1, x6, x7, x8, x95, x203000, x203001 => if x95 = true then (if 0 ≤ x8 then (if x8 < (x1.length : Int) then (if (Go.bits .and .i64 (rd x1 x8) 3) = 2 then (waybilllaw1_OctsReads.j4 k x0 x1 x6 x7 x8 4 x203000 x203001) else (waybilllaw1_OctsReads.j4 k x0 x1 x6 x7 x8 1 x203000 x203001)) else (none)) else (none)) else (if 0 ≤ x8 then (if x8 < (x1.length : Int) then (if (Go.bits .and .i64 ((rd x1 x8) / 4) 7) = 0 then (if 0 ≤ x6 then (if x6 ≤ (x0.length : Int) then (if x7 = true then (waybilllaw1_OctsReads.j7 k x0 x1 x6 x7 x8 ([] : List Int) x203000 x203001) else (waybilllaw1_OctsReads.j7 k x0 x1 (x0.length : Int) x7 x8 (x0.drop (x6 : Int).toNat) x203000 x203001)) else (none)) else (none)) else (waybilllaw1_OctsReads.l0 k x0 x1 x6 x7 (wrap64 (x8 + 1)) x203000 x203001)) else (none)) else (none))
def waybilllaw1_OctsReads.j4 : Nat → List Int → List Int → Int → Bool → Int → Int → List Int → Bool → Option (Bool)
  | 0, _, _, _, _, _, _, _, _ => none
  | k + 1, x0, x1, x6, x7, x8, x13, x203000, x203001 => (waybillref1_Text.f k x0 x6 x13).bind fun bt215 => (if x7 = true then (waybilllaw1_OctsReads.j5 k x0 x1 x6 true x8 x13 bt215.1 bt215.2.1 x203000 x203001) else (waybilllaw1_OctsReads.j5 k x0 x1 x6 (!bt215.2.2) x8 x13 bt215.1 bt215.2.1 x203000 x203001))
def waybilllaw1_OctsReads.j5 : Nat → List Int → List Int → Int → Bool → Int → Int → List Int → Int → List Int → Bool → Option (Bool)
  | 0, _, _, _, _, _, _, _, _, _, _ => none
  | k + 1, x0, x1, x6, x7, x8, x13, x14, x15, x203000, x203001 => if x7 = true then (waybilllaw1_OctsReads.j6 k x0 x1 x6 x7 x8 x13 ([] : List Int) x203000 x203001) else (waybilllaw1_OctsReads.j6 k x0 x1 x15 x7 x8 x13 x14 x203000 x203001)
def waybilllaw1_OctsReads.j6 : Nat → List Int → List Int → Int → Bool → Int → Int → List Int → List Int → Bool → Option (Bool)
  | 0, _, _, _, _, _, _, _, _, _ => none
  | k + 1, x0, x1, x6, x7, x8, x13, x14, x203000, x203001 => if x13 = 1 then ((octs_In_Short.f k x203000 x203001).bind fun bt220 => (if bt220.1.toList = (strOfNums x14).toList then (if x13 = 4 then ((octs_In_Long.f k bt220.2.1 bt220.2.2).bind fun bt223 => ((waybilllaw1_SameBytes.f bt223.1 x14).bind fun t228 => (if t228 = true then (waybilllaw1_OctsReads.j8 k x0 x1 x6 x7 x8 bt223.2.1 bt223.2.2) else (none)))) else (waybilllaw1_OctsReads.j8 k x0 x1 x6 x7 x8 bt220.2.1 bt220.2.2)) else (none))) else (if x13 = 4 then ((octs_In_Long.f k x203000 x203001).bind fun bt229 => ((waybilllaw1_SameBytes.f bt229.1 x14).bind fun t234 => (if t234 = true then (waybilllaw1_OctsReads.j8 k x0 x1 x6 x7 x8 bt229.2.1 bt229.2.2) else (none)))) else (waybilllaw1_OctsReads.j8 k x0 x1 x6 x7 x8 x203000 x203001))
def waybilllaw1_OctsReads.j7 : Nat → List Int → List Int → Int → Bool → Int → List Int → List Int → Bool → Option (Bool)
  | 0, _, _, _, _, _, _, _, _ => none
  | k + 1, x0, x1, x6, x7, x8, x17, x203000, x203001 => (octs_In_Rest.f x203000 x203001).bind fun bt241 => ((waybilllaw1_SameBytes.f bt241.1 x17).bind fun t246 => (if t246 = true then (waybilllaw1_OctsReads.j8 k x0 x1 x6 x7 x8 bt241.2.1 bt241.2.2) else (none)))
end
def waybilllaw1_OctsReads.f (k : Nat) (l0 : List Int) (l1 : List Int) : Option (Bool) := if (l0.length : Int) > 600 then ((waybilllaw1_awake.f k).bind fun t199 => (some t199)) else ((octs_From.f l0).bind fun bt200 => ((waybilllaw1_awake.f k).bind fun t203 => (if t203 = true then (waybilllaw1_OctsReads.l0 k l0 l1 0 false 0 bt200.1 bt200.2) else (none))))
theorem waybilllaw1_OctsReads.mono_l : ∀ k, (∀ y0 y1 y2 y3 y4 y5 y6, LeO (waybilllaw1_OctsReads.l0 k y0 y1 y2 y3 y4 y5 y6) (waybilllaw1_OctsReads.l0 (k + 1) y0 y1 y2 y3 y4 y5 y6)) ∧ (∀ y0 y1 y2 y3 y4 y5 y6 y7, LeO (waybilllaw1_OctsReads.j1 k y0 y1 y2 y3 y4 y5 y6 y7) (waybilllaw1_OctsReads.j1 (k + 1) y0 y1 y2 y3 y4 y5 y6 y7)) ∧ (∀ y0 y1 y2 y3 y4 y5 y6, LeO (waybilllaw1_OctsReads.j8 k y0 y1 y2 y3 y4 y5 y6) (waybilllaw1_OctsReads.j8 (k + 1) y0 y1 y2 y3 y4 y5 y6)) ∧ (∀ y0 y1 y2 y3 y4 y5 y6 y7, LeO (waybilllaw1_OctsReads.j9 k y0 y1 y2 y3 y4 y5 y6 y7) (waybilllaw1_OctsReads.j9 (k + 1) y0 y1 y2 y3 y4 y5 y6 y7)) ∧ (∀ y0 y1 y2 y3 y4 y5 y6 y7 y8 y9, LeO (waybilllaw1_OctsReads.j2 k y0 y1 y2 y3 y4 y5 y6 y7 y8 y9) (waybilllaw1_OctsReads.j2 (k + 1) y0 y1 y2 y3 y4 y5 y6 y7 y8 y9)) ∧ (∀ y0 y1 y2 y3 y4 y5 y6 y7, LeO (waybilllaw1_OctsReads.j3 k y0 y1 y2 y3 y4 y5 y6 y7) (waybilllaw1_OctsReads.j3 (k + 1) y0 y1 y2 y3 y4 y5 y6 y7)) ∧ (∀ y0 y1 y2 y3 y4 y5 y6 y7, LeO (waybilllaw1_OctsReads.j4 k y0 y1 y2 y3 y4 y5 y6 y7) (waybilllaw1_OctsReads.j4 (k + 1) y0 y1 y2 y3 y4 y5 y6 y7)) ∧ (∀ y0 y1 y2 y3 y4 y5 y6 y7 y8 y9, LeO (waybilllaw1_OctsReads.j5 k y0 y1 y2 y3 y4 y5 y6 y7 y8 y9) (waybilllaw1_OctsReads.j5 (k + 1) y0 y1 y2 y3 y4 y5 y6 y7 y8 y9)) ∧ (∀ y0 y1 y2 y3 y4 y5 y6 y7 y8, LeO (waybilllaw1_OctsReads.j6 k y0 y1 y2 y3 y4 y5 y6 y7 y8) (waybilllaw1_OctsReads.j6 (k + 1) y0 y1 y2 y3 y4 y5 y6 y7 y8)) ∧ (∀ y0 y1 y2 y3 y4 y5 y6 y7, LeO (waybilllaw1_OctsReads.j7 k y0 y1 y2 y3 y4 y5 y6 y7) (waybilllaw1_OctsReads.j7 (k + 1) y0 y1 y2 y3 y4 y5 y6 y7))
  | 0 => ⟨fun _ _ _ _ _ _ _ r h => by simp [waybilllaw1_OctsReads.l0] at h, fun _ _ _ _ _ _ _ _ r h => by simp [waybilllaw1_OctsReads.j1] at h, fun _ _ _ _ _ _ _ r h => by simp [waybilllaw1_OctsReads.j8] at h, fun _ _ _ _ _ _ _ _ r h => by simp [waybilllaw1_OctsReads.j9] at h, fun _ _ _ _ _ _ _ _ _ _ r h => by simp [waybilllaw1_OctsReads.j2] at h, fun _ _ _ _ _ _ _ _ r h => by simp [waybilllaw1_OctsReads.j3] at h, fun _ _ _ _ _ _ _ _ r h => by simp [waybilllaw1_OctsReads.j4] at h, fun _ _ _ _ _ _ _ _ _ _ r h => by simp [waybilllaw1_OctsReads.j5] at h, fun _ _ _ _ _ _ _ _ _ r h => by simp [waybilllaw1_OctsReads.j6] at h, fun _ _ _ _ _ _ _ _ r h => by simp [waybilllaw1_OctsReads.j7] at h⟩
  | k + 1 => by
    obtain ⟨ih0, ih1, ih2, ih3, ih4, ih5, ih6, ih7, ih8, ih9⟩ := waybilllaw1_OctsReads.mono_l k
    refine ⟨?_, ?_, ?_, ?_, ?_, ?_, ?_, ?_, ?_, ?_⟩
    · intro y0 y1 y2 y3 y4 y5 y6
      unfold waybilllaw1_OctsReads.l0
      repeat' first
      | (with_reducible exact ih0 _ _ _ _ _ _ _)
      | (with_reducible exact ih1 _ _ _ _ _ _ _ _)
      | (with_reducible exact ih2 _ _ _ _ _ _ _)
      | (with_reducible exact ih3 _ _ _ _ _ _ _ _)
      | (with_reducible exact ih4 _ _ _ _ _ _ _ _ _ _)
      | (with_reducible exact ih5 _ _ _ _ _ _ _ _)
      | (with_reducible exact ih6 _ _ _ _ _ _ _ _)
      | (with_reducible exact ih7 _ _ _ _ _ _ _ _ _ _)
      | (with_reducible exact ih8 _ _ _ _ _ _ _ _ _)
      | (with_reducible exact ih9 _ _ _ _ _ _ _ _)
      | (with_reducible exact octs_In_Int.mono _ _ _ _)
      | (with_reducible exact octs_In_Long.mono _ _ _)
      | (with_reducible exact octs_In_Short.mono _ _ _)
      | (with_reducible exact waybilllaw1_awake.mono _)
      | (with_reducible exact waybillref1_Num.mono _ _ _ _)
      | (with_reducible exact waybillref1_Text.mono _ _ _ _)
      | (with_reducible exact LeO.refl _)
      | (with_reducible exact LeO.none _)
      | (with_reducible refine LeO.ite ?_ ?_)
      | (with_reducible refine LeO.bind ?_ (fun _ => ?_))
      | exact ih0 _ _ _ _ _ _ _
      | exact ih1 _ _ _ _ _ _ _ _
      | exact ih2 _ _ _ _ _ _ _
      | exact ih3 _ _ _ _ _ _ _ _
      | exact ih4 _ _ _ _ _ _ _ _ _ _
      | exact ih5 _ _ _ _ _ _ _ _
      | exact ih6 _ _ _ _ _ _ _ _
      | exact ih7 _ _ _ _ _ _ _ _ _ _
      | exact ih8 _ _ _ _ _ _ _ _ _
      | exact ih9 _ _ _ _ _ _ _ _
      | exact octs_In_Int.mono _ _ _ _
      | exact octs_In_Long.mono _ _ _
      | exact octs_In_Short.mono _ _ _
      | exact waybilllaw1_awake.mono _
      | exact waybillref1_Num.mono _ _ _ _
      | exact waybillref1_Text.mono _ _ _ _
      | exact LeO.none _
      | refine LeO.ite ?_ ?_
      | refine LeO.bind ?_ (fun _ => ?_)
    · intro y0 y1 y2 y3 y4 y5 y6 y7
      unfold waybilllaw1_OctsReads.j1
      repeat' first
      | (with_reducible exact ih0 _ _ _ _ _ _ _)
      | (with_reducible exact ih1 _ _ _ _ _ _ _ _)
      | (with_reducible exact ih2 _ _ _ _ _ _ _)
      | (with_reducible exact ih3 _ _ _ _ _ _ _ _)
      | (with_reducible exact ih4 _ _ _ _ _ _ _ _ _ _)
      | (with_reducible exact ih5 _ _ _ _ _ _ _ _)
      | (with_reducible exact ih6 _ _ _ _ _ _ _ _)
      | (with_reducible exact ih7 _ _ _ _ _ _ _ _ _ _)
      | (with_reducible exact ih8 _ _ _ _ _ _ _ _ _)
      | (with_reducible exact ih9 _ _ _ _ _ _ _ _)
      | (with_reducible exact octs_In_Int.mono _ _ _ _)
      | (with_reducible exact octs_In_Long.mono _ _ _)
      | (with_reducible exact octs_In_Short.mono _ _ _)
      | (with_reducible exact waybilllaw1_awake.mono _)
      | (with_reducible exact waybillref1_Num.mono _ _ _ _)
      | (with_reducible exact waybillref1_Text.mono _ _ _ _)
      | (with_reducible exact LeO.refl _)
      | (with_reducible exact LeO.none _)
      | (with_reducible refine LeO.ite ?_ ?_)
      | (with_reducible refine LeO.bind ?_ (fun _ => ?_))
      | exact ih0 _ _ _ _ _ _ _
      | exact ih1 _ _ _ _ _ _ _ _
      | exact ih2 _ _ _ _ _ _ _
      | exact ih3 _ _ _ _ _ _ _ _
      | exact ih4 _ _ _ _ _ _ _ _ _ _
      | exact ih5 _ _ _ _ _ _ _ _
      | exact ih6 _ _ _ _ _ _ _ _
      | exact ih7 _ _ _ _ _ _ _ _ _ _
      | exact ih8 _ _ _ _ _ _ _ _ _
      | exact ih9 _ _ _ _ _ _ _ _
      | exact octs_In_Int.mono _ _ _ _
      | exact octs_In_Long.mono _ _ _
      | exact octs_In_Short.mono _ _ _
      | exact waybilllaw1_awake.mono _
      | exact waybillref1_Num.mono _ _ _ _
      | exact waybillref1_Text.mono _ _ _ _
      | exact LeO.none _
      | refine LeO.ite ?_ ?_
      | refine LeO.bind ?_ (fun _ => ?_)
    · intro y0 y1 y2 y3 y4 y5 y6
      unfold waybilllaw1_OctsReads.j8
      repeat' first
      | (with_reducible exact ih0 _ _ _ _ _ _ _)
      | (with_reducible exact ih1 _ _ _ _ _ _ _ _)
      | (with_reducible exact ih2 _ _ _ _ _ _ _)
      | (with_reducible exact ih3 _ _ _ _ _ _ _ _)
      | (with_reducible exact ih4 _ _ _ _ _ _ _ _ _ _)
      | (with_reducible exact ih5 _ _ _ _ _ _ _ _)
      | (with_reducible exact ih6 _ _ _ _ _ _ _ _)
      | (with_reducible exact ih7 _ _ _ _ _ _ _ _ _ _)
      | (with_reducible exact ih8 _ _ _ _ _ _ _ _ _)
      | (with_reducible exact ih9 _ _ _ _ _ _ _ _)
      | (with_reducible exact octs_In_Int.mono _ _ _ _)
      | (with_reducible exact octs_In_Long.mono _ _ _)
      | (with_reducible exact octs_In_Short.mono _ _ _)
      | (with_reducible exact waybilllaw1_awake.mono _)
      | (with_reducible exact waybillref1_Num.mono _ _ _ _)
      | (with_reducible exact waybillref1_Text.mono _ _ _ _)
      | (with_reducible exact LeO.refl _)
      | (with_reducible exact LeO.none _)
      | (with_reducible refine LeO.ite ?_ ?_)
      | (with_reducible refine LeO.bind ?_ (fun _ => ?_))
      | exact ih0 _ _ _ _ _ _ _
      | exact ih1 _ _ _ _ _ _ _ _
      | exact ih2 _ _ _ _ _ _ _
      | exact ih3 _ _ _ _ _ _ _ _
      | exact ih4 _ _ _ _ _ _ _ _ _ _
      | exact ih5 _ _ _ _ _ _ _ _
      | exact ih6 _ _ _ _ _ _ _ _
      | exact ih7 _ _ _ _ _ _ _ _ _ _
      | exact ih8 _ _ _ _ _ _ _ _ _
      | exact ih9 _ _ _ _ _ _ _ _
      | exact octs_In_Int.mono _ _ _ _
      | exact octs_In_Long.mono _ _ _
      | exact octs_In_Short.mono _ _ _
      | exact waybilllaw1_awake.mono _
      | exact waybillref1_Num.mono _ _ _ _
      | exact waybillref1_Text.mono _ _ _ _
      | exact LeO.none _
      | refine LeO.ite ?_ ?_
      | refine LeO.bind ?_ (fun _ => ?_)
    · intro y0 y1 y2 y3 y4 y5 y6 y7
      unfold waybilllaw1_OctsReads.j9
      repeat' first
      | (with_reducible exact ih0 _ _ _ _ _ _ _)
      | (with_reducible exact ih1 _ _ _ _ _ _ _ _)
      | (with_reducible exact ih2 _ _ _ _ _ _ _)
      | (with_reducible exact ih3 _ _ _ _ _ _ _ _)
      | (with_reducible exact ih4 _ _ _ _ _ _ _ _ _ _)
      | (with_reducible exact ih5 _ _ _ _ _ _ _ _)
      | (with_reducible exact ih6 _ _ _ _ _ _ _ _)
      | (with_reducible exact ih7 _ _ _ _ _ _ _ _ _ _)
      | (with_reducible exact ih8 _ _ _ _ _ _ _ _ _)
      | (with_reducible exact ih9 _ _ _ _ _ _ _ _)
      | (with_reducible exact octs_In_Int.mono _ _ _ _)
      | (with_reducible exact octs_In_Long.mono _ _ _)
      | (with_reducible exact octs_In_Short.mono _ _ _)
      | (with_reducible exact waybilllaw1_awake.mono _)
      | (with_reducible exact waybillref1_Num.mono _ _ _ _)
      | (with_reducible exact waybillref1_Text.mono _ _ _ _)
      | (with_reducible exact LeO.refl _)
      | (with_reducible exact LeO.none _)
      | (with_reducible refine LeO.ite ?_ ?_)
      | (with_reducible refine LeO.bind ?_ (fun _ => ?_))
      | exact ih0 _ _ _ _ _ _ _
      | exact ih1 _ _ _ _ _ _ _ _
      | exact ih2 _ _ _ _ _ _ _
      | exact ih3 _ _ _ _ _ _ _ _
      | exact ih4 _ _ _ _ _ _ _ _ _ _
      | exact ih5 _ _ _ _ _ _ _ _
      | exact ih6 _ _ _ _ _ _ _ _
      | exact ih7 _ _ _ _ _ _ _ _ _ _
      | exact ih8 _ _ _ _ _ _ _ _ _
      | exact ih9 _ _ _ _ _ _ _ _
      | exact octs_In_Int.mono _ _ _ _
      | exact octs_In_Long.mono _ _ _
      | exact octs_In_Short.mono _ _ _
      | exact waybilllaw1_awake.mono _
      | exact waybillref1_Num.mono _ _ _ _
      | exact waybillref1_Text.mono _ _ _ _
      | exact LeO.none _
      | refine LeO.ite ?_ ?_
      | refine LeO.bind ?_ (fun _ => ?_)
    · intro y0 y1 y2 y3 y4 y5 y6 y7 y8 y9
      unfold waybilllaw1_OctsReads.j2
      repeat' first
      | (with_reducible exact ih0 _ _ _ _ _ _ _)
      | (with_reducible exact ih1 _ _ _ _ _ _ _ _)
      | (with_reducible exact ih2 _ _ _ _ _ _ _)
      | (with_reducible exact ih3 _ _ _ _ _ _ _ _)
      | (with_reducible exact ih4 _ _ _ _ _ _ _ _ _ _)
      | (with_reducible exact ih5 _ _ _ _ _ _ _ _)
      | (with_reducible exact ih6 _ _ _ _ _ _ _ _)
      | (with_reducible exact ih7 _ _ _ _ _ _ _ _ _ _)
      | (with_reducible exact ih8 _ _ _ _ _ _ _ _ _)
      | (with_reducible exact ih9 _ _ _ _ _ _ _ _)
      | (with_reducible exact octs_In_Int.mono _ _ _ _)
      | (with_reducible exact octs_In_Long.mono _ _ _)
      | (with_reducible exact octs_In_Short.mono _ _ _)
      | (with_reducible exact waybilllaw1_awake.mono _)
      | (with_reducible exact waybillref1_Num.mono _ _ _ _)
      | (with_reducible exact waybillref1_Text.mono _ _ _ _)
      | (with_reducible exact LeO.refl _)
      | (with_reducible exact LeO.none _)
      | (with_reducible refine LeO.ite ?_ ?_)
      | (with_reducible refine LeO.bind ?_ (fun _ => ?_))
      | exact ih0 _ _ _ _ _ _ _
      | exact ih1 _ _ _ _ _ _ _ _
      | exact ih2 _ _ _ _ _ _ _
      | exact ih3 _ _ _ _ _ _ _ _
      | exact ih4 _ _ _ _ _ _ _ _ _ _
      | exact ih5 _ _ _ _ _ _ _ _
      | exact ih6 _ _ _ _ _ _ _ _
      | exact ih7 _ _ _ _ _ _ _ _ _ _
      | exact ih8 _ _ _ _ _ _ _ _ _
      | exact ih9 _ _ _ _ _ _ _ _
      | exact octs_In_Int.mono _ _ _ _
      | exact octs_In_Long.mono _ _ _
      | exact octs_In_Short.mono _ _ _
      | exact waybilllaw1_awake.mono _
      | exact waybillref1_Num.mono _ _ _ _
      | exact waybillref1_Text.mono _ _ _ _
      | exact LeO.none _
      | refine LeO.ite ?_ ?_
      | refine LeO.bind ?_ (fun _ => ?_)
    · intro y0 y1 y2 y3 y4 y5 y6 y7
      unfold waybilllaw1_OctsReads.j3
      repeat' first
      | (with_reducible exact ih0 _ _ _ _ _ _ _)
      | (with_reducible exact ih1 _ _ _ _ _ _ _ _)
      | (with_reducible exact ih2 _ _ _ _ _ _ _)
      | (with_reducible exact ih3 _ _ _ _ _ _ _ _)
      | (with_reducible exact ih4 _ _ _ _ _ _ _ _ _ _)
      | (with_reducible exact ih5 _ _ _ _ _ _ _ _)
      | (with_reducible exact ih6 _ _ _ _ _ _ _ _)
      | (with_reducible exact ih7 _ _ _ _ _ _ _ _ _ _)
      | (with_reducible exact ih8 _ _ _ _ _ _ _ _ _)
      | (with_reducible exact ih9 _ _ _ _ _ _ _ _)
      | (with_reducible exact octs_In_Int.mono _ _ _ _)
      | (with_reducible exact octs_In_Long.mono _ _ _)
      | (with_reducible exact octs_In_Short.mono _ _ _)
      | (with_reducible exact waybilllaw1_awake.mono _)
      | (with_reducible exact waybillref1_Num.mono _ _ _ _)
      | (with_reducible exact waybillref1_Text.mono _ _ _ _)
      | (with_reducible exact LeO.refl _)
      | (with_reducible exact LeO.none _)
      | (with_reducible refine LeO.ite ?_ ?_)
      | (with_reducible refine LeO.bind ?_ (fun _ => ?_))
      | exact ih0 _ _ _ _ _ _ _
      | exact ih1 _ _ _ _ _ _ _ _
      | exact ih2 _ _ _ _ _ _ _
      | exact ih3 _ _ _ _ _ _ _ _
      | exact ih4 _ _ _ _ _ _ _ _ _ _
      | exact ih5 _ _ _ _ _ _ _ _
      | exact ih6 _ _ _ _ _ _ _ _
      | exact ih7 _ _ _ _ _ _ _ _ _ _
      | exact ih8 _ _ _ _ _ _ _ _ _
      | exact ih9 _ _ _ _ _ _ _ _
      | exact octs_In_Int.mono _ _ _ _
      | exact octs_In_Long.mono _ _ _
      | exact octs_In_Short.mono _ _ _
      | exact waybilllaw1_awake.mono _
      | exact waybillref1_Num.mono _ _ _ _
      | exact waybillref1_Text.mono _ _ _ _
      | exact LeO.none _
      | refine LeO.ite ?_ ?_
      | refine LeO.bind ?_ (fun _ => ?_)
    · intro y0 y1 y2 y3 y4 y5 y6 y7
      unfold waybilllaw1_OctsReads.j4
      repeat' first
      | (with_reducible exact ih0 _ _ _ _ _ _ _)
      | (with_reducible exact ih1 _ _ _ _ _ _ _ _)
      | (with_reducible exact ih2 _ _ _ _ _ _ _)
      | (with_reducible exact ih3 _ _ _ _ _ _ _ _)
      | (with_reducible exact ih4 _ _ _ _ _ _ _ _ _ _)
      | (with_reducible exact ih5 _ _ _ _ _ _ _ _)
      | (with_reducible exact ih6 _ _ _ _ _ _ _ _)
      | (with_reducible exact ih7 _ _ _ _ _ _ _ _ _ _)
      | (with_reducible exact ih8 _ _ _ _ _ _ _ _ _)
      | (with_reducible exact ih9 _ _ _ _ _ _ _ _)
      | (with_reducible exact octs_In_Int.mono _ _ _ _)
      | (with_reducible exact octs_In_Long.mono _ _ _)
      | (with_reducible exact octs_In_Short.mono _ _ _)
      | (with_reducible exact waybilllaw1_awake.mono _)
      | (with_reducible exact waybillref1_Num.mono _ _ _ _)
      | (with_reducible exact waybillref1_Text.mono _ _ _ _)
      | (with_reducible exact LeO.refl _)
      | (with_reducible exact LeO.none _)
      | (with_reducible refine LeO.ite ?_ ?_)
      | (with_reducible refine LeO.bind ?_ (fun _ => ?_))
      | exact ih0 _ _ _ _ _ _ _
      | exact ih1 _ _ _ _ _ _ _ _
      | exact ih2 _ _ _ _ _ _ _
      | exact ih3 _ _ _ _ _ _ _ _
      | exact ih4 _ _ _ _ _ _ _ _ _ _
      | exact ih5 _ _ _ _ _ _ _ _
      | exact ih6 _ _ _ _ _ _ _ _
      | exact ih7 _ _ _ _ _ _ _ _ _ _
      | exact ih8 _ _ _ _ _ _ _ _ _
      | exact ih9 _ _ _ _ _ _ _ _
      | exact octs_In_Int.mono _ _ _ _
      | exact octs_In_Long.mono _ _ _
      | exact octs_In_Short.mono _ _ _
      | exact waybilllaw1_awake.mono _
      | exact waybillref1_Num.mono _ _ _ _
      | exact waybillref1_Text.mono _ _ _ _
      | exact LeO.none _
      | refine LeO.ite ?_ ?_
      | refine LeO.bind ?_ (fun _ => ?_)
    · intro y0 y1 y2 y3 y4 y5 y6 y7 y8 y9
      unfold waybilllaw1_OctsReads.j5
      repeat' first
      | (with_reducible exact ih0 _ _ _ _ _ _ _)
      | (with_reducible exact ih1 _ _ _ _ _ _ _ _)
      | (with_reducible exact ih2 _ _ _ _ _ _ _)
      | (with_reducible exact ih3 _ _ _ _ _ _ _ _)
      | (with_reducible exact ih4 _ _ _ _ _ _ _ _ _ _)
      | (with_reducible exact ih5 _ _ _ _ _ _ _ _)
      | (with_reducible exact ih6 _ _ _ _ _ _ _ _)
      | (with_reducible exact ih7 _ _ _ _ _ _ _ _ _ _)
      | (with_reducible exact ih8 _ _ _ _ _ _ _ _ _)
      | (with_reducible exact ih9 _ _ _ _ _ _ _ _)
      | (with_reducible exact octs_In_Int.mono _ _ _ _)
      | (with_reducible exact octs_In_Long.mono _ _ _)
      | (with_reducible exact octs_In_Short.mono _ _ _)
      | (with_reducible exact waybilllaw1_awake.mono _)
      | (with_reducible exact waybillref1_Num.mono _ _ _ _)
      | (with_reducible exact waybillref1_Text.mono _ _ _ _)
      | (with_reducible exact LeO.refl _)
      | (with_reducible exact LeO.none _)
      | (with_reducible refine LeO.ite ?_ ?_)
      | (with_reducible refine LeO.bind ?_ (fun _ => ?_))
      | exact ih0 _ _ _ _ _ _ _
      | exact ih1 _ _ _ _ _ _ _ _
      | exact ih2 _ _ _ _ _ _ _
      | exact ih3 _ _ _ _ _ _ _ _
      | exact ih4 _ _ _ _ _ _ _ _ _ _
      | exact ih5 _ _ _ _ _ _ _ _
      | exact ih6 _ _ _ _ _ _ _ _
      | exact ih7 _ _ _ _ _ _ _ _ _ _
      | exact ih8 _ _ _ _ _ _ _ _ _
      | exact ih9 _ _ _ _ _ _ _ _
      | exact octs_In_Int.mono _ _ _ _
      | exact octs_In_Long.mono _ _ _
      | exact octs_In_Short.mono _ _ _
      | exact waybilllaw1_awake.mono _
      | exact waybillref1_Num.mono _ _ _ _
      | exact waybillref1_Text.mono _ _ _ _
      | exact LeO.none _
      | refine LeO.ite ?_ ?_
      | refine LeO.bind ?_ (fun _ => ?_)
    · intro y0 y1 y2 y3 y4 y5 y6 y7 y8
      unfold waybilllaw1_OctsReads.j6
      repeat' first
      | (with_reducible exact ih0 _ _ _ _ _ _ _)
      | (with_reducible exact ih1 _ _ _ _ _ _ _ _)
      | (with_reducible exact ih2 _ _ _ _ _ _ _)
      | (with_reducible exact ih3 _ _ _ _ _ _ _ _)
      | (with_reducible exact ih4 _ _ _ _ _ _ _ _ _ _)
      | (with_reducible exact ih5 _ _ _ _ _ _ _ _)
      | (with_reducible exact ih6 _ _ _ _ _ _ _ _)
      | (with_reducible exact ih7 _ _ _ _ _ _ _ _ _ _)
      | (with_reducible exact ih8 _ _ _ _ _ _ _ _ _)
      | (with_reducible exact ih9 _ _ _ _ _ _ _ _)
      | (with_reducible exact octs_In_Int.mono _ _ _ _)
      | (with_reducible exact octs_In_Long.mono _ _ _)
      | (with_reducible exact octs_In_Short.mono _ _ _)
      | (with_reducible exact waybilllaw1_awake.mono _)
      | (with_reducible exact waybillref1_Num.mono _ _ _ _)
      | (with_reducible exact waybillref1_Text.mono _ _ _ _)
      | (with_reducible exact LeO.refl _)
      | (with_reducible exact LeO.none _)
      | (with_reducible refine LeO.ite ?_ ?_)
      | (with_reducible refine LeO.bind ?_ (fun _ => ?_))
      | exact ih0 _ _ _ _ _ _ _
      | exact ih1 _ _ _ _ _ _ _ _
      | exact ih2 _ _ _ _ _ _ _
      | exact ih3 _ _ _ _ _ _ _ _
      | exact ih4 _ _ _ _ _ _ _ _ _ _
      | exact ih5 _ _ _ _ _ _ _ _
      | exact ih6 _ _ _ _ _ _ _ _
      | exact ih7 _ _ _ _ _ _ _ _ _ _
      | exact ih8 _ _ _ _ _ _ _ _ _
      | exact ih9 _ _ _ _ _ _ _ _
      | exact octs_In_Int.mono _ _ _ _
      | exact octs_In_Long.mono _ _ _
      | exact octs_In_Short.mono _ _ _
      | exact waybilllaw1_awake.mono _
      | exact waybillref1_Num.mono _ _ _ _
      | exact waybillref1_Text.mono _ _ _ _
      | exact LeO.none _
      | refine LeO.ite ?_ ?_
      | refine LeO.bind ?_ (fun _ => ?_)
    · intro y0 y1 y2 y3 y4 y5 y6 y7
      unfold waybilllaw1_OctsReads.j7
      repeat' first
      | (with_reducible exact ih0 _ _ _ _ _ _ _)
      | (with_reducible exact ih1 _ _ _ _ _ _ _ _)
      | (with_reducible exact ih2 _ _ _ _ _ _ _)
      | (with_reducible exact ih3 _ _ _ _ _ _ _ _)
      | (with_reducible exact ih4 _ _ _ _ _ _ _ _ _ _)
      | (with_reducible exact ih5 _ _ _ _ _ _ _ _)
      | (with_reducible exact ih6 _ _ _ _ _ _ _ _)
      | (with_reducible exact ih7 _ _ _ _ _ _ _ _ _ _)
      | (with_reducible exact ih8 _ _ _ _ _ _ _ _ _)
      | (with_reducible exact ih9 _ _ _ _ _ _ _ _)
      | (with_reducible exact octs_In_Int.mono _ _ _ _)
      | (with_reducible exact octs_In_Long.mono _ _ _)
      | (with_reducible exact octs_In_Short.mono _ _ _)
      | (with_reducible exact waybilllaw1_awake.mono _)
      | (with_reducible exact waybillref1_Num.mono _ _ _ _)
      | (with_reducible exact waybillref1_Text.mono _ _ _ _)
      | (with_reducible exact LeO.refl _)
      | (with_reducible exact LeO.none _)
      | (with_reducible refine LeO.ite ?_ ?_)
      | (with_reducible refine LeO.bind ?_ (fun _ => ?_))
      | exact ih0 _ _ _ _ _ _ _
      | exact ih1 _ _ _ _ _ _ _ _
      | exact ih2 _ _ _ _ _ _ _
      | exact ih3 _ _ _ _ _ _ _ _
      | exact ih4 _ _ _ _ _ _ _ _ _ _
      | exact ih5 _ _ _ _ _ _ _ _
      | exact ih6 _ _ _ _ _ _ _ _
      | exact ih7 _ _ _ _ _ _ _ _ _ _
      | exact ih8 _ _ _ _ _ _ _ _ _
      | exact ih9 _ _ _ _ _ _ _ _
      | exact octs_In_Int.mono _ _ _ _
      | exact octs_In_Long.mono _ _ _
      | exact octs_In_Short.mono _ _ _
      | exact waybilllaw1_awake.mono _
      | exact waybillref1_Num.mono _ _ _ _
      | exact waybillref1_Text.mono _ _ _ _
      | exact LeO.none _
      | refine LeO.ite ?_ ?_
      | refine LeO.bind ?_ (fun _ => ?_)
theorem waybilllaw1_OctsReads.mono : ∀ a0 a1 k, LeO (waybilllaw1_OctsReads.f k a0 a1) (waybilllaw1_OctsReads.f (k + 1) a0 a1) := by
  intro a0 a1 k
  obtain ⟨ih0, ih1, ih2, ih3, ih4, ih5, ih6, ih7, ih8, ih9⟩ := waybilllaw1_OctsReads.mono_l k
  unfold waybilllaw1_OctsReads.f
  repeat' first
      | (with_reducible exact ih0 _ _ _ _ _ _ _)
      | (with_reducible exact ih1 _ _ _ _ _ _ _ _)
      | (with_reducible exact ih2 _ _ _ _ _ _ _)
      | (with_reducible exact ih3 _ _ _ _ _ _ _ _)
      | (with_reducible exact ih4 _ _ _ _ _ _ _ _ _ _)
      | (with_reducible exact ih5 _ _ _ _ _ _ _ _)
      | (with_reducible exact ih6 _ _ _ _ _ _ _ _)
      | (with_reducible exact ih7 _ _ _ _ _ _ _ _ _ _)
      | (with_reducible exact ih8 _ _ _ _ _ _ _ _ _)
      | (with_reducible exact ih9 _ _ _ _ _ _ _ _)
      | (with_reducible exact octs_In_Int.mono _ _ _ _)
      | (with_reducible exact octs_In_Long.mono _ _ _)
      | (with_reducible exact octs_In_Short.mono _ _ _)
      | (with_reducible exact waybilllaw1_awake.mono _)
      | (with_reducible exact waybillref1_Num.mono _ _ _ _)
      | (with_reducible exact waybillref1_Text.mono _ _ _ _)
      | (with_reducible exact LeO.refl _)
      | (with_reducible exact LeO.none _)
      | (with_reducible refine LeO.ite ?_ ?_)
      | (with_reducible refine LeO.bind ?_ (fun _ => ?_))
      | exact ih0 _ _ _ _ _ _ _
      | exact ih1 _ _ _ _ _ _ _ _
      | exact ih2 _ _ _ _ _ _ _
      | exact ih3 _ _ _ _ _ _ _ _
      | exact ih4 _ _ _ _ _ _ _ _ _ _
      | exact ih5 _ _ _ _ _ _ _ _
      | exact ih6 _ _ _ _ _ _ _ _
      | exact ih7 _ _ _ _ _ _ _ _ _ _
      | exact ih8 _ _ _ _ _ _ _ _ _
      | exact ih9 _ _ _ _ _ _ _ _
      | exact octs_In_Int.mono _ _ _ _
      | exact octs_In_Long.mono _ _ _
      | exact octs_In_Short.mono _ _ _
      | exact waybilllaw1_awake.mono _
      | exact waybillref1_Num.mono _ _ _ _
      | exact waybillref1_Text.mono _ _ _ _
      | exact LeO.none _
      | refine LeO.ite ?_ ?_
      | refine LeO.bind ?_ (fun _ => ?_)
def waybilllaw1_OctsReads.T38 : Bool × List (List Nat × List Nat) := (true, [([], []), ([0], [0]), ([1], [1]), ([2], [2]), ([3, 2, 2], [2, 3]), ([2], [2]), ([5, 2], [2, 5]), ([4, 6, 2], [2, 4, 6]), ([2, 7], [2, 7]), ([8, 4], [8]), ([9], [9]), ([10, 9], [9, 10]), ([11, 9, 9], [9, 11]), ([12], [12]), ([13, 12, 12], [12, 13]), ([12], [12]), ([14, 15, 14, 12], [12, 14, 15]), ([16, 12], [12, 16]), ([12, 17, 9], [9, 12, 17]), ([9, 18], [9, 18])])
def waybilllaw1_OctsReads.B38 : List Nat := [0, 1, 3, 7, 15, 7, 39, 127, 255, 511, 1023, 2047, 4095, 8191, 16383, 8191, 65535, 131071, 262143, 524287]
theorem waybilllaw1_OctsReads.tab38 : rtab .any (opsOf Try.f7 38) = waybilllaw1_OctsReads.T38 := by kernel_rfl
theorem waybilllaw1_OctsReads.bits38 : waitsOk waybilllaw1_OctsReads.T38.2 waybilllaw1_OctsReads.B38 = true := by kernel_rfl
set_option maxHeartbeats 8000000 in
set_option maxRecDepth 100000 in
theorem waybilllaw1_OctsReads.calls (k : Nat) (P0_ : Nat → Prop) (A0 : Option Addr) (c0 : Nat) (l0 : List Int) (A1 : Option Addr) (c1 : Nat) (l1 : List Int) (r : Bool) (w : World) (hs0 : Kd.V (Kd.int .u8) 5 w w.heap.size (fun k_ => P0_ k_) (.slice A0 l0.length c0) l0) (hr1 : Kd.C (Kd.int .i64) w A1 l1.length l1) (hc1 : l1.length ≤ c1) (h : waybilllaw1_OctsReads.f k l0 l1 = some r) :
    Calls Try.prog 7 #[.slice A0 l0.length c0, .slice A1 l1.length c1] w fun e w' => e = .returned (.bool r) ∧ Below w.heap.size w w' := by
  have hpe45 := fun (W : World) (p : Option Addr) => run_eql_pointer_nil (P := Try.prog) (w := W) 45 p (by kernel_rfl)
  have hpn45 := fun (W : World) (p : Option Addr) => run_neq_pointer_nil (P := Try.prog) (w := W) 45 p (by kernel_rfl)
  have HO0 := Aside0.mk (show Kd.V (Kd.int .u8) 5 w w.heap.size (fun k_ => (P0_ k_ ∨ w.heap.size ≤ k_)) (.slice A0 l0.length c0) l0 from Kd.V_mono hs0 (fun k_ hk => .inl hk))
  have HR1 := Aside0.mk hr1
  have HC1 := Aside0.mk hc1
  clear hr1 hc1
  have HB := Aside0.mk (Below.refl w.heap.size w)
  have H : (if (l0.length : Int) > 600 then ((waybilllaw1_awake.f k).bind fun t199 => (some t199)) else ((octs_From.f l0).bind fun bt200 => ((waybilllaw1_awake.f k).bind fun t203 => (if t203 = true then (waybilllaw1_OctsReads.l0 k l0 l1 0 false 0 bt200.1 bt200.2) else (none))))) = some r := h
  clear h
  by_cases c3 : (l0.length : Int) > 600
  · rw [if_pos c3] at H
    have c3b0 : decide (600 < (l0.length : Int)) = true := decide_eq_true c3
    have c3b1 : decide (600 < l0.length) = true := decide_eq_true (by omega)
    clear c3
    replace H := Option.bind_eq_some_iff.mp H
    obtain ⟨t199, A40, H⟩ := H
    replace H : (some t199) = some r := H
    have A4 := Aside0.mk A40
    clear A40
    obtain rfl := Option.some.inj H
    go_enter Try.func7, Try.ntmps7
    go_wp2_with (first | ((with_reducible refine gate_callee (f := 28) rfl ?_); refine goesL_ (some 22) rfl rfl Try.func28 (by kernel_rfl) rfl #[] rfl (by (try simp only [List.map_toArray, List.map_cons, List.map_nil]); first | done | rfl | (simp only [List.length_drop, List.length_take]; rfl)) ?_; (with_reducible refine (waybilllaw1_awake.calls k  t199 _ A4.out).mono ?_); rintro e w5 ⟨rfl, hb⟩; refine ⟨_, rfl, ?_⟩; have n0_ := Aside0.mk (Kd.V_below (by (with_reducible repeat (first | apply Kd.V_alloc | apply Kd.V_drewN | apply Kd.V_drew)); exact HO0.out) hb); have n1_ := Aside0.mk (below_step (by repeat (first | (with_reducible first | exact HB.out | apply below_alloc | apply pw_below_drewN | apply below_drew1) | exact HB.out)) hb); clear HO0; clear HB; have HO0 := n0_; have HB := n1_; clear n0_ n1_; (try clear hb); (try clear hb2); (try clear hk); (try clear hi); (try clear hge)))
    all_goals first | (go_ret; exact ⟨by first | rfl | (simp [errW_none, errW_some]; done) | (simp [errW_none, errW_some]; rfl) | (simp [*, errW_none, errW_some]; done) | (simp [*, errW_none, errW_some]; rfl), by repeat (first | (with_reducible first | exact HB.out | apply below_alloc | apply pw_below_drewN | apply below_drew1) | exact HB.out)⟩) | (exfalso; simp_all; done)
  · rw [if_neg c3] at H
    have c3b0 : decide (600 < (l0.length : Int)) = false := decide_eq_false c3
    have c3b1 : decide (600 < l0.length) = false := decide_eq_false (by omega)
    clear c3
    replace H := Option.bind_eq_some_iff.mp H
    obtain ⟨⟨t200, t201⟩, A60, H⟩ := H
    replace H : ((waybilllaw1_awake.f k).bind fun t203 => (if t203 = true then (waybilllaw1_OctsReads.l0 k l0 l1 0 false 0 t200 t201) else (none))) = some r := H
    have A6 := Aside0.mk A60
    clear A60
    replace H := Option.bind_eq_some_iff.mp H
    obtain ⟨t203, A70, H⟩ := H
    replace H : (if t203 = true then (waybilllaw1_OctsReads.l0 k l0 l1 0 false 0 t200 t201) else (none)) = some r := H
    have A7 := Aside0.mk A70
    clear A70
    by_cases c8 : t203 = true
    · subst c8
      have H1 : (waybilllaw1_OctsReads.l0 k l0 l1 0 false 0 t200 t201) = some r := by rw [if_pos rfl] at H; exact H
      clear H
      have H := H1
      clear H1
      have H' := Aside0.mk H
      clear H
      go_enter Try.func7, Try.ntmps7
      go_wp2_with (first | ((with_reducible refine gate_callee (f := 25) rfl ?_); refine goesL_ (some 24) rfl rfl Try.func25 (by kernel_rfl) rfl #[.slice A0 l0.length c0] rfl (by (try simp only [List.map_toArray, List.map_cons, List.map_nil]); first | done | rfl | (simp only [List.length_drop, List.length_take]; rfl)) ?_; (with_reducible refine (octs_From.callsB _ _ l0 t200 t201 w _ ?side1 ?side2 ?side3 A6.out).mono ?_); (case side1 => repeat (first | (with_reducible first | exact HB.out | apply below_alloc | apply pw_below_drewN | apply below_drew1) | exact HB.out)); (case side2 => repeat (first | exact (Kd.V_reads' HO0.out).2.2 | (with_reducible refine Kd.C_alloc ?_ _) | (with_reducible refine Kd.C_drewN ?_ _) | (with_reducible refine Kd.C_drew ?_))); (case side3 => exact (Kd.V_reads' HO0.out).2.1); rintro e w9 ⟨g202, rfl, hi, hb, hb2, hge⟩; refine ⟨_, rfl, ?_⟩; have n0_ := Aside0.mk (Kd.V_mono (ok' := fun k_ => (P0_ k_ ∨ w.heap.size ≤ k_) ∧ k_ ≠ g202) (Kd.V_below (Kd.V_bound (ok := fun k_ => ((P0_ k_ ∨ w.heap.size ≤ k_))) (by (with_reducible repeat (first | apply Kd.V_alloc | apply Kd.V_drewN | apply Kd.V_drew)); exact HO0.out)) hb2) (fun k_ hk_ => ⟨hk_.1, Nat.ne_of_lt (Nat.lt_of_lt_of_le hk_.2 hge)⟩)); have n1_ := Aside0.mk (hb); have n2_ := Aside0.mk (hi); clear HO0; clear HB; have HO0 := n0_; have HB := n1_; have HI202 := n2_; clear n0_ n1_ n2_; (try clear hb); (try clear hb2); (try clear hk); (try clear hi); (try clear hge)) | (go_at_call 28; (with_reducible refine (waybilllaw1_awake.calls k  true _ A7.out).mono ?_); rintro e w10 ⟨rfl, hb⟩; have n0_ := Aside0.mk (Kd.V_below (by (with_reducible repeat (first | apply Kd.V_alloc | apply Kd.V_drewN | apply Kd.V_drew)); exact HO0.out) hb); have n1_ := Aside0.mk (IsB91.below (by repeat (first | (with_reducible first | exact HI202.out | apply IsB91.alloc | apply IsB91.drewN | apply IsB91.drew | apply IsB91.set_1) | exact HI202.out)) hb); have n2_ := Aside0.mk (below_step (by repeat (first | (with_reducible first | exact HB.out | apply below_alloc | apply pw_below_drewN | apply below_drew1 | refine below_set ?_ (IsB91.ge HI202.out)) | exact HB.out)) hb); clear HO0; clear HI202; clear HB; have HO0 := n0_; have HI202 := n1_; have HB := n2_; clear n0_ n1_ n2_; (try clear hb); (try clear hb2); (try clear hk); (try clear hi); (try clear hge)))
      go_loopg [6, 7, 8] k (fun kq v6 v7 v8 w' => ∃ (x6_1 : Int) (x7_1 : Bool) (x8_1 : Int) (x203000_1 : List Int) (x203001_1 : Bool), v6 = .int .i64 x6_1 ∧ v7 = .bool x7_1 ∧ v8 = .int .i64 x8_1 ∧ Aside0 (waybilllaw1_OctsReads.l0 kq l0 l1 x6_1 x7_1 x8_1 x203000_1 x203001_1 = some r) ∧ Aside0 (kq ≤ k) ∧ Aside0 (Kd.V (Kd.int .u8) 5 w' w.heap.size (fun k_ => (P0_ k_ ∨ w.heap.size ≤ k_) ∧ k_ ≠ g202) (.slice A0 l0.length c0) l0) ∧ Aside0 (IsB91 w w' g202 x203000_1 x203001_1) ∧ Aside0 (Below w.heap.size w w'))
      case atStart => exact ⟨(0), (false), (0), (t200), (t201), (by first | rfl | (simp; done) | (simp [*]; done)), (by first | rfl | (simp; done) | (simp [*]; done)), (by first | rfl | (simp; done) | (simp [*]; done)), H', ⟨Nat.le_refl _⟩, ⟨by (with_reducible repeat (first | apply Kd.V_alloc | apply Kd.V_drewN | apply Kd.V_drew)); exact HO0.out⟩, ⟨by repeat (first | (with_reducible first | exact HI202.out | apply IsB91.alloc | apply IsB91.drewN | apply IsB91.drew | apply IsB91.set_1) | exact HI202.out)⟩, ⟨by repeat (first | (with_reducible first | exact HB.out | apply below_alloc | apply pw_below_drewN | apply below_drew1 | refine below_set ?_ (IsB91.ge HI202.out)) | exact HB.out)⟩⟩
      case round => as_aux_lemma =>
        clear H'
        try clear c1
        try clear c2
        try clear p2
        try clear c3
        try clear c3b0
        try clear c3b1
        try clear c7
        try clear c8
        obtain ⟨x6_1, x7_1, x8_1, x203000_1, x203001_1, rfl, rfl, rfl, HA, HK1, HO_0, HI202, HB⟩ := hrel
        cases gk with
        | zero => exact absurd HA.out (by simp [waybilllaw1_OctsReads.l0])
        | succ k1 =>
          have H := HA.out
          clear HA
          simp only [waybilllaw1_OctsReads.l0] at H
          have HC11 := Aside0.mk H
          clear H
          go_upto_region 8 with (fail)
          go_cut [38] (fun v38 wc => ∃ (kq : Nat) (x38_10 : Bool), v38 = .bool x38_10 ∧ Aside0 (waybilllaw1_OctsReads.j1 kq l0 l1 x6_1 x7_1 x8_1 x38_10 x203000_1 x203001_1 = some r) ∧ Aside0 (kq ≤ k1) ∧ Aside0 (Kd.V (Kd.int .u8) 5 wc w.heap.size (fun k_ => (P0_ k_ ∨ w.heap.size ≤ k_) ∧ k_ ≠ g202) (.slice A0 l0.length c0) l0) ∧ Aside0 (IsB91 w wc g202 x203000_1 x203001_1) ∧ Aside0 (Below w.heap.size w wc))
          case first => as_aux_lemma =>
            have H := HC11.out
            clear HC11
            by_cases c12 : x8_1 < (l1.length : Int)
            · rw [if_pos c12] at H
              have c12b0 : decide (x8_1 < (l1.length : Int)) = true := decide_eq_true c12
              clear c12
              (first | rw [c12b0] | rw [c12b2] | (simp only [i64_w, i32_w]; rw [c12b0]) | skip)
              have H' := Aside0.mk H
              clear H
              go_wp2
              go_meet
              case rel => exact ⟨_, (decide (x8_1 < 60)), (by first | rfl | (simp; done) | (simp [*]; done)), H', ⟨by have := HK1.out; first | omega | exact Nat.le_refl _⟩, ⟨by (with_reducible repeat (first | apply Kd.V_alloc | apply Kd.V_drewN | apply Kd.V_drew)); exact HO_0.out⟩, ⟨by repeat (first | (with_reducible first | exact HI202.out | apply IsB91.alloc | apply IsB91.drewN | apply IsB91.drew | apply IsB91.set_1) | exact HI202.out)⟩, ⟨by repeat (first | (with_reducible first | exact HB.out | apply below_alloc | apply pw_below_drewN | apply below_drew1 | refine below_set ?_ (IsB91.ge HI202.out)) | exact HB.out)⟩⟩
            · rw [if_neg c12] at H
              have c12b0 : decide (x8_1 < (l1.length : Int)) = false := decide_eq_false c12
              clear c12
              (first | rw [c12b0] | rw [c12b2] | (simp only [i64_w, i32_w]; rw [c12b0]) | skip)
              have H' := Aside0.mk H
              clear H
              go_wp2
              go_meet
              case rel => exact ⟨_, (false), (by first | rfl | (simp; done) | (simp [*]; done)), H', ⟨by have := HK1.out; first | omega | exact Nat.le_refl _⟩, ⟨by (with_reducible repeat (first | apply Kd.V_alloc | apply Kd.V_drewN | apply Kd.V_drew)); exact HO_0.out⟩, ⟨by repeat (first | (with_reducible first | exact HI202.out | apply IsB91.alloc | apply IsB91.drewN | apply IsB91.drew | apply IsB91.set_1) | exact HI202.out)⟩, ⟨by repeat (first | (with_reducible first | exact HB.out | apply below_alloc | apply pw_below_drewN | apply below_drew1 | refine below_set ?_ (IsB91.ge HI202.out)) | exact HB.out)⟩⟩
          case rest => as_aux_lemma =>
            clear HC11
            try clear c1
            try clear c2
            try clear p2
            try clear c3
            try clear c3b0
            try clear c3b1
            try clear c7
            try clear c8
            try clear c12
            try clear c12b0
            try clear p2
            obtain ⟨kq, x38_10, rfl, HA, HJ10, HO_0, HI202, HB⟩ := hcut
            cases kq with
            | zero => exact absurd HA.out (by simp [waybilllaw1_OctsReads.j1])
            | succ kj10 =>
              have H := HA.out
              clear HA
              simp only [waybilllaw1_OctsReads.j1] at H
              by_cases c13 : x38_10 = true
              · subst c13
                have H1 : (if 0 ≤ x8_1 then (if x8_1 < (l1.length : Int) then (if (Go.bits .and .i64 (rd l1 x8_1) 3) = 0 then ((waybillref1_Num.f kj10 l0 x6_1 (mn (mx ((rd l1 x8_1) / 4) 1) 8)).bind fun bt206 => (if x7_1 = true then (waybilllaw1_OctsReads.j2 kj10 l0 l1 x6_1 true x8_1 ((rd l1 x8_1) / 4) (mn (mx ((rd l1 x8_1) / 4) 1) 8) bt206.1 x203000_1 x203001_1) else (waybilllaw1_OctsReads.j2 kj10 l0 l1 x6_1 (!bt206.2) x8_1 ((rd l1 x8_1) / 4) (mn (mx ((rd l1 x8_1) / 4) 1) 8) bt206.1 x203000_1 x203001_1))) else (if (Go.bits .and .i64 (rd l1 x8_1) 3) = 1 then (waybilllaw1_OctsReads.j3 kj10 l0 l1 x6_1 x7_1 x8_1 ((Go.bits .and .i64 (rd l1 x8_1) 3) == 1) x203000_1 x203001_1) else (waybilllaw1_OctsReads.j3 kj10 l0 l1 x6_1 x7_1 x8_1 ((Go.bits .and .i64 (rd l1 x8_1) 3) == 2) x203000_1 x203001_1))) else (none)) else (none)) = some r := by rw [if_pos rfl] at H; exact H
                clear H
                have H := H1
                clear H1
                by_cases c14 : 0 ≤ x8_1
                · rw [if_pos c14] at H
                  have c14b0 : decide (0 ≤ x8_1) = true := decide_eq_true c14
                  clear c14
                  by_cases c15 : x8_1 < (l1.length : Int)
                  · rw [if_pos c15] at H
                    have c15b0 : decide (x8_1 < (l1.length : Int)) = true := decide_eq_true c15
                    clear c15
                    have HC16 := Aside0.mk H
                    clear H
                    have p204 : 0 ≤ (x8_1 : Int) := of_decide_eq_true (by first | (with_reducible assumption) | assumption)
                    have q204 : x8_1 < (l1.length : Int) := of_decide_eq_true (by first | (with_reducible assumption) | assumption)
                    obtain ⟨ad204, e204, hx204_0⟩ := Kd.at_int HR1.out x8_1 p204 q204
                    cases e204
                    replace hx204_0 := (HB.out.cell (World.block_lt_of_cell? w _ hx204_0)).trans hx204_0
                    replace p204 := eq_true p204
                    replace q204 := eq_true q204
                    go_upto_block 2 with (fail)
                    go_cut [6, 7] (fun v6 v7 wc => ∃ (kq : Nat) (x6_15 : Int) (x7_15 : Bool) (x203000_15 : List Int) (x203001_15 : Bool), v6 = .int .i64 x6_15 ∧ v7 = .bool x7_15 ∧ Aside0 (waybilllaw1_OctsReads.j8 kq l0 l1 x6_15 x7_15 x8_1 x203000_15 x203001_15 = some r) ∧ Aside0 (kq ≤ kj10) ∧ Aside0 (Kd.V (Kd.int .u8) 5 wc w.heap.size (fun k_ => (P0_ k_ ∨ w.heap.size ≤ k_) ∧ k_ ≠ g202) (.slice A0 l0.length c0) l0) ∧ Aside0 (IsB91 w wc g202 x203000_15 x203001_15) ∧ Aside0 (Below w.heap.size w wc))
                    case first => as_aux_lemma =>
                      have H := HC16.out
                      clear HC16
                      by_cases c17 : (Go.bits .and .i64 (rd l1 x8_1) 3) = 0
                      · rw [if_pos c17] at H
                        have c17b0 : ((Go.bits .and .i64 (rd l1 x8_1) 3) == 0) = true := beq_iff_eq.mpr c17
                        have c17b1 : ((Go.bits .and .i64 (rd l1 x8_1) 3) != 0) = false := bne_eq_false_iff_eq.mpr c17
                        clear c17
                        (first | rw [c17b0] | rw [c17b2] | (simp only [i64_w, i32_w]; rw [c17b0]) | skip)
                        obtain ⟨ji18, hji18⟩ : ∃ j_ : Int, (mx ((rd l1 x8_1) / 4) 1) = j_ := ⟨_, rfl⟩
                        replace H : ((waybillref1_Num.f kj10 l0 x6_1 (mn (ji18) 8)).bind fun bt206 => (if x7_1 = true then (waybilllaw1_OctsReads.j2 kj10 l0 l1 x6_1 true x8_1 ((rd l1 x8_1) / 4) (mn (ji18) 8) bt206.1 x203000_1 x203001_1) else (waybilllaw1_OctsReads.j2 kj10 l0 l1 x6_1 (!bt206.2) x8_1 ((rd l1 x8_1) / 4) (mn (ji18) 8) bt206.1 x203000_1 x203001_1))) = some r := by first | (rw [hji18] at H; exact H) | (simp only [hji18] at H ⊢; exact H)
                        have hji18_ : (if ((rd l1 x8_1) / 4) < 1 then 1 else ((rd l1 x8_1) / 4)) = ji18 := hji18
                        obtain ⟨ji19, hji19⟩ : ∃ j_ : Int, (mn (ji18) 8) = j_ := ⟨_, rfl⟩
                        replace H : ((waybillref1_Num.f kj10 l0 x6_1 (ji19)).bind fun bt206 => (if x7_1 = true then (waybilllaw1_OctsReads.j2 kj10 l0 l1 x6_1 true x8_1 ((rd l1 x8_1) / 4) ji19 bt206.1 x203000_1 x203001_1) else (waybilllaw1_OctsReads.j2 kj10 l0 l1 x6_1 (!bt206.2) x8_1 ((rd l1 x8_1) / 4) ji19 bt206.1 x203000_1 x203001_1))) = some r := by first | (rw [hji19] at H; exact H) | (simp only [hji19] at H ⊢; exact H)
                        have hji19_ : (if 8 < (ji18) then 8 else (ji18)) = ji19 := hji19
                        (try (have hji19u : ji19 ≤ 8 := by (rw [← hji19]; unfold mn; (repeat' split) <;> omega)))
                        (try (have hji19v : ¬ (9223372036854775807 < 1 + ji19.toNat) := by omega))
                        replace H := Option.bind_eq_some_iff.mp H
                        obtain ⟨⟨t206, t207⟩, A200, H⟩ := H
                        replace H : (if x7_1 = true then (waybilllaw1_OctsReads.j2 kj10 l0 l1 x6_1 true x8_1 ((rd l1 x8_1) / 4) ji19 t206 x203000_1 x203001_1) else (waybilllaw1_OctsReads.j2 kj10 l0 l1 x6_1 (!t207) x8_1 ((rd l1 x8_1) / 4) ji19 t206 x203000_1 x203001_1)) = some r := H
                        have A20 := Aside0.mk A200
                        clear A200
                        have HC21 := Aside0.mk H
                        clear H
                        have p205 : 0 ≤ (x8_1 : Int) := of_decide_eq_true (by first | (with_reducible assumption) | assumption)
                        have q205 : x8_1 < (l1.length : Int) := of_decide_eq_true (by first | (with_reducible assumption) | assumption)
                        obtain ⟨ad205, e205, hx205_0⟩ := Kd.at_int HR1.out x8_1 p205 q205
                        obtain rfl : ad204 = ad205 := (by injection e205)
                        replace hx205_0 := (HB.out.cell (World.block_lt_of_cell? w _ hx205_0)).trans hx205_0
                        replace p205 := eq_true p205
                        replace q205 := eq_true q205
                        go_upto_region 22 with (first | ((with_reducible refine gate_callee (f := 29) rfl ?_); refine goesL_ (some 78) rfl rfl Try.func29 (by kernel_rfl) rfl #[.slice A0 l0.length c0, .int .i64 x6_1, .int .i64 ji19] rfl (by (try simp only [List.map_toArray, List.map_cons, List.map_nil]); first | done | (simp only [hji19]; rfl) | rfl | (simp only [List.length_drop, List.length_take]; rfl)) ?_; (with_reducible refine (waybillref1_Num.calls kj10 _ _ l0 x6_1 ji19 t206 t207 _ ?side1 ?side2 A20.out).mono ?_); (case side1 => repeat (first | exact (Kd.V_reads' HO_0.out).2.2 | (with_reducible refine Kd.C_alloc ?_ _) | (with_reducible refine Kd.C_drewN ?_ _) | (with_reducible refine Kd.C_drew ?_))); (case side2 => exact (Kd.V_reads' HO_0.out).2.1); rintro e w' ⟨rfl, ⟨nd, rfl⟩⟩; refine ⟨_, rfl, ?_⟩))
                        (try simp only [Act.put, List.setIfInBounds_toArray, List.set_cons_zero, List.set_cons_succ])
                        go_cut [7] (fun v7 wc => ∃ (kq : Nat) (x7_20 : Bool), v7 = .bool x7_20 ∧ Aside0 (waybilllaw1_OctsReads.j2 kq l0 l1 x6_1 x7_20 x8_1 ((rd l1 x8_1) / 4) ji19 t206 x203000_1 x203001_1 = some r) ∧ Aside0 (kq ≤ kj10) ∧ Aside0 (Kd.V (Kd.int .u8) 5 wc w.heap.size (fun k_ => (P0_ k_ ∨ w.heap.size ≤ k_) ∧ k_ ≠ g202) (.slice A0 l0.length c0) l0) ∧ Aside0 (IsB91 w wc g202 x203000_1 x203001_1) ∧ Aside0 (Below w.heap.size w wc))
                        case first => as_aux_lemma =>
                          have H := HC21.out
                          clear HC21
                          by_cases c22 : x7_1 = true
                          · subst c22
                            have H1 : (waybilllaw1_OctsReads.j2 kj10 l0 l1 x6_1 true x8_1 ((rd l1 x8_1) / 4) ji19 t206 x203000_1 x203001_1) = some r := by rw [if_pos rfl] at H; exact H
                            clear H
                            have H := H1
                            clear H1
                            have H' := Aside0.mk H
                            clear H
                            go_wp2
                            go_meet
                            case rel => exact ⟨_, (true), (by first | rfl | (simp; done) | (simp [*]; done)), H', ⟨by have := HK1.out; have := HJ10.out; first | omega | exact Nat.le_refl _⟩, ⟨by (with_reducible repeat (first | apply Kd.V_alloc | apply Kd.V_drewN | apply Kd.V_drew)); exact HO_0.out⟩, ⟨by repeat (first | (with_reducible first | exact HI202.out | apply IsB91.alloc | apply IsB91.drewN | apply IsB91.drew | apply IsB91.set_1) | exact HI202.out)⟩, ⟨by repeat (first | (with_reducible first | exact HB.out | apply below_alloc | apply pw_below_drewN | apply below_drew1 | refine below_set ?_ (IsB91.ge HI202.out)) | exact HB.out)⟩⟩
                          · replace c22 := Bool.eq_false_iff.mpr c22
                            subst c22
                            have H1 : (waybilllaw1_OctsReads.j2 kj10 l0 l1 x6_1 (!t207) x8_1 ((rd l1 x8_1) / 4) ji19 t206 x203000_1 x203001_1) = some r := by rw [if_neg (show ¬ (false = true) by decide)] at H; exact H
                            clear H
                            have H := H1
                            clear H1
                            have H' := Aside0.mk H
                            clear H
                            go_wp2
                            go_meet
                            case rel => exact ⟨_, (!t207), (by first | rfl | (simp; done) | (simp [*]; done)), H', ⟨by have := HK1.out; have := HJ10.out; first | omega | exact Nat.le_refl _⟩, ⟨by (with_reducible repeat (first | apply Kd.V_alloc | apply Kd.V_drewN | apply Kd.V_drew)); exact HO_0.out⟩, ⟨by repeat (first | (with_reducible first | exact HI202.out | apply IsB91.alloc | apply IsB91.drewN | apply IsB91.drew | apply IsB91.set_1) | exact HI202.out)⟩, ⟨by repeat (first | (with_reducible first | exact HB.out | apply below_alloc | apply pw_below_drewN | apply below_drew1 | refine below_set ?_ (IsB91.ge HI202.out)) | exact HB.out)⟩⟩
                        case rest => as_aux_lemma =>
                          clear HC21
                          try clear c1
                          try clear c2
                          try clear p2
                          try clear q2
                          try clear hx2
                          try clear c3
                          try clear c3b0
                          try clear c3b1
                          try clear c7
                          try clear c8
                          try clear c12
                          try clear c12b0
                          try clear c13
                          try clear c14
                          try clear c14b0
                          try clear c15
                          try clear c15b0
                          try clear c17
                          try clear c17b0
                          try clear c17b1
                          try clear p20
                          try clear q20
                          try clear hx20
                          try clear c22
                          try clear hx204_0
                          try clear hx205_0
                          try clear p2
                          try clear p204
                          try clear p205
                          try clear q204
                          try clear q205
                          obtain ⟨kq, x7_20, rfl, HA, HJ20, HO_0, HI202, HB⟩ := hcut
                          cases kq with
                          | zero => exact absurd HA.out (by simp [waybilllaw1_OctsReads.j2])
                          | succ kj20 =>
                            have H := HA.out
                            clear HA
                            simp only [waybilllaw1_OctsReads.j2] at H
                            by_cases c23 : x7_20 = true
                            · subst c23
                              have H1 : ((octs_In_Int.f kj20 x203000_1 x203001_1 ((rd l1 x8_1) / 4)).bind fun bt208 => (if bt208.1 = 0 then (waybilllaw1_OctsReads.j8 kj20 l0 l1 x6_1 true x8_1 bt208.2.1 bt208.2.2) else (none))) = some r := by rw [if_pos rfl] at H; exact H
                              clear H
                              have H := H1
                              clear H1
                              replace H := Option.bind_eq_some_iff.mp H
                              obtain ⟨⟨t208, t209, t210⟩, A240, H⟩ := H
                              replace H : (if t208 = 0 then (waybilllaw1_OctsReads.j8 kj20 l0 l1 x6_1 true x8_1 t209 t210) else (none)) = some r := H
                              have A24 := Aside0.mk A240
                              clear A240
                              by_cases c25 : t208 = 0
                              · rw [if_pos c25] at H
                                have c25b0 : (t208 == 0) = true := beq_iff_eq.mpr c25
                                have c25b1 : (t208 != 0) = false := bne_eq_false_iff_eq.mpr c25
                                clear c25
                                have H' := Aside0.mk H
                                clear H
                                go_wp2_with (first | ((with_reducible refine gate_callee (f := 26) rfl ?_); refine goesL_ (some 92) rfl rfl Try.func26 (by kernel_rfl) rfl #[.pointer (some ⟨g202, 0, none⟩), .int .i64 ((rd l1 x8_1) / 4)] rfl (by (try simp only [List.map_toArray, List.map_cons, List.map_nil]); first | done | rfl | (simp only [List.length_drop, List.length_take]; rfl)) ?_; (with_reducible refine (octs_In_Int.callsB kj20 g202 x203000_1 x203001_1 ((rd l1 x8_1) / 4) t208 t209 t210 w _ ?side1 ?side2 A24.out).mono ?_); (case side1 => repeat (first | (with_reducible first | exact HI202.out | apply IsB91.alloc | apply IsB91.drewN | apply IsB91.drew | apply IsB91.set_1) | exact HI202.out)); (case side2 => repeat (first | (with_reducible first | exact HB.out | apply below_alloc | apply pw_below_drewN | apply below_drew1 | refine below_set ?_ (IsB91.ge HI202.out)) | exact HB.out)); rintro e w26 ⟨rfl, hi, hb, hk⟩; refine ⟨_, rfl, ?_⟩; have n0_ := Aside0.mk (Kd.V_mono (Kd.V_keep (Kd.V_mono (ok := fun k_ => (((P0_ k_ ∨ w.heap.size ≤ k_)) ∧ k_ ≠ g202)) (by (with_reducible repeat (first | apply Kd.V_alloc | apply Kd.V_drewN | apply Kd.V_drew)); exact HO_0.out) (fun k_ hk_ => (⟨hk_, hk_.2⟩ : _ ∧ k_ ≠ g202))) hk (fun _ h => h.2)) (fun _ h => h.1)); have n1_ := Aside0.mk (hb); have n2_ := Aside0.mk (hi); clear HO_0; clear HB; clear HI202; have HO_0 := n0_; have HB := n1_; have HI202 := n2_; clear n0_ n1_ n2_; (try clear hb); (try clear hb2); (try clear hk); (try clear hi); (try clear hge)))
                                go_meet
                                case rel => exact ⟨_, (x6_1), (true), (t209), (t210), (by first | rfl | (simp; done) | (simp [*]; done)), (by first | rfl | (simp; done) | (simp [*]; done)), H', ⟨by have := HK1.out; have := HJ10.out; have := HJ20.out; first | omega | exact Nat.le_refl _⟩, ⟨by (with_reducible repeat (first | apply Kd.V_alloc | apply Kd.V_drewN | apply Kd.V_drew)); exact HO_0.out⟩, ⟨by repeat (first | (with_reducible first | exact HI202.out | apply IsB91.alloc | apply IsB91.drewN | apply IsB91.drew | apply IsB91.set_1) | exact HI202.out)⟩, ⟨by repeat (first | (with_reducible first | exact HB.out | apply below_alloc | apply pw_below_drewN | apply below_drew1 | refine below_set ?_ (IsB91.ge HI202.out)) | exact HB.out)⟩⟩
                              · rw [if_neg c25] at H
                                exact absurd H (by simp)
                            · replace c23 := Bool.eq_false_iff.mpr c23
                              subst c23
                              have H1 : ((octs_In_Int.f kj20 x203000_1 x203001_1 ((rd l1 x8_1) / 4)).bind fun bt211 => (if bt211.1 = t206 then (waybilllaw1_OctsReads.j8 kj20 l0 l1 (wrap64 (x6_1 + ji19)) false x8_1 bt211.2.1 bt211.2.2) else (none))) = some r := by rw [if_neg (show ¬ (false = true) by decide)] at H; exact H
                              clear H
                              have H := H1
                              clear H1
                              replace H := Option.bind_eq_some_iff.mp H
                              obtain ⟨⟨t211, t212, t213⟩, A270, H⟩ := H
                              replace H : (if t211 = t206 then (waybilllaw1_OctsReads.j8 kj20 l0 l1 (wrap64 (x6_1 + ji19)) false x8_1 t212 t213) else (none)) = some r := H
                              have A27 := Aside0.mk A270
                              clear A270
                              by_cases c28 : t211 = t206
                              · rw [if_pos c28] at H
                                have c28b0 : (t211 == t206) = true := beq_iff_eq.mpr c28
                                have c28b1 : (t211 != t206) = false := bne_eq_false_iff_eq.mpr c28
                                clear c28
                                have H' := Aside0.mk H
                                clear H
                                go_wp2_with (first | ((with_reducible refine gate_callee (f := 26) rfl ?_); refine goesL_ (some 92) rfl rfl Try.func26 (by kernel_rfl) rfl #[.pointer (some ⟨g202, 0, none⟩), .int .i64 ((rd l1 x8_1) / 4)] rfl (by (try simp only [List.map_toArray, List.map_cons, List.map_nil]); first | done | rfl | (simp only [List.length_drop, List.length_take]; rfl)) ?_; (with_reducible refine (octs_In_Int.callsB kj20 g202 x203000_1 x203001_1 ((rd l1 x8_1) / 4) t211 t212 t213 w _ ?side1 ?side2 A27.out).mono ?_); (case side1 => repeat (first | (with_reducible first | exact HI202.out | apply IsB91.alloc | apply IsB91.drewN | apply IsB91.drew | apply IsB91.set_1) | exact HI202.out)); (case side2 => repeat (first | (with_reducible first | exact HB.out | apply below_alloc | apply pw_below_drewN | apply below_drew1 | refine below_set ?_ (IsB91.ge HI202.out)) | exact HB.out)); rintro e w29 ⟨rfl, hi, hb, hk⟩; refine ⟨_, rfl, ?_⟩; have n0_ := Aside0.mk (Kd.V_mono (Kd.V_keep (Kd.V_mono (ok := fun k_ => (((P0_ k_ ∨ w.heap.size ≤ k_)) ∧ k_ ≠ g202)) (by (with_reducible repeat (first | apply Kd.V_alloc | apply Kd.V_drewN | apply Kd.V_drew)); exact HO_0.out) (fun k_ hk_ => (⟨hk_, hk_.2⟩ : _ ∧ k_ ≠ g202))) hk (fun _ h => h.2)) (fun _ h => h.1)); have n1_ := Aside0.mk (hb); have n2_ := Aside0.mk (hi); clear HO_0; clear HB; clear HI202; have HO_0 := n0_; have HB := n1_; have HI202 := n2_; clear n0_ n1_ n2_; (try clear hb); (try clear hb2); (try clear hk); (try clear hi); (try clear hge)))
                                go_meet
                                case rel => exact ⟨_, (wrap64 (x6_1 + ji19)), (false), (t212), (t213), (by first | rfl | (simp; done) | (simp only [← hji19] <;> (first | rfl | simp)) | (simp [*]; done)), (by first | rfl | (simp; done) | (simp [*]; done)), H', ⟨by have := HK1.out; have := HJ10.out; have := HJ20.out; first | omega | exact Nat.le_refl _⟩, ⟨by (with_reducible repeat (first | apply Kd.V_alloc | apply Kd.V_drewN | apply Kd.V_drew)); exact HO_0.out⟩, ⟨by repeat (first | (with_reducible first | exact HI202.out | apply IsB91.alloc | apply IsB91.drewN | apply IsB91.drew | apply IsB91.set_1) | exact HI202.out)⟩, ⟨by repeat (first | (with_reducible first | exact HB.out | apply below_alloc | apply pw_below_drewN | apply below_drew1 | refine below_set ?_ (IsB91.ge HI202.out)) | exact HB.out)⟩⟩
                              · rw [if_neg c28] at H
                                exact absurd H (by simp)
                      · rw [if_neg c17] at H
                        have c17b0 : ((Go.bits .and .i64 (rd l1 x8_1) 3) == 0) = false := beq_eq_false_iff_ne.mpr c17
                        have c17b1 : ((Go.bits .and .i64 (rd l1 x8_1) 3) != 0) = true := bne_iff_ne.mpr c17
                        (first | rw [c17b0] | rw [c17b2] | (simp only [i64_w, i32_w]; rw [c17b0]) | skip)
                        have HC30 := Aside0.mk H
                        clear H
                        go_upto_if 95 with (fail)
                        go_cut [95] (fun v95 wc => ∃ (kq : Nat) (x95_29 : Bool), v95 = .bool x95_29 ∧ Aside0 (waybilllaw1_OctsReads.j3 kq l0 l1 x6_1 x7_1 x8_1 x95_29 x203000_1 x203001_1 = some r) ∧ Aside0 (kq ≤ kj10) ∧ Aside0 (Kd.V (Kd.int .u8) 5 wc w.heap.size (fun k_ => (P0_ k_ ∨ w.heap.size ≤ k_) ∧ k_ ≠ g202) (.slice A0 l0.length c0) l0) ∧ Aside0 (IsB91 w wc g202 x203000_1 x203001_1) ∧ Aside0 (Below w.heap.size w wc))
                        case first => as_aux_lemma =>
                          have H := HC30.out
                          clear HC30
                          by_cases c31 : (Go.bits .and .i64 (rd l1 x8_1) 3) = 1
                          · rw [if_pos c31] at H
                            have c31b0 : ((Go.bits .and .i64 (rd l1 x8_1) 3) == 1) = true := beq_iff_eq.mpr c31
                            have c31b1 : ((Go.bits .and .i64 (rd l1 x8_1) 3) != 1) = false := bne_eq_false_iff_eq.mpr c31
                            clear c31
                            (first | rw [c31b0] | rw [c31b2] | (simp only [i64_w, i32_w]; rw [c31b0]) | skip)
                            have H' := Aside0.mk H
                            clear H
                            go_wp2
                            go_meet
                            case rel => exact ⟨_, (((Go.bits .and .i64 (rd l1 x8_1) 3) == 1)), (by first | rfl | (simp; done) | (simp [*]; done)), H', ⟨by have := HK1.out; have := HJ10.out; first | omega | exact Nat.le_refl _⟩, ⟨by (with_reducible repeat (first | apply Kd.V_alloc | apply Kd.V_drewN | apply Kd.V_drew)); exact HO_0.out⟩, ⟨by repeat (first | (with_reducible first | exact HI202.out | apply IsB91.alloc | apply IsB91.drewN | apply IsB91.drew | apply IsB91.set_1) | exact HI202.out)⟩, ⟨by repeat (first | (with_reducible first | exact HB.out | apply below_alloc | apply pw_below_drewN | apply below_drew1 | refine below_set ?_ (IsB91.ge HI202.out)) | exact HB.out)⟩⟩
                          · rw [if_neg c31] at H
                            have c31b0 : ((Go.bits .and .i64 (rd l1 x8_1) 3) == 1) = false := beq_eq_false_iff_ne.mpr c31
                            have c31b1 : ((Go.bits .and .i64 (rd l1 x8_1) 3) != 1) = true := bne_iff_ne.mpr c31
                            (first | rw [c31b0] | rw [c31b2] | (simp only [i64_w, i32_w]; rw [c31b0]) | skip)
                            have H' := Aside0.mk H
                            clear H
                            go_wp2
                            go_meet
                            case rel => exact ⟨_, (((Go.bits .and .i64 (rd l1 x8_1) 3) == 2)), (by first | rfl | (simp; done) | (simp [*]; done)), H', ⟨by have := HK1.out; have := HJ10.out; first | omega | exact Nat.le_refl _⟩, ⟨by (with_reducible repeat (first | apply Kd.V_alloc | apply Kd.V_drewN | apply Kd.V_drew)); exact HO_0.out⟩, ⟨by repeat (first | (with_reducible first | exact HI202.out | apply IsB91.alloc | apply IsB91.drewN | apply IsB91.drew | apply IsB91.set_1) | exact HI202.out)⟩, ⟨by repeat (first | (with_reducible first | exact HB.out | apply below_alloc | apply pw_below_drewN | apply below_drew1 | refine below_set ?_ (IsB91.ge HI202.out)) | exact HB.out)⟩⟩
                        case rest => as_aux_lemma =>
                          clear HC30
                          try clear c1
                          try clear c2
                          try clear p2
                          try clear q2
                          try clear hx2
                          try clear c3
                          try clear c3b0
                          try clear c3b1
                          try clear p6
                          try clear c7
                          try clear c8
                          try clear c12
                          try clear c12b0
                          try clear c13
                          try clear c14
                          try clear c14b0
                          try clear c15
                          try clear c15b0
                          try clear c17
                          try clear c17b0
                          try clear c17b1
                          try clear p20
                          try clear q20
                          try clear hx20
                          try clear c22
                          try clear c23
                          try clear c25
                          try clear c25b0
                          try clear c25b1
                          try clear c26
                          try clear c28
                          try clear c28b0
                          try clear c28b1
                          try clear c29
                          try clear c31
                          try clear c31b0
                          try clear c31b1
                          try clear hx204_0
                          try clear hx205_0
                          try clear p2
                          try clear p20
                          try clear p204
                          try clear p205
                          try clear q2
                          try clear q20
                          try clear q204
                          try clear q205
                          obtain ⟨kq, x95_29, rfl, HA, HJ29, HO_0, HI202, HB⟩ := hcut
                          cases kq with
                          | zero => exact absurd HA.out (by simp [waybilllaw1_OctsReads.j3])
                          | succ kj29 =>
                            have H := HA.out
                            clear HA
                            simp only [waybilllaw1_OctsReads.j3] at H
                            by_cases c32 : x95_29 = true
                            · subst c32
                              have H1 : (if 0 ≤ x8_1 then (if x8_1 < (l1.length : Int) then (if (Go.bits .and .i64 (rd l1 x8_1) 3) = 2 then (waybilllaw1_OctsReads.j4 kj29 l0 l1 x6_1 x7_1 x8_1 4 x203000_1 x203001_1) else (waybilllaw1_OctsReads.j4 kj29 l0 l1 x6_1 x7_1 x8_1 1 x203000_1 x203001_1)) else (none)) else (none)) = some r := by rw [if_pos rfl] at H; exact H
                              clear H
                              have H := H1
                              clear H1
                              by_cases c33 : 0 ≤ x8_1
                              · rw [if_pos c33] at H
                                have c33b0 : decide (0 ≤ x8_1) = true := decide_eq_true c33
                                clear c33
                                by_cases c34 : x8_1 < (l1.length : Int)
                                · rw [if_pos c34] at H
                                  have c34b0 : decide (x8_1 < (l1.length : Int)) = true := decide_eq_true c34
                                  clear c34
                                  have HC35 := Aside0.mk H
                                  clear H
                                  have p214 : 0 ≤ (x8_1 : Int) := of_decide_eq_true (by first | (with_reducible assumption) | assumption)
                                  have q214 : x8_1 < (l1.length : Int) := of_decide_eq_true (by first | (with_reducible assumption) | assumption)
                                  obtain ⟨ad214, e214, hx214_0⟩ := Kd.at_int HR1.out x8_1 p214 q214
                                  obtain rfl : ad204 = ad214 := (by injection e214)
                                  replace hx214_0 := (HB.out.cell (World.block_lt_of_cell? w _ hx214_0)).trans hx214_0
                                  replace p214 := eq_true p214
                                  replace q214 := eq_true q214
                                  go_upto_if 103 with (fail)
                                  go_cut [13] (fun v13 wc => ∃ (kq : Nat) (x13_34 : Int), v13 = .int .i64 x13_34 ∧ Aside0 (waybilllaw1_OctsReads.j4 kq l0 l1 x6_1 x7_1 x8_1 x13_34 x203000_1 x203001_1 = some r) ∧ Aside0 (kq ≤ kj29) ∧ Aside0 (Kd.V (Kd.int .u8) 5 wc w.heap.size (fun k_ => (P0_ k_ ∨ w.heap.size ≤ k_) ∧ k_ ≠ g202) (.slice A0 l0.length c0) l0) ∧ Aside0 (IsB91 w wc g202 x203000_1 x203001_1) ∧ Aside0 (Below w.heap.size w wc))
                                  case first => as_aux_lemma =>
                                    have H := HC35.out
                                    clear HC35
                                    by_cases c36 : (Go.bits .and .i64 (rd l1 x8_1) 3) = 2
                                    · rw [if_pos c36] at H
                                      have c36b0 : ((Go.bits .and .i64 (rd l1 x8_1) 3) == 2) = true := beq_iff_eq.mpr c36
                                      have c36b1 : ((Go.bits .and .i64 (rd l1 x8_1) 3) != 2) = false := bne_eq_false_iff_eq.mpr c36
                                      clear c36
                                      (first | rw [c36b0] | rw [c36b2] | (simp only [i64_w, i32_w]; rw [c36b0]) | skip)
                                      have H' := Aside0.mk H
                                      clear H
                                      go_wp2
                                      go_meet
                                      case rel => exact ⟨_, (4), (by first | rfl | (simp; done) | (simp [*]; done)), H', ⟨by have := HK1.out; have := HJ10.out; have := HJ29.out; first | omega | exact Nat.le_refl _⟩, ⟨by (with_reducible repeat (first | apply Kd.V_alloc | apply Kd.V_drewN | apply Kd.V_drew)); exact HO_0.out⟩, ⟨by repeat (first | (with_reducible first | exact HI202.out | apply IsB91.alloc | apply IsB91.drewN | apply IsB91.drew | apply IsB91.set_1) | exact HI202.out)⟩, ⟨by repeat (first | (with_reducible first | exact HB.out | apply below_alloc | apply pw_below_drewN | apply below_drew1 | refine below_set ?_ (IsB91.ge HI202.out)) | exact HB.out)⟩⟩
                                    · rw [if_neg c36] at H
                                      have c36b0 : ((Go.bits .and .i64 (rd l1 x8_1) 3) == 2) = false := beq_eq_false_iff_ne.mpr c36
                                      have c36b1 : ((Go.bits .and .i64 (rd l1 x8_1) 3) != 2) = true := bne_iff_ne.mpr c36
                                      (first | rw [c36b0] | rw [c36b2] | (simp only [i64_w, i32_w]; rw [c36b0]) | skip)
                                      have H' := Aside0.mk H
                                      clear H
                                      go_wp2
                                      go_meet
                                      case rel => exact ⟨_, (1), (by first | rfl | (simp; done) | (simp [*]; done)), H', ⟨by have := HK1.out; have := HJ10.out; have := HJ29.out; first | omega | exact Nat.le_refl _⟩, ⟨by (with_reducible repeat (first | apply Kd.V_alloc | apply Kd.V_drewN | apply Kd.V_drew)); exact HO_0.out⟩, ⟨by repeat (first | (with_reducible first | exact HI202.out | apply IsB91.alloc | apply IsB91.drewN | apply IsB91.drew | apply IsB91.set_1) | exact HI202.out)⟩, ⟨by repeat (first | (with_reducible first | exact HB.out | apply below_alloc | apply pw_below_drewN | apply below_drew1 | refine below_set ?_ (IsB91.ge HI202.out)) | exact HB.out)⟩⟩
                                  case rest => as_aux_lemma =>
                                    clear HC35
                                    try clear c1
                                    try clear c2
                                    try clear p2
                                    try clear q2
                                    try clear hx2
                                    try clear c3
                                    try clear c3b0
                                    try clear c3b1
                                    try clear p6
                                    try clear c7
                                    try clear c8
                                    try clear c12
                                    try clear c12b0
                                    try clear c13
                                    try clear c14
                                    try clear c14b0
                                    try clear c15
                                    try clear c15b0
                                    try clear c17
                                    try clear c17b0
                                    try clear c17b1
                                    try clear p20
                                    try clear q20
                                    try clear hx20
                                    try clear p21
                                    try clear q21
                                    try clear hx21
                                    try clear c22
                                    try clear c23
                                    try clear c25
                                    try clear c25b0
                                    try clear c25b1
                                    try clear c26
                                    try clear c28
                                    try clear c28b0
                                    try clear c28b1
                                    try clear c29
                                    try clear c31
                                    try clear c31b0
                                    try clear c31b1
                                    try clear c32
                                    try clear c33
                                    try clear c33b0
                                    try clear c34
                                    try clear c34b0
                                    try clear c36
                                    try clear c36b0
                                    try clear c36b1
                                    try clear hx204_0
                                    try clear hx205_0
                                    try clear hx214_0
                                    try clear p2
                                    try clear p20
                                    try clear p204
                                    try clear p205
                                    try clear p214
                                    try clear p6
                                    try clear q2
                                    try clear q20
                                    try clear q204
                                    try clear q205
                                    try clear q214
                                    obtain ⟨kq, x13_34, rfl, HA, HJ34, HO_0, HI202, HB⟩ := hcut
                                    cases kq with
                                    | zero => exact absurd HA.out (by simp [waybilllaw1_OctsReads.j4])
                                    | succ kj34 =>
                                      have H := HA.out
                                      clear HA
                                      simp only [waybilllaw1_OctsReads.j4] at H
                                      replace H := Option.bind_eq_some_iff.mp H
                                      obtain ⟨⟨t215, t218, t219⟩, A370, H⟩ := H
                                      replace H : (if x7_1 = true then (waybilllaw1_OctsReads.j5 kj34 l0 l1 x6_1 true x8_1 x13_34 t215 t218 x203000_1 x203001_1) else (waybilllaw1_OctsReads.j5 kj34 l0 l1 x6_1 (!t219) x8_1 x13_34 t215 t218 x203000_1 x203001_1)) = some r := H
                                      have A37 := Aside0.mk A370
                                      clear A370
                                      have HC38 := Aside0.mk H
                                      clear H
                                      go_upto_region 34 with (first | ((with_reducible refine gate_callee (f := 30) rfl ?_); refine goesL_ (some 108) rfl rfl Try.func30 (by kernel_rfl) rfl #[.slice A0 l0.length c0, .int .i64 x6_1, .int .i64 x13_34] rfl (by (try simp only [List.map_toArray, List.map_cons, List.map_nil]); first | done | rfl | (simp only [List.length_drop, List.length_take]; rfl)) ?_; (with_reducible refine (waybillref1_Text.calls kj34 (fun k_ => ((P0_ k_ ∨ w.heap.size ≤ k_) ∧ k_ ≠ g202)) _ _ l0 x6_1 x13_34 t215 t218 t219 _ ?side1 A37.out).mono ?_); (case side1 => exact HO_0.out); rintro e w39 ⟨v216, rfl, ho0, hb⟩; refine ⟨_, rfl, ?_⟩; have n0_ := Aside0.mk (Kd.V_below (by (with_reducible repeat (first | apply Kd.V_alloc | apply Kd.V_drewN | apply Kd.V_drew)); exact HO_0.out) hb); have n1_ := Aside0.mk (Kd.V_lower (Kd.V_mono (ok' := fun k_ => (P0_ k_ ∨ w.heap.size ≤ k_) ∧ k_ ≠ g202) ho0 (fun k_ hk_ => ⟨Or.elim hk_ (fun hs_ => hs_.1) (fun hn_ => (.inr (Nat.le_trans (below_size (by repeat (first | (with_reducible first | exact HB.out | apply below_alloc | apply pw_below_drewN | apply below_drew1 | refine below_set ?_ (IsB91.ge HI202.out)) | exact HB.out))) hn_))), Or.elim hk_ (fun hs_ => hs_.2) (fun hn_ => (IsB91.fresh (by repeat (first | (with_reducible first | exact HI202.out | apply IsB91.alloc | apply IsB91.drewN | apply IsB91.drew | apply IsB91.set_1) | exact HI202.out)) k_ hn_))⟩)) (below_size (by repeat (first | (with_reducible first | exact HB.out | apply below_alloc | apply pw_below_drewN | apply below_drew1 | refine below_set ?_ (IsB91.ge HI202.out)) | exact HB.out)))); have n2_ := Aside0.mk (IsB91.below (by repeat (first | (with_reducible first | exact HI202.out | apply IsB91.alloc | apply IsB91.drewN | apply IsB91.drew | apply IsB91.set_1) | exact HI202.out)) hb); have n3_ := Aside0.mk (below_step (by repeat (first | (with_reducible first | exact HB.out | apply below_alloc | apply pw_below_drewN | apply below_drew1 | refine below_set ?_ (IsB91.ge HI202.out)) | exact HB.out)) hb); clear HO_0; clear HI202; clear HB; have HO_0 := n0_; have HO217 := n1_; have HI202 := n2_; have HB := n3_; clear n0_ n1_ n2_ n3_; (try clear hb); (try clear hb2); (try clear hk); (try clear hi); (try clear hge); (try clear ho0)))
                                      (try simp only [Act.put, List.setIfInBounds_toArray, List.set_cons_zero, List.set_cons_succ])
                                      go_cut [7] (fun v7 wc => ∃ (kq : Nat) (x7_37 : Bool), v7 = .bool x7_37 ∧ Aside0 (waybilllaw1_OctsReads.j5 kq l0 l1 x6_1 x7_37 x8_1 x13_34 t215 t218 x203000_1 x203001_1 = some r) ∧ Aside0 (kq ≤ kj34) ∧ Aside0 (Kd.V (Kd.int .u8) 5 wc w.heap.size (fun k_ => (P0_ k_ ∨ w.heap.size ≤ k_) ∧ k_ ≠ g202) (.slice A0 l0.length c0) l0) ∧ Aside0 (Kd.V (Kd.int .u8) 5 wc w.heap.size (fun k_ => (P0_ k_ ∨ w.heap.size ≤ k_) ∧ k_ ≠ g202) v216 t215) ∧ Aside0 (IsB91 w wc g202 x203000_1 x203001_1) ∧ Aside0 (Below w.heap.size w wc))
                                      case first => as_aux_lemma =>
                                        have H := HC38.out
                                        clear HC38
                                        by_cases c40 : x7_1 = true
                                        · subst c40
                                          have H1 : (waybilllaw1_OctsReads.j5 kj34 l0 l1 x6_1 true x8_1 x13_34 t215 t218 x203000_1 x203001_1) = some r := by rw [if_pos rfl] at H; exact H
                                          clear H
                                          have H := H1
                                          clear H1
                                          have H' := Aside0.mk H
                                          clear H
                                          go_wp2
                                          go_meet
                                          case rel => exact ⟨_, (true), (by first | rfl | (simp; done) | (simp [*]; done)), H', ⟨by have := HK1.out; have := HJ10.out; have := HJ29.out; have := HJ34.out; first | omega | exact Nat.le_refl _⟩, ⟨by (with_reducible repeat (first | apply Kd.V_alloc | apply Kd.V_drewN | apply Kd.V_drew)); exact HO_0.out⟩, ⟨by (with_reducible repeat (first | apply Kd.V_alloc | apply Kd.V_drewN | apply Kd.V_drew)); exact HO217.out⟩, ⟨by repeat (first | (with_reducible first | exact HI202.out | apply IsB91.alloc | apply IsB91.drewN | apply IsB91.drew | apply IsB91.set_1) | exact HI202.out)⟩, ⟨by repeat (first | (with_reducible first | exact HB.out | apply below_alloc | apply pw_below_drewN | apply below_drew1 | refine below_set ?_ (IsB91.ge HI202.out)) | exact HB.out)⟩⟩
                                        · replace c40 := Bool.eq_false_iff.mpr c40
                                          subst c40
                                          have H1 : (waybilllaw1_OctsReads.j5 kj34 l0 l1 x6_1 (!t219) x8_1 x13_34 t215 t218 x203000_1 x203001_1) = some r := by rw [if_neg (show ¬ (false = true) by decide)] at H; exact H
                                          clear H
                                          have H := H1
                                          clear H1
                                          have H' := Aside0.mk H
                                          clear H
                                          go_wp2
                                          go_meet
                                          case rel => exact ⟨_, (!t219), (by first | rfl | (simp; done) | (simp [*]; done)), H', ⟨by have := HK1.out; have := HJ10.out; have := HJ29.out; have := HJ34.out; first | omega | exact Nat.le_refl _⟩, ⟨by (with_reducible repeat (first | apply Kd.V_alloc | apply Kd.V_drewN | apply Kd.V_drew)); exact HO_0.out⟩, ⟨by (with_reducible repeat (first | apply Kd.V_alloc | apply Kd.V_drewN | apply Kd.V_drew)); exact HO217.out⟩, ⟨by repeat (first | (with_reducible first | exact HI202.out | apply IsB91.alloc | apply IsB91.drewN | apply IsB91.drew | apply IsB91.set_1) | exact HI202.out)⟩, ⟨by repeat (first | (with_reducible first | exact HB.out | apply below_alloc | apply pw_below_drewN | apply below_drew1 | refine below_set ?_ (IsB91.ge HI202.out)) | exact HB.out)⟩⟩
                                      case rest => as_aux_lemma =>
                                        clear HC38
                                        try clear c1
                                        try clear c2
                                        try clear p2
                                        try clear q2
                                        try clear hx2
                                        try clear c3
                                        try clear c3b0
                                        try clear c3b1
                                        try clear c4
                                        try clear p6
                                        try clear c7
                                        try clear c8
                                        try clear c12
                                        try clear c12b0
                                        try clear c13
                                        try clear c14
                                        try clear c14b0
                                        try clear c15
                                        try clear c15b0
                                        try clear c17
                                        try clear c17b0
                                        try clear c17b1
                                        try clear p20
                                        try clear q20
                                        try clear hx20
                                        try clear p21
                                        try clear q21
                                        try clear hx21
                                        try clear c22
                                        try clear c23
                                        try clear c25
                                        try clear c25b0
                                        try clear c25b1
                                        try clear c26
                                        try clear c28
                                        try clear c28b0
                                        try clear c28b1
                                        try clear c29
                                        try clear c30
                                        try clear c31
                                        try clear c31b0
                                        try clear c31b1
                                        try clear c32
                                        try clear c33
                                        try clear c33b0
                                        try clear c34
                                        try clear c34b0
                                        try clear c36
                                        try clear c36b0
                                        try clear c36b1
                                        try clear c40
                                        try clear hx204_0
                                        try clear hx205_0
                                        try clear hx214_0
                                        try clear p2
                                        try clear p20
                                        try clear p204
                                        try clear p205
                                        try clear p21
                                        try clear p214
                                        try clear p6
                                        try clear q2
                                        try clear q20
                                        try clear q204
                                        try clear q205
                                        try clear q21
                                        try clear q214
                                        obtain ⟨kq, x7_37, rfl, HA, HJ37, HO_0, HO_14, HI202, HB⟩ := hcut
                                        cases kq with
                                        | zero => exact absurd HA.out (by simp [waybilllaw1_OctsReads.j5])
                                        | succ kj37 =>
                                          have H := HA.out
                                          clear HA
                                          simp only [waybilllaw1_OctsReads.j5] at H
                                          have HC41 := Aside0.mk H
                                          clear H
                                          go_upto_if 117 with (fail)
                                          go_cut [6, 14] (fun v6 v14 wc => ∃ (kq : Nat) (x6_40 : Int) (x14_40 : List Int), v6 = .int .i64 x6_40 ∧ Aside0 (waybilllaw1_OctsReads.j6 kq l0 l1 x6_40 x7_37 x8_1 x13_34 x14_40 x203000_1 x203001_1 = some r) ∧ Aside0 (kq ≤ kj37) ∧ Aside0 (Kd.V (Kd.int .u8) 5 wc w.heap.size (fun k_ => (P0_ k_ ∨ w.heap.size ≤ k_) ∧ k_ ≠ g202) (.slice A0 l0.length c0) l0) ∧ Aside0 (Kd.V (Kd.int .u8) 5 wc w.heap.size (fun k_ => (P0_ k_ ∨ w.heap.size ≤ k_) ∧ k_ ≠ g202) v14 x14_40) ∧ Aside0 (IsB91 w wc g202 x203000_1 x203001_1) ∧ Aside0 (Below w.heap.size w wc))
                                          case first => as_aux_lemma =>
                                            have H := HC41.out
                                            clear HC41
                                            by_cases c42 : x7_37 = true
                                            · subst c42
                                              have H1 : (waybilllaw1_OctsReads.j6 kj37 l0 l1 x6_1 true x8_1 x13_34 ([] : List Int) x203000_1 x203001_1) = some r := by rw [if_pos rfl] at H; exact H
                                              clear H
                                              have H := H1
                                              clear H1
                                              have H' := Aside0.mk H
                                              clear H
                                              go_wp2
                                              go_meet
                                              case rel => exact ⟨_, (x6_1), (([] : List Int)), (by first | rfl | (simp; done) | (simp [*]; done)), H', ⟨by have := HK1.out; have := HJ10.out; have := HJ29.out; have := HJ34.out; have := HJ37.out; first | omega | exact Nat.le_refl _⟩, ⟨by (with_reducible repeat (first | apply Kd.V_alloc | apply Kd.V_drewN | apply Kd.V_drew)); exact HO_0.out⟩, ⟨(Kd.V_nil _ _ _ _ _)⟩, ⟨by repeat (first | (with_reducible first | exact HI202.out | apply IsB91.alloc | apply IsB91.drewN | apply IsB91.drew | apply IsB91.set_1) | exact HI202.out)⟩, ⟨by repeat (first | (with_reducible first | exact HB.out | apply below_alloc | apply pw_below_drewN | apply below_drew1 | refine below_set ?_ (IsB91.ge HI202.out)) | exact HB.out)⟩⟩
                                            · replace c42 := Bool.eq_false_iff.mpr c42
                                              subst c42
                                              have H1 : (waybilllaw1_OctsReads.j6 kj37 l0 l1 t218 false x8_1 x13_34 t215 x203000_1 x203001_1) = some r := by rw [if_neg (show ¬ (false = true) by decide)] at H; exact H
                                              clear H
                                              have H := H1
                                              clear H1
                                              have H' := Aside0.mk H
                                              clear H
                                              go_wp2
                                              go_meet
                                              case rel => exact ⟨_, (t218), (t215), (by first | rfl | (simp; done) | (simp [*]; done)), H', ⟨by have := HK1.out; have := HJ10.out; have := HJ29.out; have := HJ34.out; have := HJ37.out; first | omega | exact Nat.le_refl _⟩, ⟨by (with_reducible repeat (first | apply Kd.V_alloc | apply Kd.V_drewN | apply Kd.V_drew)); exact HO_0.out⟩, ⟨by (with_reducible repeat (first | apply Kd.V_alloc | apply Kd.V_drewN | apply Kd.V_drew)); exact HO_14.out⟩, ⟨by repeat (first | (with_reducible first | exact HI202.out | apply IsB91.alloc | apply IsB91.drewN | apply IsB91.drew | apply IsB91.set_1) | exact HI202.out)⟩, ⟨by repeat (first | (with_reducible first | exact HB.out | apply below_alloc | apply pw_below_drewN | apply below_drew1 | refine below_set ?_ (IsB91.ge HI202.out)) | exact HB.out)⟩⟩
                                          case rest => as_aux_lemma =>
                                            clear HC41
                                            try clear c1
                                            try clear c2
                                            try clear p2
                                            try clear q2
                                            try clear hx2
                                            try clear c3
                                            try clear c3b0
                                            try clear c3b1
                                            try clear c4
                                            try clear p6
                                            try clear c7
                                            try clear c8
                                            try clear c12
                                            try clear c12b0
                                            try clear c13
                                            try clear c14
                                            try clear c14b0
                                            try clear c15
                                            try clear c15b0
                                            try clear c17
                                            try clear c17b0
                                            try clear c17b1
                                            try clear p20
                                            try clear q20
                                            try clear hx20
                                            try clear p21
                                            try clear q21
                                            try clear hx21
                                            try clear c22
                                            try clear c23
                                            try clear c25
                                            try clear c25b0
                                            try clear c25b1
                                            try clear c26
                                            try clear c28
                                            try clear c28b0
                                            try clear c28b1
                                            try clear c29
                                            try clear c30
                                            try clear c31
                                            try clear c31b0
                                            try clear c31b1
                                            try clear c32
                                            try clear c33
                                            try clear c33b0
                                            try clear c34
                                            try clear c34b0
                                            try clear c36
                                            try clear c36b0
                                            try clear c36b1
                                            try clear c40
                                            try clear c42
                                            try clear hx204_0
                                            try clear hx205_0
                                            try clear hx214_0
                                            try clear p2
                                            try clear p20
                                            try clear p204
                                            try clear p205
                                            try clear p21
                                            try clear p214
                                            try clear p6
                                            try clear q2
                                            try clear q20
                                            try clear q204
                                            try clear q205
                                            try clear q21
                                            try clear q214
                                            obtain ⟨kq, x6_40, x14_40, rfl, HA, HJ40, HO_0, HO_14, HI202, HB⟩ := hcut
                                            cases kq with
                                            | zero => exact absurd HA.out (by simp [waybilllaw1_OctsReads.j6])
                                            | succ kj40 =>
                                              have H := HA.out
                                              clear HA
                                              simp only [waybilllaw1_OctsReads.j6] at H
                                              by_cases c43 : x13_34 = 1
                                              · rw [if_pos c43] at H
                                                have c43b0 : (x13_34 == 1) = true := beq_iff_eq.mpr c43
                                                have c43b1 : (x13_34 != 1) = false := bne_eq_false_iff_eq.mpr c43
                                                clear c43
                                                replace H := Option.bind_eq_some_iff.mp H
                                                obtain ⟨⟨t220, t221, t222⟩, A440, H⟩ := H
                                                replace H : (if t220.toList = (strOfNums x14_40).toList then (if x13_34 = 4 then ((octs_In_Long.f kj40 t221 t222).bind fun bt223 => ((waybilllaw1_SameBytes.f bt223.1 x14_40).bind fun t228 => (if t228 = true then (waybilllaw1_OctsReads.j8 kj40 l0 l1 x6_40 x7_37 x8_1 bt223.2.1 bt223.2.2) else (none)))) else (waybilllaw1_OctsReads.j8 kj40 l0 l1 x6_40 x7_37 x8_1 t221 t222)) else (none)) = some r := H
                                                have A44 := Aside0.mk A440
                                                clear A440
                                                by_cases c45 : t220.toList = (strOfNums x14_40).toList
                                                · rw [if_pos c45] at H
                                                  have c45b0 : (t220.toList == (strOfNums x14_40).toList) = true := beq_iff_eq.mpr c45
                                                  have c45b1 : (t220.toList != (strOfNums x14_40).toList) = false := bne_eq_false_iff_eq.mpr c45
                                                  clear c45
                                                  by_cases c46 : x13_34 = 4
                                                  · rw [if_pos c46] at H
                                                    have c46b0 : (x13_34 == 4) = true := beq_iff_eq.mpr c46
                                                    have c46b1 : (x13_34 != 4) = false := bne_eq_false_iff_eq.mpr c46
                                                    clear c46
                                                    replace H := Option.bind_eq_some_iff.mp H
                                                    obtain ⟨⟨t223, t226, t227⟩, A470, H⟩ := H
                                                    replace H : ((waybilllaw1_SameBytes.f t223 x14_40).bind fun t228 => (if t228 = true then (waybilllaw1_OctsReads.j8 kj40 l0 l1 x6_40 x7_37 x8_1 t226 t227) else (none))) = some r := H
                                                    have A47 := Aside0.mk A470
                                                    clear A470
                                                    replace H := Option.bind_eq_some_iff.mp H
                                                    obtain ⟨t228, A480, H⟩ := H
                                                    replace H : (if t228 = true then (waybilllaw1_OctsReads.j8 kj40 l0 l1 x6_40 x7_37 x8_1 t226 t227) else (none)) = some r := H
                                                    have A48 := Aside0.mk A480
                                                    clear A480
                                                    by_cases c49 : t228 = true
                                                    · subst c49
                                                      have H1 : (waybilllaw1_OctsReads.j8 kj40 l0 l1 x6_40 x7_37 x8_1 t226 t227) = some r := by rw [if_pos rfl] at H; exact H
                                                      clear H
                                                      have H := H1
                                                      clear H1
                                                      have H' := Aside0.mk H
                                                      clear H
                                                      obtain ⟨Ao50, co50, eo50⟩ := Kd.V_slice HO_14.out
                                                      subst eo50
                                                      try go_wp2
                                                      have n0_ := Aside0.mk (Kd.V_drew HO_0.out)
                                                      have n1_ := Aside0.mk (Kd.V_drew HO_14.out)
                                                      have n2_ := Aside0.mk (IsB91.drew HI202.out)
                                                      have n3_ := Aside0.mk (below_drew1 HB.out)
                                                      clear HO_0
                                                      clear HO_14
                                                      clear HI202
                                                      clear HB
                                                      have HO_0 := n0_
                                                      have HO_14 := n1_
                                                      have HI202 := n2_
                                                      have HB := n3_
                                                      clear n0_ n1_ n2_ n3_
                                                      refine start_ (n := 20) (S := fun w' => (convert 26 9 (Value.slice Ao50 x14_40.length co50)).run Try.prog w' = .ok (.string (strOfNums x14_40)) w') (ds := []) #[false, false, false, false, false, false, false, false, false, false, false, false, false, false, false, false, false, false, false, false] (by kernel_rfl) rfl rfl ((Kd.C_string (P := Try.prog) (A := Ao50) (c := co50) Try.underlying26 Try.underlying5 Try.underlying9 ((Kd.V_reads' HO_14.out).2.2))) (fun hHeld => ?_); refine with_tabW waybilllaw1_OctsReads.tab38 waybilllaw1_OctsReads.bits38 (fun HT_ HW_ => ?_)
                                                      generalize wc.drew = w51 at HO_0 HO_14 HI202 HB hHeld ⊢
                                                      refine pure_ (i := 0) (N := some 119) (v := ?_) (a' := ?_) #[true, false, false, false, false, false, false, false, false, false, false, false, false, false, false, false, false, false, false, false] rfl rfl (any_of HT_.out (by kernel_rfl)) (fun _ _ _ h => h) (Or.inl ⟨by rfl, ?_⟩) ?_ ?_
                                                      rotate_left
                                                      · intro w'
                                                        go_simp
                                                        with_reducible rfl
                                                      rotate_left
                                                      · simp only [Act.put, List.setIfInBounds_toArray, List.set_cons_zero, List.set_cons_succ, i64_w, i32_w]
                                                        rfl
                                                      refine pure_ (i := 1) (N := some 120) (v := ?_) (a' := ?_) #[true, true, false, false, false, false, false, false, false, false, false, false, false, false, false, false, false, false, false, false] rfl rfl (any_of HT_.out (by kernel_rfl)) (fun _ _ _ h => h) (Or.inl ⟨by rfl, ?_⟩) ?_ ?_
                                                      rotate_left
                                                      · intro w'
                                                        go_simp
                                                        with_reducible rfl
                                                      rotate_left
                                                      · simp only [Act.put, List.setIfInBounds_toArray, List.set_cons_zero, List.set_cons_succ, i64_w, i32_w]
                                                        rfl
                                                      refine pure_ (i := 2) (N := some 121) (v := ?_) (a' := ?_) #[true, true, true, false, false, false, false, false, false, false, false, false, false, false, false, false, false, false, false, false] rfl rfl (any_of HT_.out (by kernel_rfl)) (fun _ _ _ h => h) (Or.inl ⟨by rfl, ?_⟩) ?_ ?_
                                                      rotate_left
                                                      · intro w'
                                                        go_simp
                                                        with_reducible rfl
                                                      rotate_left
                                                      · simp only [Act.put, List.setIfInBounds_toArray, List.set_cons_zero, List.set_cons_succ, i64_w, i32_w]
                                                        rfl
                                                      refine pure_ (i := 3) (N := some 122) (v := ?_) (a' := ?_) #[true, true, true, true, false, false, false, false, false, false, false, false, false, false, false, false, false, false, false, false] rfl rfl (any_of HT_.out (by kernel_rfl)) (fun _ _ _ h => h) (Or.inl ⟨by rfl, ?_⟩) ?_ ?_
                                                      rotate_left
                                                      · intro w'
                                                        go_simp
                                                        with_reducible rfl
                                                      rotate_left
                                                      · simp only [Act.put, List.setIfInBounds_toArray, List.set_cons_zero, List.set_cons_succ, i64_w, i32_w]
                                                        rfl
                                                      refine pure_ (i := 5) (N := some 124) (v := ?_) (a' := ?_) #[true, true, true, true, false, true, false, false, false, false, false, false, false, false, false, false, false, false, false, false] rfl rfl (any_of HT_.out (by kernel_rfl)) (fun _ _ _ h => h) (Or.inl ⟨by rfl, ?_⟩) ?_ ?_
                                                      rotate_left
                                                      · intro w'
                                                        go_simp
                                                        with_reducible rfl
                                                      rotate_left
                                                      · simp only [Act.put, List.setIfInBounds_toArray, List.set_cons_zero, List.set_cons_succ, i64_w, i32_w]
                                                        rfl
                                                      refine take_ (i := 6) (N := some 125) (v := ?_) (a' := ?_) #[true, true, true, true, false, true, true, false, false, false, false, false, false, false, false, false, false, false, false, false] rfl rfl (take_ofW HT_.out HW_.out (by kernel_rfl)) (fun _ _ _ h => h) (Or.inl ⟨by rfl, ?_⟩) hHeld ?_ ?_
                                                      rotate_left
                                                      · intro w' s0
                                                        go_simp
                                                        with_reducible rfl
                                                      rotate_left
                                                      · simp only [Act.put, List.setIfInBounds_toArray, List.set_cons_zero, List.set_cons_succ, i64_w, i32_w]
                                                        rfl
                                                      refine one_ (i := 4) (N := some 123) #[true, true, true, true, true, true, true, false, false, false, false, false, false, false, false, false, false, false, false, false] rfl rfl (one_of HT_.out (by kernel_rfl)) (by decide) (fun K hK => ?_)
                                                      refine goes_ Try.func31 (by kernel_rfl) rfl #[.pointer (some ⟨g202, 0, none⟩)] (by rfl) rfl rfl (by (try simp only [List.map_toArray, List.map_cons, List.map_nil]); first | done | rfl | (simp only [List.length_drop, List.length_take]; rfl)) ?_
                                                      with_reducible refine (octs_In_Short.callsB kj40 g202 x203000_1 x203001_1 t220 t221 t222 w _ ?side1 ?side2 A44.out).mono ?_
                                                      (case side1 => repeat (first | (with_reducible first | exact HI202.out | apply IsB91.alloc | apply IsB91.drewN | apply IsB91.drew | apply IsB91.set_1) | exact HI202.out))
                                                      (case side2 => repeat (first | (with_reducible first | exact HB.out | apply below_alloc | apply pw_below_drewN | apply below_drew1 | refine below_set ?_ (IsB91.ge HI202.out)) | exact HB.out))
                                                      rintro e w52 ⟨rfl, hi, hb, hk⟩
                                                      refine ⟨_, rfl, ?_⟩
                                                      have n0_ := Aside0.mk (Kd.V_mono (Kd.V_keep (Kd.V_mono (ok := fun k_ => (((P0_ k_ ∨ w.heap.size ≤ k_)) ∧ k_ ≠ g202)) (by (with_reducible repeat (first | apply Kd.V_alloc | apply Kd.V_drewN | apply Kd.V_drew)); exact HO_0.out) (fun k_ hk_ => (⟨hk_, hk_.2⟩ : _ ∧ k_ ≠ g202))) hk (fun _ h => h.2)) (fun _ h => h.1))
                                                      have n1_ := Aside0.mk (Kd.V_mono (Kd.V_keep (Kd.V_mono (ok := fun k_ => (((P0_ k_ ∨ w.heap.size ≤ k_)) ∧ k_ ≠ g202)) (by (with_reducible repeat (first | apply Kd.V_alloc | apply Kd.V_drewN | apply Kd.V_drew)); exact HO_14.out) (fun k_ hk_ => (⟨hk_, hk_.2⟩ : _ ∧ k_ ≠ g202))) hk (fun _ h => h.2)) (fun _ h => h.1))
                                                      have n2_ := Aside0.mk (hb)
                                                      have n3_ := Aside0.mk (hi)
                                                      clear HO_0
                                                      clear HO_14
                                                      clear HB
                                                      clear HI202
                                                      have HO_0 := n0_
                                                      have HO_14 := n1_
                                                      have HB := n2_
                                                      have HI202 := n3_
                                                      clear n0_ n1_ n2_ n3_
                                                      (try clear hb)
                                                      (try clear hb2)
                                                      (try clear hk)
                                                      (try clear hi)
                                                      (try clear hge)
                                                      refine hK.out _ _ ((Kd.C_string (P := Try.prog) (A := Ao50) (c := co50) Try.underlying26 Try.underlying5 Try.underlying9 ((Kd.V_reads' HO_14.out).2.2))) (fun hHeld => ?_)
                                                      clear hK K
                                                      refine norm_ (a' := ?_) ?_ ?_
                                                      rotate_left
                                                      · show Act.put _ (some 123) _ = _
                                                        simp only [Act.put, List.setIfInBounds_toArray, List.set_cons_zero, List.set_cons_succ, i64_w, i32_w]
                                                        rfl
                                                      refine pure_ (i := 7) (N := some 126) (v := ?_) (a' := ?_) #[true, true, true, true, true, true, true, true, false, false, false, false, false, false, false, false, false, false, false, false] rfl rfl (any_of HT_.out (by kernel_rfl)) (fun _ _ _ h => h) (Or.inl ⟨by rfl, ?_⟩) ?_ ?_
                                                      rotate_left
                                                      · intro w'
                                                        go_simp
                                                        with_reducible rfl
                                                      rotate_left
                                                      · simp only [Act.put, List.setIfInBounds_toArray, List.set_cons_zero, List.set_cons_succ, i64_w, i32_w]
                                                        rfl
                                                      refine pure_ (i := 8) (N := some 127) (v := ?_) (a' := ?_) #[true, true, true, true, true, true, true, true, true, false, false, false, false, false, false, false, false, false, false, false] rfl rfl (any_of HT_.out (by kernel_rfl)) (fun _ _ _ h => h) (Or.inl ⟨by rfl, ?_⟩) ?_ ?_
                                                      rotate_left
                                                      · intro w'
                                                        go_simp
                                                        with_reducible rfl
                                                      rotate_left
                                                      · simp only [Act.put, List.setIfInBounds_toArray, List.set_cons_zero, List.set_cons_succ, i64_w, i32_w]
                                                        rfl
                                                      refine pure_ (i := 9) (N := some 128) (v := ?_) (a' := ?_) #[true, true, true, true, true, true, true, true, true, true, false, false, false, false, false, false, false, false, false, false] rfl rfl (any_of HT_.out (by kernel_rfl)) (fun _ _ _ h => h) (Or.inl ⟨by rfl, ?_⟩) ?_ ?_
                                                      rotate_left
                                                      · intro w'
                                                        go_simp
                                                        with_reducible rfl
                                                      rotate_left
                                                      · simp only [Act.put, List.setIfInBounds_toArray, List.set_cons_zero, List.set_cons_succ, i64_w, i32_w]
                                                        rfl
                                                      refine pure_ (i := 10) (N := some 129) (v := ?_) (a' := ?_) #[true, true, true, true, true, true, true, true, true, true, true, false, false, false, false, false, false, false, false, false] rfl rfl (any_of HT_.out (by kernel_rfl)) (fun _ _ _ h => h) (Or.inl ⟨by rfl, ?_⟩) ?_ ?_
                                                      rotate_left
                                                      · intro w'
                                                        go_simp
                                                        with_reducible rfl
                                                      rotate_left
                                                      · simp only [Act.put, List.setIfInBounds_toArray, List.set_cons_zero, List.set_cons_succ, i64_w, i32_w]
                                                        rfl
                                                      refine pure_ (i := 11) (N := some 130) (v := ?_) (a' := ?_) #[true, true, true, true, true, true, true, true, true, true, true, true, false, false, false, false, false, false, false, false] rfl rfl (any_of HT_.out (by kernel_rfl)) (fun _ _ _ h => h) (Or.inl ⟨by rfl, ?_⟩) ?_ ?_
                                                      rotate_left
                                                      · intro w'
                                                        go_simp
                                                        with_reducible rfl
                                                      rotate_left
                                                      · simp only [Act.put, List.setIfInBounds_toArray, List.set_cons_zero, List.set_cons_succ, i64_w, i32_w]
                                                        rfl
                                                      refine pure_ (i := 12) (N := some 131) (v := ?_) (a' := ?_) #[true, true, true, true, true, true, true, true, true, true, true, true, true, false, false, false, false, false, false, false] rfl rfl (any_of HT_.out (by kernel_rfl)) (fun _ _ _ h => h) (Or.inl ⟨by rfl, ?_⟩) ?_ ?_
                                                      rotate_left
                                                      · intro w'
                                                        go_simp
                                                        with_reducible rfl
                                                      rotate_left
                                                      · simp only [Act.put, List.setIfInBounds_toArray, List.set_cons_zero, List.set_cons_succ, i64_w, i32_w]
                                                        rfl
                                                      refine pure_ (i := 13) (N := some 132) (v := ?_) (a' := ?_) #[true, true, true, true, true, true, true, true, true, true, true, true, true, true, false, false, false, false, false, false] rfl rfl (any_of HT_.out (by kernel_rfl)) (fun _ _ _ h => h) (Or.inl ⟨by rfl, ?_⟩) ?_ ?_
                                                      rotate_left
                                                      · intro w'
                                                        go_simp
                                                        with_reducible rfl
                                                      rotate_left
                                                      · simp only [Act.put, List.setIfInBounds_toArray, List.set_cons_zero, List.set_cons_succ, i64_w, i32_w]
                                                        rfl
                                                      refine pure_ (i := 15) (N := some 134) (v := ?_) (a' := ?_) #[true, true, true, true, true, true, true, true, true, true, true, true, true, true, false, true, false, false, false, false] rfl rfl (any_of HT_.out (by kernel_rfl)) (fun _ _ _ h => h) (Or.inl ⟨by rfl, ?_⟩) ?_ ?_
                                                      rotate_left
                                                      · intro w'
                                                        go_simp
                                                        with_reducible rfl
                                                      rotate_left
                                                      · simp only [Act.put, List.setIfInBounds_toArray, List.set_cons_zero, List.set_cons_succ, i64_w, i32_w]
                                                        rfl
                                                      refine one_ (i := 14) (N := some 133) #[true, true, true, true, true, true, true, true, true, true, true, true, true, true, true, true, false, false, false, false] rfl rfl (one_of HT_.out (by kernel_rfl)) (by decide) (fun K hK => ?_)
                                                      refine goes_ Try.func33 (by kernel_rfl) rfl #[.pointer (some ⟨g202, 0, none⟩)] (by rfl) rfl rfl (by (try simp only [List.map_toArray, List.map_cons, List.map_nil]); first | done | rfl | (simp only [List.length_drop, List.length_take]; rfl)) ?_
                                                      with_reducible refine (octs_In_Long.callsB kj40 g202 t221 t222 t223 t226 t227 w _ ?side1 ?side2 A47.out).mono ?_
                                                      (case side1 => repeat (first | (with_reducible first | exact HI202.out | apply IsB91.alloc | apply IsB91.drewN | apply IsB91.drew | apply IsB91.set_1) | exact HI202.out))
                                                      (case side2 => repeat (first | (with_reducible first | exact HB.out | apply below_alloc | apply pw_below_drewN | apply below_drew1 | refine below_set ?_ (IsB91.ge HI202.out)) | exact HB.out))
                                                      rintro e w53 ⟨v224, rfl, ho0, hi, hb, hk⟩
                                                      refine ⟨_, rfl, ?_⟩
                                                      have n0_ := Aside0.mk (Kd.V_mono (Kd.V_told (Kd.V_oldK (Kd.V_mono (ok := fun k_ => (((P0_ k_ ∨ w.heap.size ≤ k_)) ∧ k_ ≠ g202)) (by (with_reducible repeat (first | apply Kd.V_alloc | apply Kd.V_drewN | apply Kd.V_drew)); exact HO_0.out) (fun k_ hk_ => (⟨hk_, hk_.2⟩ : _ ∧ k_ ≠ g202))) hk) (Kd.R_base ho0)) (fun _ h_ => h_.1))
                                                      have n1_ := Aside0.mk (Kd.V_mono (Kd.V_told (Kd.V_oldK (Kd.V_mono (ok := fun k_ => (((P0_ k_ ∨ w.heap.size ≤ k_)) ∧ k_ ≠ g202)) (by (with_reducible repeat (first | apply Kd.V_alloc | apply Kd.V_drewN | apply Kd.V_drew)); exact HO_14.out) (fun k_ hk_ => (⟨hk_, hk_.2⟩ : _ ∧ k_ ≠ g202))) hk) (Kd.R_base ho0)) (fun _ h_ => h_.1))
                                                      have n2_ := Aside0.mk (Kd.R_lower (Kd.R_newM (M := fun k_ => (w.heap.size ≤ k_)) ho0 (below_size (by repeat (first | (with_reducible first | exact HB.out | apply below_alloc | apply pw_below_drewN | apply below_drew1 | refine below_set ?_ (IsB91.ge HI202.out)) | exact HB.out))) (fun k_ h_ => h_)) (below_size (by repeat (first | (with_reducible first | exact HB.out | apply below_alloc | apply pw_below_drewN | apply below_drew1 | refine below_set ?_ (IsB91.ge HI202.out)) | exact HB.out))))
                                                      have n3_ := Aside0.mk (hb)
                                                      have n4_ := Aside0.mk (hi)
                                                      clear HO_0
                                                      clear HO_14
                                                      clear HB
                                                      clear HI202
                                                      have HO_0 := n0_
                                                      have HO_14 := n1_
                                                      have HO225 := n2_
                                                      have HB := n3_
                                                      have HI202 := n4_
                                                      clear n0_ n1_ n2_ n3_ n4_
                                                      (try clear hb)
                                                      (try clear hb2)
                                                      (try clear hk)
                                                      (try clear hi)
                                                      (try clear hge)
                                                      (try clear ho0)
                                                      obtain ⟨Ao54, co54, eo54⟩ := Kd.R_slice HO225.out
                                                      (first | subst eo54 | (injection eo54 with f1_ f2_ f3_; have f4_ := f1_.symm; have f5_ := f3_.symm; clear f1_ f2_ f3_; subst f4_; subst f5_))
                                                      refine hK.out _ _ ((Kd.C_string (P := Try.prog) (A := Ao50) (c := co50) Try.underlying26 Try.underlying5 Try.underlying9 ((Kd.V_reads' HO_14.out).2.2))) (fun hHeld => ?_)
                                                      clear hK K
                                                      refine norm_ (a' := ?_) ?_ ?_
                                                      rotate_left
                                                      · show Act.put _ (some 133) _ = _
                                                        simp only [Act.put, List.setIfInBounds_toArray, List.set_cons_zero, List.set_cons_succ, i64_w, i32_w]
                                                        rfl
                                                      refine one_ (i := 16) (N := some 135) #[true, true, true, true, true, true, true, true, true, true, true, true, true, true, true, true, true, false, false, false] rfl rfl (one_of HT_.out (by kernel_rfl)) (by decide) (fun K hK => ?_)
                                                      refine goes_ Try.func32 (by kernel_rfl) rfl #[.slice Ao54 t223.length co54, .slice Ao50 x14_40.length co50] (by rfl) rfl rfl (by (try simp only [List.map_toArray, List.map_cons, List.map_nil]); first | done | rfl | (simp only [List.length_drop, List.length_take]; rfl)) ?_
                                                      with_reducible refine (waybilllaw1_SameBytes.calls _ _ t223 _ _ x14_40 true _ ?side1 ?side2 ?side3 ?side4 A48.out).mono ?_
                                                      (case side1 => repeat (first | exact (Kd.R_reads' HO225.out).2.2 | (with_reducible refine Kd.C_alloc ?_ _) | (with_reducible refine Kd.C_drewN ?_ _) | (with_reducible refine Kd.C_drew ?_)))
                                                      (case side2 => exact (Kd.R_reads' HO225.out).2.1)
                                                      (case side3 => repeat (first | exact (Kd.V_reads' HO_14.out).2.2 | (with_reducible refine Kd.C_alloc ?_ _) | (with_reducible refine Kd.C_drewN ?_ _) | (with_reducible refine Kd.C_drew ?_)))
                                                      (case side4 => exact (Kd.V_reads' HO_14.out).2.1)
                                                      rintro e w' ⟨rfl, ⟨nd, rfl⟩⟩
                                                      refine ⟨_, rfl, ?_⟩
                                                      refine hK.out _ _ ((Kd.C_string (P := Try.prog) (A := Ao50) (c := co50) Try.underlying26 Try.underlying5 Try.underlying9 ((Kd.V_reads' HO_14.out).2.2))) (fun hHeld => ?_)
                                                      clear hK K
                                                      refine norm_ (a' := ?_) ?_ ?_
                                                      rotate_left
                                                      · show Act.put _ (some 135) _ = _
                                                        simp only [Act.put, List.setIfInBounds_toArray, List.set_cons_zero, List.set_cons_succ, i64_w, i32_w]
                                                        rfl
                                                      refine pure_ (i := 17) (N := some 136) (v := ?_) (a' := ?_) #[true, true, true, true, true, true, true, true, true, true, true, true, true, true, true, true, true, true, false, false] rfl rfl (any_of HT_.out (by kernel_rfl)) (fun _ _ _ h => h) (Or.inl ⟨by rfl, ?_⟩) ?_ ?_
                                                      rotate_left
                                                      · intro w'
                                                        go_simp
                                                        with_reducible rfl
                                                      rotate_left
                                                      · simp only [Act.put, List.setIfInBounds_toArray, List.set_cons_zero, List.set_cons_succ, i64_w, i32_w]
                                                        rfl
                                                      refine pure_ (i := 18) (N := some 137) (v := ?_) (a' := ?_) #[true, true, true, true, true, true, true, true, true, true, true, true, true, true, true, true, true, true, true, false] rfl rfl (any_of HT_.out (by kernel_rfl)) (fun _ _ _ h => h) (Or.inl ⟨by rfl, ?_⟩) ?_ ?_
                                                      rotate_left
                                                      · intro w'
                                                        go_simp
                                                        with_reducible rfl
                                                      rotate_left
                                                      · simp only [Act.put, List.setIfInBounds_toArray, List.set_cons_zero, List.set_cons_succ, i64_w, i32_w]
                                                        rfl
                                                      refine pure_ (i := 19) (N := some 138) (v := ?_) (a' := ?_) #[true, true, true, true, true, true, true, true, true, true, true, true, true, true, true, true, true, true, true, true] rfl rfl (any_of HT_.out (by kernel_rfl)) (fun _ _ _ h => h) (Or.inl ⟨by rfl, ?_⟩) ?_ ?_
                                                      rotate_left
                                                      · intro w'
                                                        go_simp
                                                        with_reducible rfl
                                                      rotate_left
                                                      · simp only [Act.put, List.setIfInBounds_toArray, List.set_cons_zero, List.set_cons_succ, i64_w, i32_w]
                                                        rfl
                                                      refine done_ (done_of HT_.out (by kernel_rfl)) ?_
                                                      try go_wp2
                                                      go_meet
                                                      case rel => exact ⟨_, (x6_40), (x7_37), (t226), (t227), (by first | rfl | (simp; done) | (simp [*]; done)), (by first | rfl | (simp; done) | (simp [*]; done)), H', ⟨by have := HK1.out; have := HJ10.out; have := HJ29.out; have := HJ34.out; have := HJ37.out; have := HJ40.out; first | omega | exact Nat.le_refl _⟩, ⟨by (with_reducible repeat (first | apply Kd.V_alloc | apply Kd.V_drewN | apply Kd.V_drew)); exact Kd.V_mono HO_0.out (fun _ hk => ⟨hk.1.1, hk.1.2⟩)⟩, ⟨by repeat (first | (with_reducible first | exact HI202.out | apply IsB91.alloc | apply IsB91.drewN | apply IsB91.drew | apply IsB91.set_1) | exact HI202.out)⟩, ⟨by repeat (first | (with_reducible first | exact HB.out | apply below_alloc | apply pw_below_drewN | apply below_drew1 | refine below_set ?_ (IsB91.ge HI202.out)) | exact HB.out)⟩⟩
                                                    · replace c49 := Bool.eq_false_iff.mpr c49
                                                      subst c49
                                                      have H1 : (none) = some r := by rw [if_neg (show ¬ (false = true) by decide)] at H; exact H
                                                      clear H
                                                      have H := H1
                                                      clear H1
                                                      exact absurd H (by simp)
                                                  · rw [if_neg c46] at H
                                                    have c46b0 : (x13_34 == 4) = false := beq_eq_false_iff_ne.mpr c46
                                                    have c46b1 : (x13_34 != 4) = true := bne_iff_ne.mpr c46
                                                    have H' := Aside0.mk H
                                                    clear H
                                                    obtain ⟨Ao55, co55, eo55⟩ := Kd.V_slice HO_14.out
                                                    subst eo55
                                                    try go_wp2
                                                    have n0_ := Aside0.mk (Kd.V_drew HO_0.out)
                                                    have n1_ := Aside0.mk (Kd.V_drew HO_14.out)
                                                    have n2_ := Aside0.mk (IsB91.drew HI202.out)
                                                    have n3_ := Aside0.mk (below_drew1 HB.out)
                                                    clear HO_0
                                                    clear HO_14
                                                    clear HI202
                                                    clear HB
                                                    have HO_0 := n0_
                                                    have HO_14 := n1_
                                                    have HI202 := n2_
                                                    have HB := n3_
                                                    clear n0_ n1_ n2_ n3_
                                                    refine start_ (n := 20) (S := fun w' => (convert 26 9 (Value.slice Ao55 x14_40.length co55)).run Try.prog w' = .ok (.string (strOfNums x14_40)) w') (ds := []) #[false, false, false, false, false, false, false, false, false, false, false, false, false, false, false, false, false, false, false, false] (by kernel_rfl) rfl rfl ((Kd.C_string (P := Try.prog) (A := Ao55) (c := co55) Try.underlying26 Try.underlying5 Try.underlying9 ((Kd.V_reads' HO_14.out).2.2))) (fun hHeld => ?_); refine with_tabW waybilllaw1_OctsReads.tab38 waybilllaw1_OctsReads.bits38 (fun HT_ HW_ => ?_)
                                                    generalize wc.drew = w56 at HO_0 HO_14 HI202 HB hHeld ⊢
                                                    refine pure_ (i := 0) (N := some 119) (v := ?_) (a' := ?_) #[true, false, false, false, false, false, false, false, false, false, false, false, false, false, false, false, false, false, false, false] rfl rfl (any_of HT_.out (by kernel_rfl)) (fun _ _ _ h => h) (Or.inl ⟨by rfl, ?_⟩) ?_ ?_
                                                    rotate_left
                                                    · intro w'
                                                      go_simp
                                                      with_reducible rfl
                                                    rotate_left
                                                    · simp only [Act.put, List.setIfInBounds_toArray, List.set_cons_zero, List.set_cons_succ, i64_w, i32_w]
                                                      rfl
                                                    refine pure_ (i := 1) (N := some 120) (v := ?_) (a' := ?_) #[true, true, false, false, false, false, false, false, false, false, false, false, false, false, false, false, false, false, false, false] rfl rfl (any_of HT_.out (by kernel_rfl)) (fun _ _ _ h => h) (Or.inl ⟨by rfl, ?_⟩) ?_ ?_
                                                    rotate_left
                                                    · intro w'
                                                      go_simp
                                                      with_reducible rfl
                                                    rotate_left
                                                    · simp only [Act.put, List.setIfInBounds_toArray, List.set_cons_zero, List.set_cons_succ, i64_w, i32_w]
                                                      rfl
                                                    refine pure_ (i := 2) (N := some 121) (v := ?_) (a' := ?_) #[true, true, true, false, false, false, false, false, false, false, false, false, false, false, false, false, false, false, false, false] rfl rfl (any_of HT_.out (by kernel_rfl)) (fun _ _ _ h => h) (Or.inl ⟨by rfl, ?_⟩) ?_ ?_
                                                    rotate_left
                                                    · intro w'
                                                      go_simp
                                                      with_reducible rfl
                                                    rotate_left
                                                    · simp only [Act.put, List.setIfInBounds_toArray, List.set_cons_zero, List.set_cons_succ, i64_w, i32_w]
                                                      rfl
                                                    refine pure_ (i := 3) (N := some 122) (v := ?_) (a' := ?_) #[true, true, true, true, false, false, false, false, false, false, false, false, false, false, false, false, false, false, false, false] rfl rfl (any_of HT_.out (by kernel_rfl)) (fun _ _ _ h => h) (Or.inl ⟨by rfl, ?_⟩) ?_ ?_
                                                    rotate_left
                                                    · intro w'
                                                      go_simp
                                                      with_reducible rfl
                                                    rotate_left
                                                    · simp only [Act.put, List.setIfInBounds_toArray, List.set_cons_zero, List.set_cons_succ, i64_w, i32_w]
                                                      rfl
                                                    refine pure_ (i := 5) (N := some 124) (v := ?_) (a' := ?_) #[true, true, true, true, false, true, false, false, false, false, false, false, false, false, false, false, false, false, false, false] rfl rfl (any_of HT_.out (by kernel_rfl)) (fun _ _ _ h => h) (Or.inl ⟨by rfl, ?_⟩) ?_ ?_
                                                    rotate_left
                                                    · intro w'
                                                      go_simp
                                                      with_reducible rfl
                                                    rotate_left
                                                    · simp only [Act.put, List.setIfInBounds_toArray, List.set_cons_zero, List.set_cons_succ, i64_w, i32_w]
                                                      rfl
                                                    refine take_ (i := 6) (N := some 125) (v := ?_) (a' := ?_) #[true, true, true, true, false, true, true, false, false, false, false, false, false, false, false, false, false, false, false, false] rfl rfl (take_ofW HT_.out HW_.out (by kernel_rfl)) (fun _ _ _ h => h) (Or.inl ⟨by rfl, ?_⟩) hHeld ?_ ?_
                                                    rotate_left
                                                    · intro w' s0
                                                      go_simp
                                                      with_reducible rfl
                                                    rotate_left
                                                    · simp only [Act.put, List.setIfInBounds_toArray, List.set_cons_zero, List.set_cons_succ, i64_w, i32_w]
                                                      rfl
                                                    refine one_ (i := 4) (N := some 123) #[true, true, true, true, true, true, true, false, false, false, false, false, false, false, false, false, false, false, false, false] rfl rfl (one_of HT_.out (by kernel_rfl)) (by decide) (fun K hK => ?_)
                                                    refine goes_ Try.func31 (by kernel_rfl) rfl #[.pointer (some ⟨g202, 0, none⟩)] (by rfl) rfl rfl (by (try simp only [List.map_toArray, List.map_cons, List.map_nil]); first | done | rfl | (simp only [List.length_drop, List.length_take]; rfl)) ?_
                                                    with_reducible refine (octs_In_Short.callsB kj40 g202 x203000_1 x203001_1 t220 t221 t222 w _ ?side1 ?side2 A44.out).mono ?_
                                                    (case side1 => repeat (first | (with_reducible first | exact HI202.out | apply IsB91.alloc | apply IsB91.drewN | apply IsB91.drew | apply IsB91.set_1) | exact HI202.out))
                                                    (case side2 => repeat (first | (with_reducible first | exact HB.out | apply below_alloc | apply pw_below_drewN | apply below_drew1 | refine below_set ?_ (IsB91.ge HI202.out)) | exact HB.out))
                                                    rintro e w57 ⟨rfl, hi, hb, hk⟩
                                                    refine ⟨_, rfl, ?_⟩
                                                    have n0_ := Aside0.mk (Kd.V_mono (Kd.V_keep (Kd.V_mono (ok := fun k_ => (((P0_ k_ ∨ w.heap.size ≤ k_)) ∧ k_ ≠ g202)) (by (with_reducible repeat (first | apply Kd.V_alloc | apply Kd.V_drewN | apply Kd.V_drew)); exact HO_0.out) (fun k_ hk_ => (⟨hk_, hk_.2⟩ : _ ∧ k_ ≠ g202))) hk (fun _ h => h.2)) (fun _ h => h.1))
                                                    have n1_ := Aside0.mk (Kd.V_mono (Kd.V_keep (Kd.V_mono (ok := fun k_ => (((P0_ k_ ∨ w.heap.size ≤ k_)) ∧ k_ ≠ g202)) (by (with_reducible repeat (first | apply Kd.V_alloc | apply Kd.V_drewN | apply Kd.V_drew)); exact HO_14.out) (fun k_ hk_ => (⟨hk_, hk_.2⟩ : _ ∧ k_ ≠ g202))) hk (fun _ h => h.2)) (fun _ h => h.1))
                                                    have n2_ := Aside0.mk (hb)
                                                    have n3_ := Aside0.mk (hi)
                                                    clear HO_0
                                                    clear HO_14
                                                    clear HB
                                                    clear HI202
                                                    have HO_0 := n0_
                                                    have HO_14 := n1_
                                                    have HB := n2_
                                                    have HI202 := n3_
                                                    clear n0_ n1_ n2_ n3_
                                                    (try clear hb)
                                                    (try clear hb2)
                                                    (try clear hk)
                                                    (try clear hi)
                                                    (try clear hge)
                                                    refine hK.out _ _ ((Kd.C_string (P := Try.prog) (A := Ao55) (c := co55) Try.underlying26 Try.underlying5 Try.underlying9 ((Kd.V_reads' HO_14.out).2.2))) (fun hHeld => ?_)
                                                    clear hK K
                                                    refine norm_ (a' := ?_) ?_ ?_
                                                    rotate_left
                                                    · show Act.put _ (some 123) _ = _
                                                      simp only [Act.put, List.setIfInBounds_toArray, List.set_cons_zero, List.set_cons_succ, i64_w, i32_w]
                                                      rfl
                                                    refine pure_ (i := 7) (N := some 126) (v := ?_) (a' := ?_) #[true, true, true, true, true, true, true, true, false, false, false, false, false, false, false, false, false, false, false, false] rfl rfl (any_of HT_.out (by kernel_rfl)) (fun _ _ _ h => h) (Or.inl ⟨by rfl, ?_⟩) ?_ ?_
                                                    rotate_left
                                                    · intro w'
                                                      go_simp
                                                      with_reducible rfl
                                                    rotate_left
                                                    · simp only [Act.put, List.setIfInBounds_toArray, List.set_cons_zero, List.set_cons_succ, i64_w, i32_w]
                                                      rfl
                                                    refine pure_ (i := 8) (N := some 127) (v := ?_) (a' := ?_) #[true, true, true, true, true, true, true, true, true, false, false, false, false, false, false, false, false, false, false, false] rfl rfl (any_of HT_.out (by kernel_rfl)) (fun _ _ _ h => h) (Or.inl ⟨by rfl, ?_⟩) ?_ ?_
                                                    rotate_left
                                                    · intro w'
                                                      go_simp
                                                      with_reducible rfl
                                                    rotate_left
                                                    · simp only [Act.put, List.setIfInBounds_toArray, List.set_cons_zero, List.set_cons_succ, i64_w, i32_w]
                                                      rfl
                                                    refine pure_ (i := 9) (N := some 128) (v := ?_) (a' := ?_) #[true, true, true, true, true, true, true, true, true, true, false, false, false, false, false, false, false, false, false, false] rfl rfl (any_of HT_.out (by kernel_rfl)) (fun _ _ _ h => h) (Or.inl ⟨by rfl, ?_⟩) ?_ ?_
                                                    rotate_left
                                                    · intro w'
                                                      go_simp
                                                      with_reducible rfl
                                                    rotate_left
                                                    · simp only [Act.put, List.setIfInBounds_toArray, List.set_cons_zero, List.set_cons_succ, i64_w, i32_w]
                                                      rfl
                                                    refine pure_ (i := 10) (N := some 129) (v := ?_) (a' := ?_) #[true, true, true, true, true, true, true, true, true, true, true, false, false, false, false, false, false, false, false, false] rfl rfl (any_of HT_.out (by kernel_rfl)) (fun _ _ _ h => h) (Or.inl ⟨by rfl, ?_⟩) ?_ ?_
                                                    rotate_left
                                                    · intro w'
                                                      go_simp
                                                      with_reducible rfl
                                                    rotate_left
                                                    · simp only [Act.put, List.setIfInBounds_toArray, List.set_cons_zero, List.set_cons_succ, i64_w, i32_w]
                                                      rfl
                                                    refine pure_ (i := 11) (N := some 130) (v := ?_) (a' := ?_) #[true, true, true, true, true, true, true, true, true, true, true, true, false, false, false, false, false, false, false, false] rfl rfl (any_of HT_.out (by kernel_rfl)) (fun _ _ _ h => h) (Or.inl ⟨by rfl, ?_⟩) ?_ ?_
                                                    rotate_left
                                                    · intro w'
                                                      go_simp
                                                      with_reducible rfl
                                                    rotate_left
                                                    · simp only [Act.put, List.setIfInBounds_toArray, List.set_cons_zero, List.set_cons_succ, i64_w, i32_w]
                                                      rfl
                                                    refine pure_ (i := 12) (N := some 131) (v := ?_) (a' := ?_) #[true, true, true, true, true, true, true, true, true, true, true, true, true, false, false, false, false, false, false, false] rfl rfl (any_of HT_.out (by kernel_rfl)) (fun _ _ _ h => h) (Or.inl ⟨by rfl, ?_⟩) ?_ ?_
                                                    rotate_left
                                                    · intro w'
                                                      go_simp
                                                      with_reducible rfl
                                                    rotate_left
                                                    · simp only [Act.put, List.setIfInBounds_toArray, List.set_cons_zero, List.set_cons_succ, i64_w, i32_w]
                                                      rfl
                                                    refine pure_ (i := 13) (N := some 132) (v := undef) (a' := ?_) #[true, true, true, true, true, true, true, true, true, true, true, true, true, true, false, false, false, false, false, false] rfl rfl (any_of HT_.out (by kernel_rfl)) (fun _ _ _ h => h) (Or.inr ⟨by rfl, rfl⟩) ?_ ?_
                                                    rotate_left
                                                    · simp only [Act.put, List.setIfInBounds_toArray, List.set_cons_zero, List.set_cons_succ, i64_w, i32_w]
                                                      rfl
                                                    refine pure_ (i := 14) (N := some 133) (v := undef) (a' := ?_) #[true, true, true, true, true, true, true, true, true, true, true, true, true, true, true, false, false, false, false, false] rfl rfl (any_of HT_.out (by kernel_rfl)) (fun _ _ _ h => h) (Or.inr ⟨by rfl, rfl⟩) ?_ ?_
                                                    rotate_left
                                                    · simp only [Act.put, List.setIfInBounds_toArray, List.set_cons_zero, List.set_cons_succ, i64_w, i32_w]
                                                      rfl
                                                    refine pure_ (i := 15) (N := some 134) (v := undef) (a' := ?_) #[true, true, true, true, true, true, true, true, true, true, true, true, true, true, true, true, false, false, false, false] rfl rfl (any_of HT_.out (by kernel_rfl)) (fun _ _ _ h => h) (Or.inr ⟨by rfl, rfl⟩) ?_ ?_
                                                    rotate_left
                                                    · simp only [Act.put, List.setIfInBounds_toArray, List.set_cons_zero, List.set_cons_succ, i64_w, i32_w]
                                                      rfl
                                                    refine pure_ (i := 16) (N := some 135) (v := undef) (a' := ?_) #[true, true, true, true, true, true, true, true, true, true, true, true, true, true, true, true, true, false, false, false] rfl rfl (any_of HT_.out (by kernel_rfl)) (fun _ _ _ h => h) (Or.inr ⟨by rfl, rfl⟩) ?_ ?_
                                                    rotate_left
                                                    · simp only [Act.put, List.setIfInBounds_toArray, List.set_cons_zero, List.set_cons_succ, i64_w, i32_w]
                                                      rfl
                                                    refine pure_ (i := 17) (N := some 136) (v := undef) (a' := ?_) #[true, true, true, true, true, true, true, true, true, true, true, true, true, true, true, true, true, true, false, false] rfl rfl (any_of HT_.out (by kernel_rfl)) (fun _ _ _ h => h) (Or.inr ⟨by rfl, rfl⟩) ?_ ?_
                                                    rotate_left
                                                    · simp only [Act.put, List.setIfInBounds_toArray, List.set_cons_zero, List.set_cons_succ, i64_w, i32_w]
                                                      rfl
                                                    refine pure_ (i := 18) (N := some 137) (v := ?_) (a' := ?_) #[true, true, true, true, true, true, true, true, true, true, true, true, true, true, true, true, true, true, true, false] rfl rfl (any_of HT_.out (by kernel_rfl)) (fun _ _ _ h => h) (Or.inl ⟨by rfl, ?_⟩) ?_ ?_
                                                    rotate_left
                                                    · intro w'
                                                      go_simp
                                                      with_reducible rfl
                                                    rotate_left
                                                    · simp only [Act.put, List.setIfInBounds_toArray, List.set_cons_zero, List.set_cons_succ, i64_w, i32_w]
                                                      rfl
                                                    refine pure_ (i := 19) (N := some 138) (v := ?_) (a' := ?_) #[true, true, true, true, true, true, true, true, true, true, true, true, true, true, true, true, true, true, true, true] rfl rfl (any_of HT_.out (by kernel_rfl)) (fun _ _ _ h => h) (Or.inl ⟨by rfl, ?_⟩) ?_ ?_
                                                    rotate_left
                                                    · intro w'
                                                      go_simp
                                                      with_reducible rfl
                                                    rotate_left
                                                    · simp only [Act.put, List.setIfInBounds_toArray, List.set_cons_zero, List.set_cons_succ, i64_w, i32_w]
                                                      rfl
                                                    refine done_ (done_of HT_.out (by kernel_rfl)) ?_
                                                    try go_wp2
                                                    go_meet
                                                    case rel => exact ⟨_, (x6_40), (x7_37), (t221), (t222), (by first | rfl | (simp; done) | (simp [*]; done)), (by first | rfl | (simp; done) | (simp [*]; done)), H', ⟨by have := HK1.out; have := HJ10.out; have := HJ29.out; have := HJ34.out; have := HJ37.out; have := HJ40.out; first | omega | exact Nat.le_refl _⟩, ⟨by (with_reducible repeat (first | apply Kd.V_alloc | apply Kd.V_drewN | apply Kd.V_drew)); exact HO_0.out⟩, ⟨by repeat (first | (with_reducible first | exact HI202.out | apply IsB91.alloc | apply IsB91.drewN | apply IsB91.drew | apply IsB91.set_1) | exact HI202.out)⟩, ⟨by repeat (first | (with_reducible first | exact HB.out | apply below_alloc | apply pw_below_drewN | apply below_drew1 | refine below_set ?_ (IsB91.ge HI202.out)) | exact HB.out)⟩⟩
                                                · rw [if_neg c45] at H
                                                  have c45b0 : (t220.toList == (strOfNums x14_40).toList) = false := beq_eq_false_iff_ne.mpr c45
                                                  have c45b1 : (t220.toList != (strOfNums x14_40).toList) = true := bne_iff_ne.mpr c45
                                                  exact absurd H (by simp)
                                              · rw [if_neg c43] at H
                                                have c43b0 : (x13_34 == 1) = false := beq_eq_false_iff_ne.mpr c43
                                                have c43b1 : (x13_34 != 1) = true := bne_iff_ne.mpr c43
                                                by_cases c58 : x13_34 = 4
                                                · rw [if_pos c58] at H
                                                  have c58b0 : (x13_34 == 4) = true := beq_iff_eq.mpr c58
                                                  have c58b1 : (x13_34 != 4) = false := bne_eq_false_iff_eq.mpr c58
                                                  clear c58
                                                  replace H := Option.bind_eq_some_iff.mp H
                                                  obtain ⟨⟨t229, t232, t233⟩, A590, H⟩ := H
                                                  replace H : ((waybilllaw1_SameBytes.f t229 x14_40).bind fun t234 => (if t234 = true then (waybilllaw1_OctsReads.j8 kj40 l0 l1 x6_40 x7_37 x8_1 t232 t233) else (none))) = some r := H
                                                  have A59 := Aside0.mk A590
                                                  clear A590
                                                  replace H := Option.bind_eq_some_iff.mp H
                                                  obtain ⟨t234, A600, H⟩ := H
                                                  replace H : (if t234 = true then (waybilllaw1_OctsReads.j8 kj40 l0 l1 x6_40 x7_37 x8_1 t232 t233) else (none)) = some r := H
                                                  have A60 := Aside0.mk A600
                                                  clear A600
                                                  by_cases c61 : t234 = true
                                                  · subst c61
                                                    have H1 : (waybilllaw1_OctsReads.j8 kj40 l0 l1 x6_40 x7_37 x8_1 t232 t233) = some r := by rw [if_pos rfl] at H; exact H
                                                    clear H
                                                    have H := H1
                                                    clear H1
                                                    have H' := Aside0.mk H
                                                    clear H
                                                    try go_wp2
                                                    have n0_ := Aside0.mk (Kd.V_drew HO_0.out)
                                                    have n1_ := Aside0.mk (Kd.V_drew HO_14.out)
                                                    have n2_ := Aside0.mk (IsB91.drew HI202.out)
                                                    have n3_ := Aside0.mk (below_drew1 HB.out)
                                                    clear HO_0
                                                    clear HO_14
                                                    clear HI202
                                                    clear HB
                                                    have HO_0 := n0_
                                                    have HO_14 := n1_
                                                    have HI202 := n2_
                                                    have HB := n3_
                                                    clear n0_ n1_ n2_ n3_
                                                    refine start_ (n := 20) (S := fun w' => True) (ds := []) #[false, false, false, false, false, false, false, false, false, false, false, false, false, false, false, false, false, false, false, false] (by kernel_rfl) rfl rfl trivial (fun hHeld => ?_); refine with_tabW waybilllaw1_OctsReads.tab38 waybilllaw1_OctsReads.bits38 (fun HT_ HW_ => ?_)
                                                    generalize wc.drew = w62 at HO_0 HO_14 HI202 HB hHeld ⊢
                                                    refine pure_ (i := 0) (N := some 119) (v := ?_) (a' := ?_) #[true, false, false, false, false, false, false, false, false, false, false, false, false, false, false, false, false, false, false, false] rfl rfl (any_of HT_.out (by kernel_rfl)) (fun _ _ _ h => h) (Or.inl ⟨by rfl, ?_⟩) ?_ ?_
                                                    rotate_left
                                                    · intro w'
                                                      go_simp
                                                      with_reducible rfl
                                                    rotate_left
                                                    · simp only [Act.put, List.setIfInBounds_toArray, List.set_cons_zero, List.set_cons_succ, i64_w, i32_w]
                                                      rfl
                                                    refine pure_ (i := 1) (N := some 120) (v := ?_) (a' := ?_) #[true, true, false, false, false, false, false, false, false, false, false, false, false, false, false, false, false, false, false, false] rfl rfl (any_of HT_.out (by kernel_rfl)) (fun _ _ _ h => h) (Or.inl ⟨by rfl, ?_⟩) ?_ ?_
                                                    rotate_left
                                                    · intro w'
                                                      go_simp
                                                      with_reducible rfl
                                                    rotate_left
                                                    · simp only [Act.put, List.setIfInBounds_toArray, List.set_cons_zero, List.set_cons_succ, i64_w, i32_w]
                                                      rfl
                                                    refine pure_ (i := 2) (N := some 121) (v := ?_) (a' := ?_) #[true, true, true, false, false, false, false, false, false, false, false, false, false, false, false, false, false, false, false, false] rfl rfl (any_of HT_.out (by kernel_rfl)) (fun _ _ _ h => h) (Or.inl ⟨by rfl, ?_⟩) ?_ ?_
                                                    rotate_left
                                                    · intro w'
                                                      go_simp
                                                      with_reducible rfl
                                                    rotate_left
                                                    · simp only [Act.put, List.setIfInBounds_toArray, List.set_cons_zero, List.set_cons_succ, i64_w, i32_w]
                                                      rfl
                                                    refine pure_ (i := 3) (N := some 122) (v := undef) (a' := ?_) #[true, true, true, true, false, false, false, false, false, false, false, false, false, false, false, false, false, false, false, false] rfl rfl (any_of HT_.out (by kernel_rfl)) (fun _ _ _ h => h) (Or.inr ⟨by rfl, rfl⟩) ?_ ?_
                                                    rotate_left
                                                    · simp only [Act.put, List.setIfInBounds_toArray, List.set_cons_zero, List.set_cons_succ, i64_w, i32_w]
                                                      rfl
                                                    refine pure_ (i := 4) (N := some 123) (v := undef) (a' := ?_) #[true, true, true, true, true, false, false, false, false, false, false, false, false, false, false, false, false, false, false, false] rfl rfl (any_of HT_.out (by kernel_rfl)) (fun _ _ _ h => h) (Or.inr ⟨by rfl, rfl⟩) ?_ ?_
                                                    rotate_left
                                                    · simp only [Act.put, List.setIfInBounds_toArray, List.set_cons_zero, List.set_cons_succ, i64_w, i32_w]
                                                      rfl
                                                    refine pure_ (i := 5) (N := some 124) (v := undef) (a' := ?_) #[true, true, true, true, true, true, false, false, false, false, false, false, false, false, false, false, false, false, false, false] rfl rfl (any_of HT_.out (by kernel_rfl)) (fun _ _ _ h => h) (Or.inr ⟨by rfl, rfl⟩) ?_ ?_
                                                    rotate_left
                                                    · simp only [Act.put, List.setIfInBounds_toArray, List.set_cons_zero, List.set_cons_succ, i64_w, i32_w]
                                                      rfl
                                                    refine pure_ (i := 6) (N := some 125) (v := undef) (a' := ?_) #[true, true, true, true, true, true, true, false, false, false, false, false, false, false, false, false, false, false, false, false] rfl rfl (any_of HT_.out (by kernel_rfl)) (fun _ _ _ h => h) (Or.inr ⟨by rfl, rfl⟩) ?_ ?_
                                                    rotate_left
                                                    · simp only [Act.put, List.setIfInBounds_toArray, List.set_cons_zero, List.set_cons_succ, i64_w, i32_w]
                                                      rfl
                                                    refine pure_ (i := 7) (N := some 126) (v := undef) (a' := ?_) #[true, true, true, true, true, true, true, true, false, false, false, false, false, false, false, false, false, false, false, false] rfl rfl (any_of HT_.out (by kernel_rfl)) (fun _ _ _ h => h) (Or.inr ⟨by rfl, rfl⟩) ?_ ?_
                                                    rotate_left
                                                    · simp only [Act.put, List.setIfInBounds_toArray, List.set_cons_zero, List.set_cons_succ, i64_w, i32_w]
                                                      rfl
                                                    refine pure_ (i := 8) (N := some 127) (v := ?_) (a' := ?_) #[true, true, true, true, true, true, true, true, true, false, false, false, false, false, false, false, false, false, false, false] rfl rfl (any_of HT_.out (by kernel_rfl)) (fun _ _ _ h => h) (Or.inl ⟨by rfl, ?_⟩) ?_ ?_
                                                    rotate_left
                                                    · intro w'
                                                      go_simp
                                                      with_reducible rfl
                                                    rotate_left
                                                    · simp only [Act.put, List.setIfInBounds_toArray, List.set_cons_zero, List.set_cons_succ, i64_w, i32_w]
                                                      rfl
                                                    refine pure_ (i := 9) (N := some 128) (v := ?_) (a' := ?_) #[true, true, true, true, true, true, true, true, true, true, false, false, false, false, false, false, false, false, false, false] rfl rfl (any_of HT_.out (by kernel_rfl)) (fun _ _ _ h => h) (Or.inl ⟨by rfl, ?_⟩) ?_ ?_
                                                    rotate_left
                                                    · intro w'
                                                      go_simp
                                                      with_reducible rfl
                                                    rotate_left
                                                    · simp only [Act.put, List.setIfInBounds_toArray, List.set_cons_zero, List.set_cons_succ, i64_w, i32_w]
                                                      rfl
                                                    refine pure_ (i := 10) (N := some 129) (v := ?_) (a' := ?_) #[true, true, true, true, true, true, true, true, true, true, true, false, false, false, false, false, false, false, false, false] rfl rfl (any_of HT_.out (by kernel_rfl)) (fun _ _ _ h => h) (Or.inl ⟨by rfl, ?_⟩) ?_ ?_
                                                    rotate_left
                                                    · intro w'
                                                      go_simp
                                                      with_reducible rfl
                                                    rotate_left
                                                    · simp only [Act.put, List.setIfInBounds_toArray, List.set_cons_zero, List.set_cons_succ, i64_w, i32_w]
                                                      rfl
                                                    refine pure_ (i := 11) (N := some 130) (v := ?_) (a' := ?_) #[true, true, true, true, true, true, true, true, true, true, true, true, false, false, false, false, false, false, false, false] rfl rfl (any_of HT_.out (by kernel_rfl)) (fun _ _ _ h => h) (Or.inl ⟨by rfl, ?_⟩) ?_ ?_
                                                    rotate_left
                                                    · intro w'
                                                      go_simp
                                                      with_reducible rfl
                                                    rotate_left
                                                    · simp only [Act.put, List.setIfInBounds_toArray, List.set_cons_zero, List.set_cons_succ, i64_w, i32_w]
                                                      rfl
                                                    refine pure_ (i := 12) (N := some 131) (v := ?_) (a' := ?_) #[true, true, true, true, true, true, true, true, true, true, true, true, true, false, false, false, false, false, false, false] rfl rfl (any_of HT_.out (by kernel_rfl)) (fun _ _ _ h => h) (Or.inl ⟨by rfl, ?_⟩) ?_ ?_
                                                    rotate_left
                                                    · intro w'
                                                      go_simp
                                                      with_reducible rfl
                                                    rotate_left
                                                    · simp only [Act.put, List.setIfInBounds_toArray, List.set_cons_zero, List.set_cons_succ, i64_w, i32_w]
                                                      rfl
                                                    refine pure_ (i := 13) (N := some 132) (v := ?_) (a' := ?_) #[true, true, true, true, true, true, true, true, true, true, true, true, true, true, false, false, false, false, false, false] rfl rfl (any_of HT_.out (by kernel_rfl)) (fun _ _ _ h => h) (Or.inl ⟨by rfl, ?_⟩) ?_ ?_
                                                    rotate_left
                                                    · intro w'
                                                      go_simp
                                                      with_reducible rfl
                                                    rotate_left
                                                    · simp only [Act.put, List.setIfInBounds_toArray, List.set_cons_zero, List.set_cons_succ, i64_w, i32_w]
                                                      rfl
                                                    refine pure_ (i := 15) (N := some 134) (v := ?_) (a' := ?_) #[true, true, true, true, true, true, true, true, true, true, true, true, true, true, false, true, false, false, false, false] rfl rfl (any_of HT_.out (by kernel_rfl)) (fun _ _ _ h => h) (Or.inl ⟨by rfl, ?_⟩) ?_ ?_
                                                    rotate_left
                                                    · intro w'
                                                      go_simp
                                                      with_reducible rfl
                                                    rotate_left
                                                    · simp only [Act.put, List.setIfInBounds_toArray, List.set_cons_zero, List.set_cons_succ, i64_w, i32_w]
                                                      rfl
                                                    refine one_ (i := 14) (N := some 133) #[true, true, true, true, true, true, true, true, true, true, true, true, true, true, true, true, false, false, false, false] rfl rfl (one_of HT_.out (by kernel_rfl)) (by decide) (fun K hK => ?_)
                                                    refine goes_ Try.func33 (by kernel_rfl) rfl #[.pointer (some ⟨g202, 0, none⟩)] (by rfl) rfl rfl (by (try simp only [List.map_toArray, List.map_cons, List.map_nil]); first | done | rfl | (simp only [List.length_drop, List.length_take]; rfl)) ?_
                                                    with_reducible refine (octs_In_Long.callsB kj40 g202 x203000_1 x203001_1 t229 t232 t233 w _ ?side1 ?side2 A59.out).mono ?_
                                                    (case side1 => repeat (first | (with_reducible first | exact HI202.out | apply IsB91.alloc | apply IsB91.drewN | apply IsB91.drew | apply IsB91.set_1) | exact HI202.out))
                                                    (case side2 => repeat (first | (with_reducible first | exact HB.out | apply below_alloc | apply pw_below_drewN | apply below_drew1 | refine below_set ?_ (IsB91.ge HI202.out)) | exact HB.out))
                                                    rintro e w63 ⟨v230, rfl, ho0, hi, hb, hk⟩
                                                    refine ⟨_, rfl, ?_⟩
                                                    have n0_ := Aside0.mk (Kd.V_mono (Kd.V_told (Kd.V_oldK (Kd.V_mono (ok := fun k_ => (((P0_ k_ ∨ w.heap.size ≤ k_)) ∧ k_ ≠ g202)) (by (with_reducible repeat (first | apply Kd.V_alloc | apply Kd.V_drewN | apply Kd.V_drew)); exact HO_0.out) (fun k_ hk_ => (⟨hk_, hk_.2⟩ : _ ∧ k_ ≠ g202))) hk) (Kd.R_base ho0)) (fun _ h_ => h_.1))
                                                    have n1_ := Aside0.mk (Kd.V_mono (Kd.V_told (Kd.V_oldK (Kd.V_mono (ok := fun k_ => (((P0_ k_ ∨ w.heap.size ≤ k_)) ∧ k_ ≠ g202)) (by (with_reducible repeat (first | apply Kd.V_alloc | apply Kd.V_drewN | apply Kd.V_drew)); exact HO_14.out) (fun k_ hk_ => (⟨hk_, hk_.2⟩ : _ ∧ k_ ≠ g202))) hk) (Kd.R_base ho0)) (fun _ h_ => h_.1))
                                                    have n2_ := Aside0.mk (Kd.R_lower (Kd.R_newM (M := fun k_ => (w.heap.size ≤ k_)) ho0 (below_size (by repeat (first | (with_reducible first | exact HB.out | apply below_alloc | apply pw_below_drewN | apply below_drew1 | refine below_set ?_ (IsB91.ge HI202.out)) | exact HB.out))) (fun k_ h_ => h_)) (below_size (by repeat (first | (with_reducible first | exact HB.out | apply below_alloc | apply pw_below_drewN | apply below_drew1 | refine below_set ?_ (IsB91.ge HI202.out)) | exact HB.out))))
                                                    have n3_ := Aside0.mk (hb)
                                                    have n4_ := Aside0.mk (hi)
                                                    clear HO_0
                                                    clear HO_14
                                                    clear HB
                                                    clear HI202
                                                    have HO_0 := n0_
                                                    have HO_14 := n1_
                                                    have HO231 := n2_
                                                    have HB := n3_
                                                    have HI202 := n4_
                                                    clear n0_ n1_ n2_ n3_ n4_
                                                    (try clear hb)
                                                    (try clear hb2)
                                                    (try clear hk)
                                                    (try clear hi)
                                                    (try clear hge)
                                                    (try clear ho0)
                                                    obtain ⟨Ao64, co64, eo64⟩ := Kd.R_slice HO231.out
                                                    (first | subst eo64 | (injection eo64 with f1_ f2_ f3_; have f4_ := f1_.symm; have f5_ := f3_.symm; clear f1_ f2_ f3_; subst f4_; subst f5_))
                                                    obtain ⟨Ao65, co65, eo65⟩ := Kd.V_slice HO_14.out
                                                    (first | subst eo65 | (injection eo65 with f1_ f2_ f3_; have f4_ := f1_.symm; have f5_ := f3_.symm; clear f1_ f2_ f3_; subst f4_; subst f5_))
                                                    refine hK.out _ _ trivial (fun hHeld => ?_)
                                                    clear hK K
                                                    refine norm_ (a' := ?_) ?_ ?_
                                                    rotate_left
                                                    · show Act.put _ (some 133) _ = _
                                                      simp only [Act.put, List.setIfInBounds_toArray, List.set_cons_zero, List.set_cons_succ, i64_w, i32_w]
                                                      rfl
                                                    refine one_ (i := 16) (N := some 135) #[true, true, true, true, true, true, true, true, true, true, true, true, true, true, true, true, true, false, false, false] rfl rfl (one_of HT_.out (by kernel_rfl)) (by decide) (fun K hK => ?_)
                                                    refine goes_ Try.func32 (by kernel_rfl) rfl #[.slice Ao64 t229.length co64, .slice Ao65 x14_40.length co65] (by rfl) rfl rfl (by (try simp only [List.map_toArray, List.map_cons, List.map_nil]); first | done | rfl | (simp only [List.length_drop, List.length_take]; rfl)) ?_
                                                    with_reducible refine (waybilllaw1_SameBytes.calls _ _ t229 _ _ x14_40 true _ ?side1 ?side2 ?side3 ?side4 A60.out).mono ?_
                                                    (case side1 => repeat (first | exact (Kd.R_reads' HO231.out).2.2 | (with_reducible refine Kd.C_alloc ?_ _) | (with_reducible refine Kd.C_drewN ?_ _) | (with_reducible refine Kd.C_drew ?_)))
                                                    (case side2 => exact (Kd.R_reads' HO231.out).2.1)
                                                    (case side3 => repeat (first | exact (Kd.V_reads' HO_14.out).2.2 | (with_reducible refine Kd.C_alloc ?_ _) | (with_reducible refine Kd.C_drewN ?_ _) | (with_reducible refine Kd.C_drew ?_)))
                                                    (case side4 => exact (Kd.V_reads' HO_14.out).2.1)
                                                    rintro e w' ⟨rfl, ⟨nd, rfl⟩⟩
                                                    refine ⟨_, rfl, ?_⟩
                                                    refine hK.out _ _ trivial (fun hHeld => ?_)
                                                    clear hK K
                                                    refine norm_ (a' := ?_) ?_ ?_
                                                    rotate_left
                                                    · show Act.put _ (some 135) _ = _
                                                      simp only [Act.put, List.setIfInBounds_toArray, List.set_cons_zero, List.set_cons_succ, i64_w, i32_w]
                                                      rfl
                                                    refine pure_ (i := 17) (N := some 136) (v := ?_) (a' := ?_) #[true, true, true, true, true, true, true, true, true, true, true, true, true, true, true, true, true, true, false, false] rfl rfl (any_of HT_.out (by kernel_rfl)) (fun _ _ _ h => h) (Or.inl ⟨by rfl, ?_⟩) ?_ ?_
                                                    rotate_left
                                                    · intro w'
                                                      go_simp
                                                      with_reducible rfl
                                                    rotate_left
                                                    · simp only [Act.put, List.setIfInBounds_toArray, List.set_cons_zero, List.set_cons_succ, i64_w, i32_w]
                                                      rfl
                                                    refine pure_ (i := 18) (N := some 137) (v := ?_) (a' := ?_) #[true, true, true, true, true, true, true, true, true, true, true, true, true, true, true, true, true, true, true, false] rfl rfl (any_of HT_.out (by kernel_rfl)) (fun _ _ _ h => h) (Or.inl ⟨by rfl, ?_⟩) ?_ ?_
                                                    rotate_left
                                                    · intro w'
                                                      go_simp
                                                      with_reducible rfl
                                                    rotate_left
                                                    · simp only [Act.put, List.setIfInBounds_toArray, List.set_cons_zero, List.set_cons_succ, i64_w, i32_w]
                                                      rfl
                                                    refine pure_ (i := 19) (N := some 138) (v := ?_) (a' := ?_) #[true, true, true, true, true, true, true, true, true, true, true, true, true, true, true, true, true, true, true, true] rfl rfl (any_of HT_.out (by kernel_rfl)) (fun _ _ _ h => h) (Or.inl ⟨by rfl, ?_⟩) ?_ ?_
                                                    rotate_left
                                                    · intro w'
                                                      go_simp
                                                      with_reducible rfl
                                                    rotate_left
                                                    · simp only [Act.put, List.setIfInBounds_toArray, List.set_cons_zero, List.set_cons_succ, i64_w, i32_w]
                                                      rfl
                                                    refine done_ (done_of HT_.out (by kernel_rfl)) ?_
                                                    try go_wp2
                                                    go_meet
                                                    case rel => exact ⟨_, (x6_40), (x7_37), (t232), (t233), (by first | rfl | (simp; done) | (simp [*]; done)), (by first | rfl | (simp; done) | (simp [*]; done)), H', ⟨by have := HK1.out; have := HJ10.out; have := HJ29.out; have := HJ34.out; have := HJ37.out; have := HJ40.out; first | omega | exact Nat.le_refl _⟩, ⟨by (with_reducible repeat (first | apply Kd.V_alloc | apply Kd.V_drewN | apply Kd.V_drew)); exact Kd.V_mono HO_0.out (fun _ hk => ⟨hk.1.1, hk.1.2⟩)⟩, ⟨by repeat (first | (with_reducible first | exact HI202.out | apply IsB91.alloc | apply IsB91.drewN | apply IsB91.drew | apply IsB91.set_1) | exact HI202.out)⟩, ⟨by repeat (first | (with_reducible first | exact HB.out | apply below_alloc | apply pw_below_drewN | apply below_drew1 | refine below_set ?_ (IsB91.ge HI202.out)) | exact HB.out)⟩⟩
                                                  · replace c61 := Bool.eq_false_iff.mpr c61
                                                    subst c61
                                                    have H1 : (none) = some r := by rw [if_neg (show ¬ (false = true) by decide)] at H; exact H
                                                    clear H
                                                    have H := H1
                                                    clear H1
                                                    exact absurd H (by simp)
                                                · rw [if_neg c58] at H
                                                  have c58b0 : (x13_34 == 4) = false := beq_eq_false_iff_ne.mpr c58
                                                  have c58b1 : (x13_34 != 4) = true := bne_iff_ne.mpr c58
                                                  have H' := Aside0.mk H
                                                  clear H
                                                  try go_wp2
                                                  have n0_ := Aside0.mk (Kd.V_drew HO_0.out)
                                                  have n1_ := Aside0.mk (Kd.V_drew HO_14.out)
                                                  have n2_ := Aside0.mk (IsB91.drew HI202.out)
                                                  have n3_ := Aside0.mk (below_drew1 HB.out)
                                                  clear HO_0
                                                  clear HO_14
                                                  clear HI202
                                                  clear HB
                                                  have HO_0 := n0_
                                                  have HO_14 := n1_
                                                  have HI202 := n2_
                                                  have HB := n3_
                                                  clear n0_ n1_ n2_ n3_
                                                  refine start_ (n := 20) (S := fun w' => True) (ds := []) #[false, false, false, false, false, false, false, false, false, false, false, false, false, false, false, false, false, false, false, false] (by kernel_rfl) rfl rfl trivial (fun hHeld => ?_); refine with_tabW waybilllaw1_OctsReads.tab38 waybilllaw1_OctsReads.bits38 (fun HT_ HW_ => ?_)
                                                  generalize wc.drew = w66 at HO_0 HO_14 HI202 HB hHeld ⊢
                                                  refine pure_ (i := 0) (N := some 119) (v := ?_) (a' := ?_) #[true, false, false, false, false, false, false, false, false, false, false, false, false, false, false, false, false, false, false, false] rfl rfl (any_of HT_.out (by kernel_rfl)) (fun _ _ _ h => h) (Or.inl ⟨by rfl, ?_⟩) ?_ ?_
                                                  rotate_left
                                                  · intro w'
                                                    go_simp
                                                    with_reducible rfl
                                                  rotate_left
                                                  · simp only [Act.put, List.setIfInBounds_toArray, List.set_cons_zero, List.set_cons_succ, i64_w, i32_w]
                                                    rfl
                                                  refine pure_ (i := 1) (N := some 120) (v := ?_) (a' := ?_) #[true, true, false, false, false, false, false, false, false, false, false, false, false, false, false, false, false, false, false, false] rfl rfl (any_of HT_.out (by kernel_rfl)) (fun _ _ _ h => h) (Or.inl ⟨by rfl, ?_⟩) ?_ ?_
                                                  rotate_left
                                                  · intro w'
                                                    go_simp
                                                    with_reducible rfl
                                                  rotate_left
                                                  · simp only [Act.put, List.setIfInBounds_toArray, List.set_cons_zero, List.set_cons_succ, i64_w, i32_w]
                                                    rfl
                                                  refine pure_ (i := 2) (N := some 121) (v := ?_) (a' := ?_) #[true, true, true, false, false, false, false, false, false, false, false, false, false, false, false, false, false, false, false, false] rfl rfl (any_of HT_.out (by kernel_rfl)) (fun _ _ _ h => h) (Or.inl ⟨by rfl, ?_⟩) ?_ ?_
                                                  rotate_left
                                                  · intro w'
                                                    go_simp
                                                    with_reducible rfl
                                                  rotate_left
                                                  · simp only [Act.put, List.setIfInBounds_toArray, List.set_cons_zero, List.set_cons_succ, i64_w, i32_w]
                                                    rfl
                                                  refine pure_ (i := 3) (N := some 122) (v := undef) (a' := ?_) #[true, true, true, true, false, false, false, false, false, false, false, false, false, false, false, false, false, false, false, false] rfl rfl (any_of HT_.out (by kernel_rfl)) (fun _ _ _ h => h) (Or.inr ⟨by rfl, rfl⟩) ?_ ?_
                                                  rotate_left
                                                  · simp only [Act.put, List.setIfInBounds_toArray, List.set_cons_zero, List.set_cons_succ, i64_w, i32_w]
                                                    rfl
                                                  refine pure_ (i := 4) (N := some 123) (v := undef) (a' := ?_) #[true, true, true, true, true, false, false, false, false, false, false, false, false, false, false, false, false, false, false, false] rfl rfl (any_of HT_.out (by kernel_rfl)) (fun _ _ _ h => h) (Or.inr ⟨by rfl, rfl⟩) ?_ ?_
                                                  rotate_left
                                                  · simp only [Act.put, List.setIfInBounds_toArray, List.set_cons_zero, List.set_cons_succ, i64_w, i32_w]
                                                    rfl
                                                  refine pure_ (i := 5) (N := some 124) (v := undef) (a' := ?_) #[true, true, true, true, true, true, false, false, false, false, false, false, false, false, false, false, false, false, false, false] rfl rfl (any_of HT_.out (by kernel_rfl)) (fun _ _ _ h => h) (Or.inr ⟨by rfl, rfl⟩) ?_ ?_
                                                  rotate_left
                                                  · simp only [Act.put, List.setIfInBounds_toArray, List.set_cons_zero, List.set_cons_succ, i64_w, i32_w]
                                                    rfl
                                                  refine pure_ (i := 6) (N := some 125) (v := undef) (a' := ?_) #[true, true, true, true, true, true, true, false, false, false, false, false, false, false, false, false, false, false, false, false] rfl rfl (any_of HT_.out (by kernel_rfl)) (fun _ _ _ h => h) (Or.inr ⟨by rfl, rfl⟩) ?_ ?_
                                                  rotate_left
                                                  · simp only [Act.put, List.setIfInBounds_toArray, List.set_cons_zero, List.set_cons_succ, i64_w, i32_w]
                                                    rfl
                                                  refine pure_ (i := 7) (N := some 126) (v := undef) (a' := ?_) #[true, true, true, true, true, true, true, true, false, false, false, false, false, false, false, false, false, false, false, false] rfl rfl (any_of HT_.out (by kernel_rfl)) (fun _ _ _ h => h) (Or.inr ⟨by rfl, rfl⟩) ?_ ?_
                                                  rotate_left
                                                  · simp only [Act.put, List.setIfInBounds_toArray, List.set_cons_zero, List.set_cons_succ, i64_w, i32_w]
                                                    rfl
                                                  refine pure_ (i := 8) (N := some 127) (v := ?_) (a' := ?_) #[true, true, true, true, true, true, true, true, true, false, false, false, false, false, false, false, false, false, false, false] rfl rfl (any_of HT_.out (by kernel_rfl)) (fun _ _ _ h => h) (Or.inl ⟨by rfl, ?_⟩) ?_ ?_
                                                  rotate_left
                                                  · intro w'
                                                    go_simp
                                                    with_reducible rfl
                                                  rotate_left
                                                  · simp only [Act.put, List.setIfInBounds_toArray, List.set_cons_zero, List.set_cons_succ, i64_w, i32_w]
                                                    rfl
                                                  refine pure_ (i := 9) (N := some 128) (v := ?_) (a' := ?_) #[true, true, true, true, true, true, true, true, true, true, false, false, false, false, false, false, false, false, false, false] rfl rfl (any_of HT_.out (by kernel_rfl)) (fun _ _ _ h => h) (Or.inl ⟨by rfl, ?_⟩) ?_ ?_
                                                  rotate_left
                                                  · intro w'
                                                    go_simp
                                                    with_reducible rfl
                                                  rotate_left
                                                  · simp only [Act.put, List.setIfInBounds_toArray, List.set_cons_zero, List.set_cons_succ, i64_w, i32_w]
                                                    rfl
                                                  refine pure_ (i := 10) (N := some 129) (v := ?_) (a' := ?_) #[true, true, true, true, true, true, true, true, true, true, true, false, false, false, false, false, false, false, false, false] rfl rfl (any_of HT_.out (by kernel_rfl)) (fun _ _ _ h => h) (Or.inl ⟨by rfl, ?_⟩) ?_ ?_
                                                  rotate_left
                                                  · intro w'
                                                    go_simp
                                                    with_reducible rfl
                                                  rotate_left
                                                  · simp only [Act.put, List.setIfInBounds_toArray, List.set_cons_zero, List.set_cons_succ, i64_w, i32_w]
                                                    rfl
                                                  refine pure_ (i := 11) (N := some 130) (v := ?_) (a' := ?_) #[true, true, true, true, true, true, true, true, true, true, true, true, false, false, false, false, false, false, false, false] rfl rfl (any_of HT_.out (by kernel_rfl)) (fun _ _ _ h => h) (Or.inl ⟨by rfl, ?_⟩) ?_ ?_
                                                  rotate_left
                                                  · intro w'
                                                    go_simp
                                                    with_reducible rfl
                                                  rotate_left
                                                  · simp only [Act.put, List.setIfInBounds_toArray, List.set_cons_zero, List.set_cons_succ, i64_w, i32_w]
                                                    rfl
                                                  refine pure_ (i := 12) (N := some 131) (v := ?_) (a' := ?_) #[true, true, true, true, true, true, true, true, true, true, true, true, true, false, false, false, false, false, false, false] rfl rfl (any_of HT_.out (by kernel_rfl)) (fun _ _ _ h => h) (Or.inl ⟨by rfl, ?_⟩) ?_ ?_
                                                  rotate_left
                                                  · intro w'
                                                    go_simp
                                                    with_reducible rfl
                                                  rotate_left
                                                  · simp only [Act.put, List.setIfInBounds_toArray, List.set_cons_zero, List.set_cons_succ, i64_w, i32_w]
                                                    rfl
                                                  refine pure_ (i := 13) (N := some 132) (v := undef) (a' := ?_) #[true, true, true, true, true, true, true, true, true, true, true, true, true, true, false, false, false, false, false, false] rfl rfl (any_of HT_.out (by kernel_rfl)) (fun _ _ _ h => h) (Or.inr ⟨by rfl, rfl⟩) ?_ ?_
                                                  rotate_left
                                                  · simp only [Act.put, List.setIfInBounds_toArray, List.set_cons_zero, List.set_cons_succ, i64_w, i32_w]
                                                    rfl
                                                  refine pure_ (i := 14) (N := some 133) (v := undef) (a' := ?_) #[true, true, true, true, true, true, true, true, true, true, true, true, true, true, true, false, false, false, false, false] rfl rfl (any_of HT_.out (by kernel_rfl)) (fun _ _ _ h => h) (Or.inr ⟨by rfl, rfl⟩) ?_ ?_
                                                  rotate_left
                                                  · simp only [Act.put, List.setIfInBounds_toArray, List.set_cons_zero, List.set_cons_succ, i64_w, i32_w]
                                                    rfl
                                                  refine pure_ (i := 15) (N := some 134) (v := undef) (a' := ?_) #[true, true, true, true, true, true, true, true, true, true, true, true, true, true, true, true, false, false, false, false] rfl rfl (any_of HT_.out (by kernel_rfl)) (fun _ _ _ h => h) (Or.inr ⟨by rfl, rfl⟩) ?_ ?_
                                                  rotate_left
                                                  · simp only [Act.put, List.setIfInBounds_toArray, List.set_cons_zero, List.set_cons_succ, i64_w, i32_w]
                                                    rfl
                                                  refine pure_ (i := 16) (N := some 135) (v := undef) (a' := ?_) #[true, true, true, true, true, true, true, true, true, true, true, true, true, true, true, true, true, false, false, false] rfl rfl (any_of HT_.out (by kernel_rfl)) (fun _ _ _ h => h) (Or.inr ⟨by rfl, rfl⟩) ?_ ?_
                                                  rotate_left
                                                  · simp only [Act.put, List.setIfInBounds_toArray, List.set_cons_zero, List.set_cons_succ, i64_w, i32_w]
                                                    rfl
                                                  refine pure_ (i := 17) (N := some 136) (v := undef) (a' := ?_) #[true, true, true, true, true, true, true, true, true, true, true, true, true, true, true, true, true, true, false, false] rfl rfl (any_of HT_.out (by kernel_rfl)) (fun _ _ _ h => h) (Or.inr ⟨by rfl, rfl⟩) ?_ ?_
                                                  rotate_left
                                                  · simp only [Act.put, List.setIfInBounds_toArray, List.set_cons_zero, List.set_cons_succ, i64_w, i32_w]
                                                    rfl
                                                  refine pure_ (i := 18) (N := some 137) (v := ?_) (a' := ?_) #[true, true, true, true, true, true, true, true, true, true, true, true, true, true, true, true, true, true, true, false] rfl rfl (any_of HT_.out (by kernel_rfl)) (fun _ _ _ h => h) (Or.inl ⟨by rfl, ?_⟩) ?_ ?_
                                                  rotate_left
                                                  · intro w'
                                                    go_simp
                                                    with_reducible rfl
                                                  rotate_left
                                                  · simp only [Act.put, List.setIfInBounds_toArray, List.set_cons_zero, List.set_cons_succ, i64_w, i32_w]
                                                    rfl
                                                  refine pure_ (i := 19) (N := some 138) (v := ?_) (a' := ?_) #[true, true, true, true, true, true, true, true, true, true, true, true, true, true, true, true, true, true, true, true] rfl rfl (any_of HT_.out (by kernel_rfl)) (fun _ _ _ h => h) (Or.inl ⟨by rfl, ?_⟩) ?_ ?_
                                                  rotate_left
                                                  · intro w'
                                                    go_simp
                                                    with_reducible rfl
                                                  rotate_left
                                                  · simp only [Act.put, List.setIfInBounds_toArray, List.set_cons_zero, List.set_cons_succ, i64_w, i32_w]
                                                    rfl
                                                  refine done_ (done_of HT_.out (by kernel_rfl)) ?_
                                                  try go_wp2
                                                  go_meet
                                                  case rel => exact ⟨_, (x6_40), (x7_37), (x203000_1), (x203001_1), (by first | rfl | (simp; done) | (simp [*]; done)), (by first | rfl | (simp; done) | (simp [*]; done)), H', ⟨by have := HK1.out; have := HJ10.out; have := HJ29.out; have := HJ34.out; have := HJ37.out; have := HJ40.out; first | omega | exact Nat.le_refl _⟩, ⟨by (with_reducible repeat (first | apply Kd.V_alloc | apply Kd.V_drewN | apply Kd.V_drew)); exact HO_0.out⟩, ⟨by repeat (first | (with_reducible first | exact HI202.out | apply IsB91.alloc | apply IsB91.drewN | apply IsB91.drew | apply IsB91.set_1) | exact HI202.out)⟩, ⟨by repeat (first | (with_reducible first | exact HB.out | apply below_alloc | apply pw_below_drewN | apply below_drew1 | refine below_set ?_ (IsB91.ge HI202.out)) | exact HB.out)⟩⟩
                                · rw [if_neg c34] at H
                                  exact absurd H (by simp)
                              · rw [if_neg c33] at H
                                exact absurd H (by simp)
                            · replace c32 := Bool.eq_false_iff.mpr c32
                              subst c32
                              have H1 : (if 0 ≤ x8_1 then (if x8_1 < (l1.length : Int) then (if (Go.bits .and .i64 ((rd l1 x8_1) / 4) 7) = 0 then (if 0 ≤ x6_1 then (if x6_1 ≤ (l0.length : Int) then (if x7_1 = true then (waybilllaw1_OctsReads.j7 kj29 l0 l1 x6_1 x7_1 x8_1 ([] : List Int) x203000_1 x203001_1) else (waybilllaw1_OctsReads.j7 kj29 l0 l1 (l0.length : Int) x7_1 x8_1 (l0.drop (x6_1 : Int).toNat) x203000_1 x203001_1)) else (none)) else (none)) else (waybilllaw1_OctsReads.l0 kj29 l0 l1 x6_1 x7_1 (wrap64 (x8_1 + 1)) x203000_1 x203001_1)) else (none)) else (none)) = some r := by rw [if_neg (show ¬ (false = true) by decide)] at H; exact H
                              clear H
                              have H := H1
                              clear H1
                              by_cases c67 : 0 ≤ x8_1
                              · rw [if_pos c67] at H
                                have c67b0 : decide (0 ≤ x8_1) = true := decide_eq_true c67
                                clear c67
                                by_cases c68 : x8_1 < (l1.length : Int)
                                · rw [if_pos c68] at H
                                  have c68b0 : decide (x8_1 < (l1.length : Int)) = true := decide_eq_true c68
                                  clear c68
                                  by_cases c69 : (Go.bits .and .i64 ((rd l1 x8_1) / 4) 7) = 0
                                  · rw [if_pos c69] at H
                                    have c69b0 : ((Go.bits .and .i64 ((rd l1 x8_1) / 4) 7) == 0) = true := beq_iff_eq.mpr c69
                                    have c69b1 : ((Go.bits .and .i64 ((rd l1 x8_1) / 4) 7) != 0) = false := bne_eq_false_iff_eq.mpr c69
                                    clear c69
                                    by_cases c70 : 0 ≤ x6_1
                                    · rw [if_pos c70] at H
                                      have c70b0 := eq_true c70
                                      have c70b1 : decide (0 ≤ x6_1) = true := decide_eq_true c70
                                      clear c70
                                      by_cases c71 : x6_1 ≤ (l0.length : Int)
                                      · rw [if_pos c71] at H
                                        have c71b0 := eq_true c71
                                        have c71b1 : decide (x6_1 ≤ (l0.length : Int)) = true := decide_eq_true c71
                                        clear c71
                                        obtain ⟨y236, hy236⟩ : ∃ y_ : List Int, y_ = (l0.drop (x6_1 : Int).toNat) := ⟨_, rfl⟩
                                        replace H : (if x7_1 = true then (waybilllaw1_OctsReads.j7 kj29 l0 l1 x6_1 x7_1 x8_1 ([] : List Int) x203000_1 x203001_1) else (waybilllaw1_OctsReads.j7 kj29 l0 l1 (l0.length : Int) x7_1 x8_1 y236 x203000_1 x203001_1)) = some r := by first | (rw [hy236]; with_reducible exact H) | (have H2_ := (Option.bind_some _ _).symm.trans H; rw [hy236]; with_reducible exact H2_) | (have H2_ := (Option.bind_some _ _).symm.trans H; with_reducible exact H2_) | with_reducible exact H | (rw [hy236]; exact H) | exact H
                                        have Ny236 := Aside0.mk hy236
                                        clear hy236
                                        have HC72 := Aside0.mk H
                                        clear H
                                        have p235 : 0 ≤ (x8_1 : Int) := of_decide_eq_true (by first | (with_reducible assumption) | assumption)
                                        have q235 : x8_1 < (l1.length : Int) := of_decide_eq_true (by first | (with_reducible assumption) | assumption)
                                        obtain ⟨ad235, e235, hx235_0⟩ := Kd.at_int HR1.out x8_1 p235 q235
                                        obtain rfl : ad204 = ad235 := (by injection e235)
                                        replace hx235_0 := (HB.out.cell (World.block_lt_of_cell? w _ hx235_0)).trans hx235_0
                                        replace p235 := eq_true p235
                                        replace q235 := eq_true q235
                                        have q73 : (x6_1 : Int) ≤ ((l0.length : Int) : Int) := of_decide_eq_true (by first | (with_reducible assumption) | assumption)
                                        obtain ⟨i073, hi073, _, hsz73, _⟩ := info_parts info5
                                        have hroom73 : l0.length ≤ c0 := (Kd.V_reads' HO_0.out).2.1
                                        have hC73 : Kd.F (Kd.int .u8) _ _ A0 l0.length l0 := (Kd.V_at (base := w.heap.size) HO_0.out).2.2
                                        have q073 : (0 : Int) ≤ (x6_1 : Int) := of_decide_eq_true (by first | (with_reducible assumption) | assumption)
                                        have hcut73 := cut_from (P := Try.prog) 26 5 .i64 Try.underlying26 hi073 1 hsz73 A0 l0.length c0 x6_1 q073 q73
                                        have hr73 := Kd.F_cut (m := (x6_1 : Int).toNat) (c := c0) hC73 (by omega) hroom73
                                        obtain ⟨A73, hA73⟩ : ∃ A1, A1 = (if c0 = (x6_1 : Int).toNat then A0 else (A0 : Option Addr).map (·.add ((x6_1 : Int).toNat * 1))) := ⟨_, rfl⟩
                                        obtain ⟨c73, hc73⟩ : ∃ c1, c1 = c0 - (x6_1 : Int).toNat := ⟨_, rfl⟩
                                        have hy73 : y236.length = l0.length - (x6_1 : Int).toNat := (by rw [Ny236.out, List.length_drop] <;> omega)
                                        rw [show (l0).drop (x6_1 : Int).toNat = y236 from Ny236.out.symm] at hr73
                                        replace hr73 : Kd.F (Kd.int .u8) _ _ A73 y236.length y236 := (by rw [hA73]; exact hr73)
                                        rw [← hy73, ← hA73, ← hc73] at hcut73
                                        have HO240 := Aside0.mk (show Kd.V (Kd.int .u8) 5 _ w.heap.size _ (.slice A73 y236.length c73) y236 from Kd.V_mk (by rw [hy73, hc73]; exact Nat.sub_le_sub_right hroom73 _) hr73)
                                        have HC240 := Aside0.mk (show y236.length ≤ c73 from by rw [hy73, hc73]; exact Nat.sub_le_sub_right hroom73 _)
                                        clear hr73 hC73 hroom73 hi073 hsz73 hc73
                                        have KY73 := Aside0.mk hy73
                                        have KA73 := Aside0.mk hA73
                                        clear hy73 hA73
                                        replace q73 := eq_true q73
                                        go_upto_if 56 with (fail)
                                        go_cut [6, 17] (fun v6 v17 wc => ∃ (kq : Nat) (x6_71 : Int) (x17_71 : List Int), v6 = .int .i64 x6_71 ∧ Aside0 (waybilllaw1_OctsReads.j7 kq l0 l1 x6_71 x7_1 x8_1 x17_71 x203000_1 x203001_1 = some r) ∧ Aside0 (kq ≤ kj29) ∧ Aside0 (Kd.V (Kd.int .u8) 5 wc w.heap.size (fun k_ => (P0_ k_ ∨ w.heap.size ≤ k_) ∧ k_ ≠ g202) (.slice A0 l0.length c0) l0) ∧ Aside0 (Kd.V (Kd.int .u8) 5 wc w.heap.size (fun k_ => (P0_ k_ ∨ w.heap.size ≤ k_) ∧ k_ ≠ g202) v17 x17_71) ∧ Aside0 (IsB91 w wc g202 x203000_1 x203001_1) ∧ Aside0 (Below w.heap.size w wc))
                                        case first => as_aux_lemma =>
                                          have H := HC72.out
                                          clear HC72
                                          by_cases c74 : x7_1 = true
                                          · subst c74
                                            have H1 : (waybilllaw1_OctsReads.j7 kj29 l0 l1 x6_1 true x8_1 ([] : List Int) x203000_1 x203001_1) = some r := by rw [if_pos rfl] at H; exact H
                                            clear H
                                            have H := H1
                                            clear H1
                                            have H' := Aside0.mk H
                                            clear H
                                            go_wp2
                                            go_meet
                                            case rel => exact ⟨_, (x6_1), (([] : List Int)), (by first | rfl | (simp; done) | (simp [*]; done)), H', ⟨by have := HK1.out; have := HJ10.out; have := HJ29.out; first | omega | exact Nat.le_refl _⟩, ⟨by (with_reducible repeat (first | apply Kd.V_alloc | apply Kd.V_drewN | apply Kd.V_drew)); exact HO_0.out⟩, ⟨(Kd.V_nil _ _ _ _ _)⟩, ⟨by repeat (first | (with_reducible first | exact HI202.out | apply IsB91.alloc | apply IsB91.drewN | apply IsB91.drew | apply IsB91.set_1) | exact HI202.out)⟩, ⟨by repeat (first | (with_reducible first | exact HB.out | apply below_alloc | apply pw_below_drewN | apply below_drew1 | refine below_set ?_ (IsB91.ge HI202.out)) | exact HB.out)⟩⟩
                                          · replace c74 := Bool.eq_false_iff.mpr c74
                                            subst c74
                                            have H1 : (waybilllaw1_OctsReads.j7 kj29 l0 l1 (l0.length : Int) false x8_1 y236 x203000_1 x203001_1) = some r := by rw [if_neg (show ¬ (false = true) by decide)] at H; exact H
                                            clear H
                                            have H := H1
                                            clear H1
                                            have H' := Aside0.mk H
                                            clear H
                                            go_wp2
                                            go_meet
                                            case rel => exact ⟨_, ((l0.length : Int)), (y236), (by first | rfl | (simp; done) | (simp [*]; done)), H', ⟨by have := HK1.out; have := HJ10.out; have := HJ29.out; first | omega | exact Nat.le_refl _⟩, ⟨by (with_reducible repeat (first | apply Kd.V_alloc | apply Kd.V_drewN | apply Kd.V_drew)); exact HO_0.out⟩, ⟨by (with_reducible repeat (first | apply Kd.V_alloc | apply Kd.V_drewN | apply Kd.V_drew)); exact HO240.out⟩, ⟨by repeat (first | (with_reducible first | exact HI202.out | apply IsB91.alloc | apply IsB91.drewN | apply IsB91.drew | apply IsB91.set_1) | exact HI202.out)⟩, ⟨by repeat (first | (with_reducible first | exact HB.out | apply below_alloc | apply pw_below_drewN | apply below_drew1 | refine below_set ?_ (IsB91.ge HI202.out)) | exact HB.out)⟩⟩
                                        case rest => as_aux_lemma =>
                                          clear HC72
                                          try clear c1
                                          try clear p2
                                          try clear q2
                                          try clear hx2
                                          try clear c3
                                          try clear c4
                                          try clear c5
                                          try clear c6
                                          try clear p6
                                          try clear c7
                                          try clear q7
                                          try clear p23
                                          try clear q23
                                          try clear hx23
                                          try clear c31
                                          try clear c32
                                          try clear c33
                                          try clear c34
                                          try clear c43
                                          try clear c43b0
                                          try clear c43b1
                                          try clear c45
                                          try clear c45b0
                                          try clear c45b1
                                          try clear c58
                                          try clear c58b0
                                          try clear c58b1
                                          try clear c61
                                          try clear p64
                                          try clear c67
                                          try clear c67b0
                                          try clear c68
                                          try clear c68b0
                                          try clear c69
                                          try clear c69b0
                                          try clear c69b1
                                          try clear c70
                                          try clear c70b0
                                          try clear c70b1
                                          try clear c71
                                          try clear c71b0
                                          try clear c71b1
                                          try clear c73
                                          try clear q73
                                          try clear c74
                                          try clear hx235_0
                                          try clear p235
                                          try clear q073
                                          try clear q235
                                          try clear q73
                                          obtain ⟨kq, x6_71, x17_71, rfl, HA, HJ71, HO_0, HO_17, HI202, HB⟩ := hcut
                                          cases kq with
                                          | zero => exact absurd HA.out (by simp [waybilllaw1_OctsReads.j7])
                                          | succ kj71 =>
                                            have H := HA.out
                                            clear HA
                                            simp only [waybilllaw1_OctsReads.j7] at H
                                            replace H := Option.bind_eq_some_iff.mp H
                                            obtain ⟨⟨t241, t244, t245⟩, A750, H⟩ := H
                                            replace H : ((waybilllaw1_SameBytes.f t241 x17_71).bind fun t246 => (if t246 = true then (waybilllaw1_OctsReads.j8 kj71 l0 l1 x6_71 x7_1 x8_1 t244 t245) else (none))) = some r := H
                                            have A75 := Aside0.mk A750
                                            clear A750
                                            replace H := Option.bind_eq_some_iff.mp H
                                            obtain ⟨t246, A760, H⟩ := H
                                            replace H : (if t246 = true then (waybilllaw1_OctsReads.j8 kj71 l0 l1 x6_71 x7_1 x8_1 t244 t245) else (none)) = some r := H
                                            have A76 := Aside0.mk A760
                                            clear A760
                                            by_cases c77 : t246 = true
                                            · subst c77
                                              have H1 : (waybilllaw1_OctsReads.j8 kj71 l0 l1 x6_71 x7_1 x8_1 t244 t245) = some r := by rw [if_pos rfl] at H; exact H
                                              clear H
                                              have H := H1
                                              clear H1
                                              have H' := Aside0.mk H
                                              clear H
                                              go_wp2_with (first | ((with_reducible refine gate_callee (f := 34) rfl ?_); refine goesL_ (some 60) rfl rfl Try.func34 (by kernel_rfl) rfl #[.pointer (some ⟨g202, 0, none⟩)] rfl (by (try simp only [List.map_toArray, List.map_cons, List.map_nil]); first | done | rfl | (simp only [List.length_drop, List.length_take]; rfl)) ?_; (with_reducible refine (octs_In_Rest.callsB g202 x203000_1 x203001_1 t241 t244 t245 w _ ?side1 ?side2 A75.out).mono ?_); (case side1 => repeat (first | (with_reducible first | exact HI202.out | apply IsB91.alloc | apply IsB91.drewN | apply IsB91.drew | apply IsB91.set_1) | exact HI202.out)); (case side2 => repeat (first | (with_reducible first | exact HB.out | apply below_alloc | apply pw_below_drewN | apply below_drew1 | refine below_set ?_ (IsB91.ge HI202.out)) | exact HB.out)); rintro e w78 ⟨v242, rfl, ho0, hi, hb, hk⟩; refine ⟨_, rfl, ?_⟩; have n0_ := Aside0.mk (Kd.V_mono (Kd.V_told (Kd.V_oldK (Kd.V_mono (ok := fun k_ => (((P0_ k_ ∨ w.heap.size ≤ k_)) ∧ k_ ≠ g202)) (by (with_reducible repeat (first | apply Kd.V_alloc | apply Kd.V_drewN | apply Kd.V_drew)); exact HO_0.out) (fun k_ hk_ => (⟨hk_, hk_.2⟩ : _ ∧ k_ ≠ g202))) hk) (Kd.R_base ho0)) (fun _ h_ => h_.1)); have n1_ := Aside0.mk (Kd.V_mono (Kd.V_told (Kd.V_oldK (Kd.V_mono (ok := fun k_ => (((P0_ k_ ∨ w.heap.size ≤ k_)) ∧ k_ ≠ g202)) (by (with_reducible repeat (first | apply Kd.V_alloc | apply Kd.V_drewN | apply Kd.V_drew)); exact HO_17.out) (fun k_ hk_ => (⟨hk_, hk_.2⟩ : _ ∧ k_ ≠ g202))) hk) (Kd.R_base ho0)) (fun _ h_ => h_.1)); have n2_ := Aside0.mk (Kd.R_lower (Kd.R_newM (M := fun k_ => (w.heap.size ≤ k_)) ho0 (below_size (by repeat (first | (with_reducible first | exact HB.out | apply below_alloc | apply pw_below_drewN | apply below_drew1 | refine below_set ?_ (IsB91.ge HI202.out)) | exact HB.out))) (fun k_ h_ => h_)) (below_size (by repeat (first | (with_reducible first | exact HB.out | apply below_alloc | apply pw_below_drewN | apply below_drew1 | refine below_set ?_ (IsB91.ge HI202.out)) | exact HB.out)))); have n3_ := Aside0.mk (hb); have n4_ := Aside0.mk (hi); clear HO_0; clear HO_17; clear HB; clear HI202; have HO_0 := n0_; have HO_17 := n1_; have HO243 := n2_; have HB := n3_; have HI202 := n4_; clear n0_ n1_ n2_ n3_ n4_; (try clear hb); (try clear hb2); (try clear hk); (try clear hi); (try clear hge); (try clear ho0); obtain ⟨Ao79, co79, eo79⟩ := Kd.R_slice HO243.out; subst eo79; obtain ⟨Ao80, co80, eo80⟩ := Kd.V_slice HO_17.out; subst eo80) | ((with_reducible refine gate_callee (f := 32) rfl ?_); refine goesL_ (some 62) rfl rfl Try.func32 (by kernel_rfl) rfl #[.slice Ao79 t241.length co79, .slice Ao80 x17_71.length co80] rfl (by (try simp only [List.map_toArray, List.map_cons, List.map_nil]); first | done | rfl | (simp only [List.length_drop, List.length_take]; rfl)) ?_; (with_reducible refine (waybilllaw1_SameBytes.calls _ _ t241 _ _ x17_71 true _ ?side1 ?side2 ?side3 ?side4 A76.out).mono ?_); (case side1 => repeat (first | exact (Kd.R_reads' HO243.out).2.2 | (with_reducible refine Kd.C_alloc ?_ _) | (with_reducible refine Kd.C_drewN ?_ _) | (with_reducible refine Kd.C_drew ?_))); (case side2 => exact (Kd.R_reads' HO243.out).2.1); (case side3 => repeat (first | exact (Kd.V_reads' HO_17.out).2.2 | (with_reducible refine Kd.C_alloc ?_ _) | (with_reducible refine Kd.C_drewN ?_ _) | (with_reducible refine Kd.C_drew ?_))); (case side4 => exact (Kd.V_reads' HO_17.out).2.1); rintro e w' ⟨rfl, ⟨nd, rfl⟩⟩; refine ⟨_, rfl, ?_⟩))
                                              go_meet
                                              case rel => exact ⟨_, (x6_71), (x7_1), (t244), (t245), (by first | rfl | (simp; done) | (simp [*]; done)), (by first | rfl | (simp; done) | (simp [*]; done)), H', ⟨by have := HK1.out; have := HJ10.out; have := HJ29.out; have := HJ71.out; first | omega | exact Nat.le_refl _⟩, ⟨by (with_reducible repeat (first | apply Kd.V_alloc | apply Kd.V_drewN | apply Kd.V_drew)); exact Kd.V_mono HO_0.out (fun _ hk => ⟨hk.1.1, hk.1.2⟩)⟩, ⟨by repeat (first | (with_reducible first | exact HI202.out | apply IsB91.alloc | apply IsB91.drewN | apply IsB91.drew | apply IsB91.set_1) | exact HI202.out)⟩, ⟨by repeat (first | (with_reducible first | exact HB.out | apply below_alloc | apply pw_below_drewN | apply below_drew1 | refine below_set ?_ (IsB91.ge HI202.out)) | exact HB.out)⟩⟩
                                            · replace c77 := Bool.eq_false_iff.mpr c77
                                              subst c77
                                              have H1 : (none) = some r := by rw [if_neg (show ¬ (false = true) by decide)] at H; exact H
                                              clear H
                                              have H := H1
                                              clear H1
                                              exact absurd H (by simp)
                                      · rw [if_neg c71] at H
                                        exact absurd H (by simp)
                                    · rw [if_neg c70] at H
                                      exact absurd H (by simp)
                                  · rw [if_neg c69] at H
                                    have c69b0 : ((Go.bits .and .i64 ((rd l1 x8_1) / 4) 7) == 0) = false := beq_eq_false_iff_ne.mpr c69
                                    have c69b1 : ((Go.bits .and .i64 ((rd l1 x8_1) / 4) 7) != 0) = true := bne_iff_ne.mpr c69
                                    have H' := Aside0.mk H
                                    clear H
                                    have p235 : 0 ≤ (x8_1 : Int) := of_decide_eq_true (by first | (with_reducible assumption) | assumption)
                                    have q235 : x8_1 < (l1.length : Int) := of_decide_eq_true (by first | (with_reducible assumption) | assumption)
                                    obtain ⟨ad235, e235, hx235_0⟩ := Kd.at_int HR1.out x8_1 p235 q235
                                    obtain rfl : ad204 = ad235 := (by injection e235)
                                    replace hx235_0 := (HB.out.cell (World.block_lt_of_cell? w _ hx235_0)).trans hx235_0
                                    replace p235 := eq_true p235
                                    replace q235 := eq_true q235
                                    go_wp2
                                    go_roundg kj29
                                    case measure => have := HK1.out; have := HJ10.out; have := HJ29.out; omega
                                    case rel => exact ⟨(x6_1), (x7_1), (wrap64 (x8_1 + 1)), (x203000_1), (x203001_1), (by first | rfl | (simp; done) | (simp [*]; done)), (by first | rfl | (simp; done) | (simp [*]; done)), (by first | rfl | (simp; done) | (simp [*]; done)), H', ⟨by have := HK1.out; have := HJ10.out; have := HJ29.out; omega⟩, ⟨by (with_reducible repeat (first | apply Kd.V_alloc | apply Kd.V_drewN | apply Kd.V_drew)); exact HO_0.out⟩, ⟨by repeat (first | (with_reducible first | exact HI202.out | apply IsB91.alloc | apply IsB91.drewN | apply IsB91.drew | apply IsB91.set_1) | exact HI202.out)⟩, ⟨by repeat (first | (with_reducible first | exact HB.out | apply below_alloc | apply pw_below_drewN | apply below_drew1 | refine below_set ?_ (IsB91.ge HI202.out)) | exact HB.out)⟩⟩
                                · rw [if_neg c68] at H
                                  exact absurd H (by simp)
                              · rw [if_neg c67] at H
                                exact absurd H (by simp)
                    case rest => as_aux_lemma =>
                      clear HC16
                      try clear c1
                      try clear p2
                      try clear q2
                      try clear hx2
                      try clear c3
                      try clear c4
                      try clear c5
                      try clear c6
                      try clear p6
                      try clear c7
                      try clear q7
                      try clear p23
                      try clear q23
                      try clear hx23
                      try clear c31
                      try clear c32
                      try clear c33
                      try clear c34
                      try clear c43
                      try clear c43b0
                      try clear c43b1
                      try clear c45
                      try clear c45b0
                      try clear c45b1
                      try clear c58
                      try clear c58b0
                      try clear c58b1
                      try clear c61
                      try clear p64
                      try clear c67
                      try clear c67b0
                      try clear c68
                      try clear c68b0
                      try clear c69
                      try clear c69b0
                      try clear c69b1
                      try clear c70
                      try clear c70b0
                      try clear c70b1
                      try clear c71
                      try clear c71b0
                      try clear c71b1
                      try clear c73
                      try clear q73
                      try clear c74
                      try clear c77
                      try clear hx235_0
                      try clear p2
                      try clear p23
                      try clear p235
                      try clear p6
                      try clear p64
                      try clear q073
                      try clear q2
                      try clear q23
                      try clear q235
                      try clear q7
                      try clear q73
                      obtain ⟨kq, x6_15, x7_15, x203000_15, x203001_15, rfl, rfl, HA, HJ15, HO_0, HI202, HB⟩ := hcut
                      cases kq with
                      | zero => exact absurd HA.out (by simp [waybilllaw1_OctsReads.j8])
                      | succ kj15 =>
                        have H := HA.out
                        clear HA
                        simp only [waybilllaw1_OctsReads.j8] at H
                        have HC81 := Aside0.mk H
                        clear H
                        go_upto_if 143 with (fail)
                        go_cut [18] (fun v18 wc => ∃ (kq : Nat) (x18_80 : Int), v18 = .int .i64 x18_80 ∧ Aside0 (waybilllaw1_OctsReads.j9 kq l0 l1 x6_15 x7_15 x8_1 x18_80 x203000_15 x203001_15 = some r) ∧ Aside0 (kq ≤ kj15) ∧ Aside0 (Kd.V (Kd.int .u8) 5 wc w.heap.size (fun k_ => (P0_ k_ ∨ w.heap.size ≤ k_) ∧ k_ ≠ g202) (.slice A0 l0.length c0) l0) ∧ Aside0 (IsB91 w wc g202 x203000_15 x203001_15) ∧ Aside0 (Below w.heap.size w wc))
                        case first => as_aux_lemma =>
                          have H := HC81.out
                          clear HC81
                          by_cases c82 : x7_15 = true
                          · subst c82
                            have H1 : (waybilllaw1_OctsReads.j9 kj15 l0 l1 x6_15 true x8_1 0 x203000_15 x203001_15) = some r := by rw [if_pos rfl] at H; exact H
                            clear H
                            have H := H1
                            clear H1
                            have H' := Aside0.mk H
                            clear H
                            go_wp2
                            go_meet
                            case rel => exact ⟨_, (0), (by first | rfl | (simp; done) | (simp [*]; done)), H', ⟨by have := HK1.out; have := HJ10.out; have := HJ15.out; first | omega | exact Nat.le_refl _⟩, ⟨by (with_reducible repeat (first | apply Kd.V_alloc | apply Kd.V_drewN | apply Kd.V_drew)); exact HO_0.out⟩, ⟨by repeat (first | (with_reducible first | exact HI202.out | apply IsB91.alloc | apply IsB91.drewN | apply IsB91.drew | apply IsB91.set_1) | exact HI202.out)⟩, ⟨by repeat (first | (with_reducible first | exact HB.out | apply below_alloc | apply pw_below_drewN | apply below_drew1 | refine below_set ?_ (IsB91.ge HI202.out)) | exact HB.out)⟩⟩
                          · replace c82 := Bool.eq_false_iff.mpr c82
                            subst c82
                            have H1 : (waybilllaw1_OctsReads.j9 kj15 l0 l1 x6_15 false x8_1 (wrap64 ((l0.length : Int) - x6_15)) x203000_15 x203001_15) = some r := by rw [if_neg (show ¬ (false = true) by decide)] at H; exact H
                            clear H
                            have H := H1
                            clear H1
                            have H' := Aside0.mk H
                            clear H
                            go_wp2
                            go_meet
                            case rel => exact ⟨_, (wrap64 ((l0.length : Int) - x6_15)), (by first | rfl | (simp; done) | (simp [*]; done)), H', ⟨by have := HK1.out; have := HJ10.out; have := HJ15.out; first | omega | exact Nat.le_refl _⟩, ⟨by (with_reducible repeat (first | apply Kd.V_alloc | apply Kd.V_drewN | apply Kd.V_drew)); exact HO_0.out⟩, ⟨by repeat (first | (with_reducible first | exact HI202.out | apply IsB91.alloc | apply IsB91.drewN | apply IsB91.drew | apply IsB91.set_1) | exact HI202.out)⟩, ⟨by repeat (first | (with_reducible first | exact HB.out | apply below_alloc | apply pw_below_drewN | apply below_drew1 | refine below_set ?_ (IsB91.ge HI202.out)) | exact HB.out)⟩⟩
                        case rest => as_aux_lemma =>
                          clear HC81
                          try clear c1
                          try clear p2
                          try clear q2
                          try clear hx2
                          try clear c3
                          try clear c4
                          try clear c5
                          try clear c6
                          try clear p6
                          try clear c7
                          try clear q7
                          try clear c8
                          try clear p23
                          try clear q23
                          try clear hx23
                          try clear c31
                          try clear c32
                          try clear c33
                          try clear c34
                          try clear c43
                          try clear c43b0
                          try clear c43b1
                          try clear c45
                          try clear c45b0
                          try clear c45b1
                          try clear c58
                          try clear c58b0
                          try clear c58b1
                          try clear c61
                          try clear p64
                          try clear c67
                          try clear c67b0
                          try clear c68
                          try clear c68b0
                          try clear c69
                          try clear c69b0
                          try clear c69b1
                          try clear c70
                          try clear c70b0
                          try clear c70b1
                          try clear c71
                          try clear c71b0
                          try clear c71b1
                          try clear c73
                          try clear q73
                          try clear c74
                          try clear c77
                          try clear c82
                          try clear hx235_0
                          try clear p2
                          try clear p23
                          try clear p235
                          try clear p6
                          try clear p64
                          try clear q073
                          try clear q2
                          try clear q23
                          try clear q235
                          try clear q7
                          try clear q73
                          obtain ⟨kq, x18_80, rfl, HA, HJ80, HO_0, HI202, HB⟩ := hcut
                          cases kq with
                          | zero => exact absurd HA.out (by simp [waybilllaw1_OctsReads.j9])
                          | succ kj80 =>
                            have H := HA.out
                            clear HA
                            simp only [waybilllaw1_OctsReads.j9] at H
                            replace H := Option.bind_eq_some_iff.mp H
                            obtain ⟨⟨t247, t248, t249⟩, A830, H⟩ := H
                            replace H : (if (t247 == x7_15) = true then (none) else ((octs_In_Left.f t248 t249).bind fun bt250 => (if bt250.1 = x18_80 then (waybilllaw1_OctsReads.l0 kj80 l0 l1 x6_15 x7_15 (wrap64 (x8_1 + 1)) bt250.2.1 bt250.2.2) else (none)))) = some r := H
                            have A83 := Aside0.mk A830
                            clear A830
                            by_cases c84 : (t247 == x7_15) = true
                            · rw [if_pos c84] at H
                              exact absurd H (by simp)
                            · rw [if_neg c84] at H
                              have c84b0 : (t247 == x7_15) = false := by simpa using c84
                              (try (have c84b1 : decide (t247 = x7_15) = false := by simpa using c84))
                              (try (have c84b2 : (t247 == x7_15) = false := by simpa using c84))
                              (try (have c84b3 : ¬ (t247 = x7_15) := by simpa using c84))
                              clear c84
                              replace H := Option.bind_eq_some_iff.mp H
                              obtain ⟨⟨t250, t251, t252⟩, A850, H⟩ := H
                              replace H : (if t250 = x18_80 then (waybilllaw1_OctsReads.l0 kj80 l0 l1 x6_15 x7_15 (wrap64 (x8_1 + 1)) t251 t252) else (none)) = some r := H
                              have A85 := Aside0.mk A850
                              clear A850
                              by_cases c86 : t250 = x18_80
                              · rw [if_pos c86] at H
                                have c86b0 : (t250 == x18_80) = true := beq_iff_eq.mpr c86
                                have c86b1 : (t250 != x18_80) = false := bne_eq_false_iff_eq.mpr c86
                                clear c86
                                have H' := Aside0.mk H
                                clear H
                                go_wp2_with (first | ((with_reducible refine gate_callee (f := 27) rfl ?_); refine goesL_ (some 145) rfl rfl Try.func27 (by kernel_rfl) rfl #[.pointer (some ⟨g202, 0, none⟩)] rfl (by (try simp only [List.map_toArray, List.map_cons, List.map_nil]); first | done | rfl | (simp only [List.length_drop, List.length_take]; rfl)) ?_; (with_reducible refine (octs_In_Ok.callsB g202 x203000_15 x203001_15 t247 t248 t249 w _ ?side1 ?side2 A83.out).mono ?_); (case side1 => repeat (first | (with_reducible first | exact HI202.out | apply IsB91.alloc | apply IsB91.drewN | apply IsB91.drew | apply IsB91.set_1) | exact HI202.out)); (case side2 => repeat (first | (with_reducible first | exact HB.out | apply below_alloc | apply pw_below_drewN | apply below_drew1 | refine below_set ?_ (IsB91.ge HI202.out)) | exact HB.out)); rintro e w87 ⟨rfl, hi, hb, hk⟩; refine ⟨_, rfl, ?_⟩; have n0_ := Aside0.mk (Kd.V_mono (Kd.V_keep (Kd.V_mono (ok := fun k_ => (((P0_ k_ ∨ w.heap.size ≤ k_)) ∧ k_ ≠ g202)) (by (with_reducible repeat (first | apply Kd.V_alloc | apply Kd.V_drewN | apply Kd.V_drew)); exact HO_0.out) (fun k_ hk_ => (⟨hk_, hk_.2⟩ : _ ∧ k_ ≠ g202))) hk (fun _ h => h.2)) (fun _ h => h.1)); have n1_ := Aside0.mk (hb); have n2_ := Aside0.mk (hi); clear HO_0; clear HB; clear HI202; have HO_0 := n0_; have HB := n1_; have HI202 := n2_; clear n0_ n1_ n2_; (try clear hb); (try clear hb2); (try clear hk); (try clear hi); (try clear hge)) | (go_at_call 35; (with_reducible refine (octs_In_Left.callsB g202 t248 t249 t250 t251 t252 w _ ?side1 ?side2 A85.out).mono ?_); (case side1 => repeat (first | (with_reducible first | exact HI202.out | apply IsB91.alloc | apply IsB91.drewN | apply IsB91.drew | apply IsB91.set_1) | exact HI202.out)); (case side2 => repeat (first | (with_reducible first | exact HB.out | apply below_alloc | apply pw_below_drewN | apply below_drew1 | refine below_set ?_ (IsB91.ge HI202.out)) | exact HB.out)); rintro e w88 ⟨rfl, hi, hb, hk⟩; have n0_ := Aside0.mk (Kd.V_mono (Kd.V_keep (Kd.V_mono (ok := fun k_ => (((P0_ k_ ∨ w.heap.size ≤ k_)) ∧ k_ ≠ g202)) (by (with_reducible repeat (first | apply Kd.V_alloc | apply Kd.V_drewN | apply Kd.V_drew)); exact HO_0.out) (fun k_ hk_ => (⟨hk_, hk_.2⟩ : _ ∧ k_ ≠ g202))) hk (fun _ h => h.2)) (fun _ h => h.1)); have n1_ := Aside0.mk (hb); have n2_ := Aside0.mk (hi); clear HO_0; clear HB; clear HI202; have HO_0 := n0_; have HB := n1_; have HI202 := n2_; clear n0_ n1_ n2_; (try clear hb); (try clear hb2); (try clear hk); (try clear hi); (try clear hge)))
                                go_roundg kj80
                                case measure => have := HK1.out; have := HJ10.out; have := HJ15.out; have := HJ80.out; omega
                                case rel => exact ⟨(x6_15), (x7_15), (wrap64 (x8_1 + 1)), (t251), (t252), (by first | rfl | (simp; done) | (simp [*]; done)), (by first | rfl | (simp; done) | (simp [*]; done)), (by first | rfl | (simp; done) | (simp [*]; done)), H', ⟨by have := HK1.out; have := HJ10.out; have := HJ15.out; have := HJ80.out; omega⟩, ⟨by (with_reducible repeat (first | apply Kd.V_alloc | apply Kd.V_drewN | apply Kd.V_drew)); exact HO_0.out⟩, ⟨by repeat (first | (with_reducible first | exact HI202.out | apply IsB91.alloc | apply IsB91.drewN | apply IsB91.drew | apply IsB91.set_1) | exact HI202.out)⟩, ⟨by repeat (first | (with_reducible first | exact HB.out | apply below_alloc | apply pw_below_drewN | apply below_drew1 | refine below_set ?_ (IsB91.ge HI202.out)) | exact HB.out)⟩⟩
                              · rw [if_neg c86] at H
                                exact absurd H (by simp)
                  · rw [if_neg c15] at H
                    exact absurd H (by simp)
                · rw [if_neg c14] at H
                  exact absurd H (by simp)
              · replace c13 := Bool.eq_false_iff.mpr c13
                subst c13
                have H1 : (some true) = some r := by rw [if_neg (show ¬ (false = true) by decide)] at H; exact H
                clear H
                have H := H1
                clear H1
                obtain rfl := Option.some.inj H
                go_wp2
                all_goals first | (go_ret; exact ⟨by first | rfl | (simp [errW_none, errW_some]; done) | (simp [errW_none, errW_some]; rfl) | (simp [*, errW_none, errW_some]; done) | (simp [*, errW_none, errW_some]; rfl), by repeat (first | (with_reducible first | exact HB.out | apply below_alloc | apply pw_below_drewN | apply below_drew1 | refine below_set ?_ (IsB91.ge HI202.out)) | exact HB.out)⟩) | (exfalso; simp_all; done)
    · replace c8 := Bool.eq_false_iff.mpr c8
      subst c8
      have H1 : (none) = some r := by rw [if_neg (show ¬ (false = true) by decide)] at H; exact H
      clear H
      have H := H1
      clear H1
      exact absurd H (by simp)

/-- THE ONE PURE STATEMENT of waybilllaw1_OctsReads: yours. -/
def waybilllaw1_OctsReads.Pure : Prop := ∀ (l0 : List Int) (l1 : List Int), l0.length ≤ maxLen → l0.length * 1 ≤ 140737488351232 → (∀ x ∈ l0, (Lit.int .u8 x).wf = true) → l1.length ≤ maxLen → l1.length * 8 ≤ 140737488351232 → (∀ x ∈ l1, (Lit.int .i64 x).wf = true) → ∃ k, waybilllaw1_OctsReads.f k l0 l1 = some true
theorem waybilllaw1_OctsReads.walk (P : waybilllaw1_OctsReads.Pure) (a0 : Option Addr) (len0 cap0 : Nat) (z0 : List Int) (a1 : Option Addr) (len1 cap1 : Nat) (z1 : List Int) (w : World) (w0 : (a0 = none ∧ len0 = 0 ∧ cap0 = 0 ∧ z0 = []) ∨ ∃ x, a0 = some x ∧ len0 ≤ cap0 ∧ cap0 ≤ maxLen ∧ z0.length = cap0 ∧ (∀ i, i < z0.length → w.cell? (x.add i) = some (.int .u8 (z0.getD i 0))) ∧ ∀ n ∈ z0, (Lit.int .u8 n).wf = true) (y0 : len0 * 1 ≤ 140737488351232) (w1 : (a1 = none ∧ len1 = 0 ∧ cap1 = 0 ∧ z1 = []) ∨ ∃ x, a1 = some x ∧ len1 ≤ cap1 ∧ cap1 ≤ maxLen ∧ z1.length = cap1 ∧ (∀ i, i < z1.length → w.cell? (x.add i) = some (.int .i64 (z1.getD i 0))) ∧ ∀ n ∈ z1, (Lit.int .i64 n).wf = true) (y1 : len1 * 8 ≤ 140737488351232) :
    Calls Try.prog 7 #[.slice a0 len0 cap0, .slice a1 len1 cap1] w fun e w' => e = .returned (.bool true) ∧ Below w.heap.size w w' := by
  obtain ⟨l0, rfl, hr0, hm0, hw0, hc0⟩ := ReadsInt.ofRowC w0
  obtain ⟨l1, rfl, hr1, hm1, hw1, hc1⟩ := ReadsInt.ofRowC w1
  obtain ⟨k, h⟩ := P l0 l1 hm0 y0 hw0 hm1 y1 hw1
  refine (waybilllaw1_OctsReads.calls k (fun k_ => k_ < w.heap.size) _ _ l0 _ _ l1 true w ⟨_, _, rfl, hc0, Kd.C_F (Kd.heap_int .u8) (Kd.C_of_reads (d := (0 : Int)) (h1 := fun _ => rfl) hr0)⟩ (Kd.C_of_reads (d := (0 : Int)) (h1 := fun _ => rfl) hr1) hc1 h).mono ?_
  rintro e w' ⟨rfl, hd⟩
  exact ⟨rfl, hd⟩

end Go.Proofs.Ytlhcjgmdcnmnnaa.PA
