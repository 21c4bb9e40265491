/- What functions of the given program come to, and that they do: written out of the translation by a program of this session; Lean checks it. -/
import Derived.Test.YtpjkaodbcclecaaPKx0
import Derived.Test.YtpjkaodbcclecaaPKx2
import Derived.Test.YtpjkaodbcclecaaPKx4
import Derived.Test.YtpjkaodbcclecaaPKx5
import Derived.Test.YtpjkaodbcclecaaPKx8
namespace Go.Proofs.Ytpjkaodbcclecaa.PK
open Go.RowKit Go.Proofs.YtpjkaodbcclecaaW.PrintWords Go.Proofs.YtpjkaodbcclecaaW.PrintLast Go.Proofs.YtpjkaodbcclecaaW.PrintMore
attribute [local go_sem] max2_int min2_int max_two min_two max_three min_three max_four min_four   -- for this text's walks alone
set_option linter.unusedVariables false
set_option linter.unusedSimpArgs false

/-! ### waybilllaw12_KeysParts: function 10 -/
def waybilllaw12_KeysParts.j0 : Nat → ByteArray → Int → List Int → ByteArray → ByteArray → ByteArray → List Int → Bool → Option (Bool)
  | 0, _, _, _, _, _, _, _, _ => none
  | k + 1, x0, x3, x4, x11, x13, x15, x17, x129 => if x129 = true then (none) else (if x13.size ≤ 9223372036854775807 then ((waybillref1_Num.f k (bytesOf x13) (wrap64 (2 + (x0.size : Int))) 8).bind fun bt253 => (if x15.size ≤ 9223372036854775807 then ((waybillref1_Num.f k (bytesOf x15) 1 8).bind fun bt258 => (if 0 < (x11.size : Int) then (if (bt x11 0) = 3 then (if 1 < (x11.size : Int) then (if (wrap64 (bt x11 1)) = (x0.size : Int) then (if 2 ≤ (wrap64 (2 + (x0.size : Int))) then (if (wrap64 (2 + (x0.size : Int))) ≤ (x11.size : Int) then (if (x11.extract 2 ((wrap64 (2 + (x0.size : Int))) : Int).toNat).toList = x0.toList then (if 0 < (x13.size : Int) then (if (bt x13 0) = 5 then (if 0 < (x15.size : Int) then (if (bt x15 0) = 4 then (if bt253.1 = x3 then (if bt258.1 = x3 then (if 0 ≤ (wrap64 ((x17.length : Int) - (x4.length : Int))) then (if (wrap64 ((x17.length : Int) - (x4.length : Int))) ≤ (x17.length : Int) then (if (strOfNums (x17.drop ((wrap64 ((x17.length : Int) - (x4.length : Int))) : Int).toNat)).toList = (strOfNums x4).toList then ((waybilllaw12_awake.f k).bind fun t264 => (some t264)) else (none)) else (none)) else (none)) else (none)) else (none)) else (none)) else (none)) else (none)) else (none)) else (none)) else (none)) else (none)) else (none)) else (none)) else (none)) else (none))) else (none))) else (none))
def waybilllaw12_KeysParts.f (k : Nat) (a0 : ByteArray) (a1 : ByteArray) (a2 : ByteArray) (a3 : Int) (l4 : List Int) : Option (Bool) := if (l4.length : Int) > 10000 then ((waybilllaw12_awake.f k).bind fun t239 => (some t239)) else (if 0 ≤ (mn (a0.size : Int) 29) then (if (mn (a0.size : Int) 29) ≤ (a0.size : Int) then (if 1 + (a0.extract 0 ((mn (a0.size : Int) 29) : Int).toNat).size ≤ 9223372036854775807 then (if 0 ≤ (mn (a1.size : Int) 29) then (if (mn (a1.size : Int) 29) ≤ (a1.size : Int) then (if 1 + (a1.extract 0 ((mn (a1.size : Int) 29) : Int).toNat).size ≤ 9223372036854775807 then (if 0 ≤ (mn (a2.size : Int) 60) then (if (mn (a2.size : Int) 60) ≤ (a2.size : Int) then ((keys_Text.f k 3 ((⟨#[97]⟩ : ByteArray) ++ (a0.extract 0 ((mn (a0.size : Int) 29) : Int).toNat)) ((⟨#[98]⟩ : ByteArray) ++ (a1.extract 0 ((mn (a1.size : Int) 29) : Int).toNat)) (a2.extract 0 ((mn (a2.size : Int) 60) : Int).toNat) 0).bind fun bt240 => ((keys_Text.f k 5 ((⟨#[97]⟩ : ByteArray) ++ (a0.extract 0 ((mn (a0.size : Int) 29) : Int).toNat)) (⟨#[]⟩ : ByteArray) (⟨#[]⟩ : ByteArray) (mx a3 1)).bind fun bt242 => ((keys_Text.f k 4 (⟨#[]⟩ : ByteArray) (⟨#[]⟩ : ByteArray) (⟨#[]⟩ : ByteArray) (mx a3 1)).bind fun bt244 => ((keys_Msg.f k ((⟨#[97]⟩ : ByteArray) ++ (a0.extract 0 ((mn (a0.size : Int) 29) : Int).toNat)) (a2.extract 0 ((mn (a2.size : Int) 60) : Int).toNat) (⟨#[]⟩ : ByteArray) 1 l4).bind fun bt246 => (if bt240.2 = true then (if bt242.2 = true then (if bt244.2 = true then (if bt246.2 = true then (if (bt240.1.size : Int) = (wrap64 ((wrap64 ((wrap64 (4 + (((⟨#[97]⟩ : ByteArray) ++ (a0.extract 0 ((mn (a0.size : Int) 29) : Int).toNat)).size : Int))) + (((⟨#[98]⟩ : ByteArray) ++ (a1.extract 0 ((mn (a1.size : Int) 29) : Int).toNat)).size : Int))) + ((a2.extract 0 ((mn (a2.size : Int) 60) : Int).toNat).size : Int))) then (if (bt242.1.size : Int) = (wrap64 (10 + (((⟨#[97]⟩ : ByteArray) ++ (a0.extract 0 ((mn (a0.size : Int) 29) : Int).toNat)).size : Int))) then (if (bt244.1.size : Int) = 9 then (waybilllaw12_KeysParts.j0 k ((⟨#[97]⟩ : ByteArray) ++ (a0.extract 0 ((mn (a0.size : Int) 29) : Int).toNat)) (mx a3 1) l4 bt240.1 bt242.1 bt244.1 bt246.1 ((bt246.1.length : Int) != (wrap64 ((wrap64 ((wrap64 (4 + (((⟨#[97]⟩ : ByteArray) ++ (a0.extract 0 ((mn (a0.size : Int) 29) : Int).toNat)).size : Int))) + ((a2.extract 0 ((mn (a2.size : Int) 60) : Int).toNat).size : Int))) + (l4.length : Int))))) else (waybilllaw12_KeysParts.j0 k ((⟨#[97]⟩ : ByteArray) ++ (a0.extract 0 ((mn (a0.size : Int) 29) : Int).toNat)) (mx a3 1) l4 bt240.1 bt242.1 bt244.1 bt246.1 true)) else (waybilllaw12_KeysParts.j0 k ((⟨#[97]⟩ : ByteArray) ++ (a0.extract 0 ((mn (a0.size : Int) 29) : Int).toNat)) (mx a3 1) l4 bt240.1 bt242.1 bt244.1 bt246.1 true)) else (waybilllaw12_KeysParts.j0 k ((⟨#[97]⟩ : ByteArray) ++ (a0.extract 0 ((mn (a0.size : Int) 29) : Int).toNat)) (mx a3 1) l4 bt240.1 bt242.1 bt244.1 bt246.1 true)) else (waybilllaw12_KeysParts.j0 k ((⟨#[97]⟩ : ByteArray) ++ (a0.extract 0 ((mn (a0.size : Int) 29) : Int).toNat)) (mx a3 1) l4 bt240.1 bt242.1 bt244.1 bt246.1 true)) else (waybilllaw12_KeysParts.j0 k ((⟨#[97]⟩ : ByteArray) ++ (a0.extract 0 ((mn (a0.size : Int) 29) : Int).toNat)) (mx a3 1) l4 bt240.1 bt242.1 bt244.1 bt246.1 true)) else (waybilllaw12_KeysParts.j0 k ((⟨#[97]⟩ : ByteArray) ++ (a0.extract 0 ((mn (a0.size : Int) 29) : Int).toNat)) (mx a3 1) l4 bt240.1 bt242.1 bt244.1 bt246.1 true)) else (waybilllaw12_KeysParts.j0 k ((⟨#[97]⟩ : ByteArray) ++ (a0.extract 0 ((mn (a0.size : Int) 29) : Int).toNat)) (mx a3 1) l4 bt240.1 bt242.1 bt244.1 bt246.1 true)))))) else (none)) else (none)) else (none)) else (none)) else (none)) else (none)) else (none)) else (none))
theorem waybilllaw12_KeysParts.mono_l : ∀ k, (∀ y0 y1 y2 y3 y4 y5 y6 y7, LeO (waybilllaw12_KeysParts.j0 k y0 y1 y2 y3 y4 y5 y6 y7) (waybilllaw12_KeysParts.j0 (k + 1) y0 y1 y2 y3 y4 y5 y6 y7))
  | 0 => fun _ _ _ _ _ _ _ _ r h => by simp [waybilllaw12_KeysParts.j0] at h
  | k + 1 => by
    have ih0 := waybilllaw12_KeysParts.mono_l k
    · intro y0 y1 y2 y3 y4 y5 y6 y7
      unfold waybilllaw12_KeysParts.j0
      repeat' first
      | (with_reducible exact ih0 _ _ _ _ _ _ _ _)
      | (with_reducible exact keys_Msg.mono _ _ _ _ _ _)
      | (with_reducible exact keys_Text.mono _ _ _ _ _ _)
      | (with_reducible exact waybilllaw12_awake.mono _)
      | (with_reducible exact waybillref1_Num.mono _ _ _ _)
      | (with_reducible exact LeO.refl _)
      | (with_reducible exact LeO.none _)
      | (with_reducible refine LeO.ite ?_ ?_)
      | (with_reducible refine LeO.bind ?_ (fun _ => ?_))
      | exact ih0 _ _ _ _ _ _ _ _
      | exact keys_Msg.mono _ _ _ _ _ _
      | exact keys_Text.mono _ _ _ _ _ _
      | exact waybilllaw12_awake.mono _
      | exact waybillref1_Num.mono _ _ _ _
      | exact LeO.none _
      | refine LeO.ite ?_ ?_
      | refine LeO.bind ?_ (fun _ => ?_)
theorem waybilllaw12_KeysParts.mono : ∀ a0 a1 a2 a3 a4 k, LeO (waybilllaw12_KeysParts.f k a0 a1 a2 a3 a4) (waybilllaw12_KeysParts.f (k + 1) a0 a1 a2 a3 a4) := by
  intro a0 a1 a2 a3 a4 k
  have ih0 := waybilllaw12_KeysParts.mono_l k
  unfold waybilllaw12_KeysParts.f
  repeat' first
      | (with_reducible exact ih0 _ _ _ _ _ _ _ _)
      | (with_reducible exact keys_Msg.mono _ _ _ _ _ _)
      | (with_reducible exact keys_Text.mono _ _ _ _ _ _)
      | (with_reducible exact waybilllaw12_awake.mono _)
      | (with_reducible exact waybillref1_Num.mono _ _ _ _)
      | (with_reducible exact LeO.refl _)
      | (with_reducible exact LeO.none _)
      | (with_reducible refine LeO.ite ?_ ?_)
      | (with_reducible refine LeO.bind ?_ (fun _ => ?_))
      | exact ih0 _ _ _ _ _ _ _ _
      | exact keys_Msg.mono _ _ _ _ _ _
      | exact keys_Text.mono _ _ _ _ _ _
      | exact waybilllaw12_awake.mono _
      | exact waybillref1_Num.mono _ _ _ _
      | exact LeO.none _
      | refine LeO.ite ?_ ?_
      | refine LeO.bind ?_ (fun _ => ?_)
def waybilllaw12_KeysParts.T3 : Bool × List (List Nat × List Nat) := (true, [([], []), ([], []), ([1], [1]), ([2], [2]), ([0, 3], [0, 3]), ([4], [4]), ([], []), ([], []), ([7], [7]), ([8], [8]), ([6, 9], [6, 9]), ([10], [10]), ([], []), ([], []), ([13], [13]), ([14], [14]), ([12, 15], [12, 15]), ([5, 0, 1, 2, 3, 4, 5], [0, 1, 5]), ([11, 17, 0, 1, 2, 3, 4, 5, 6, 7, 8, 9, 10, 11, 17], [6, 7, 11]), ([16, 18, 0, 1, 2, 3, 4, 5, 6, 7, 8, 9, 10, 11, 12, 13, 14, 15, 16, 17, 18], [12, 13, 16])])
def waybilllaw12_KeysParts.B3 : List Nat := [0, 0, 2, 6, 15, 31, 0, 0, 128, 384, 960, 1984, 0, 0, 8192, 24576, 61440, 63, 135167, 524287]
theorem waybilllaw12_KeysParts.tab3 : rtab .any (opsOf Try.f10 3) = waybilllaw12_KeysParts.T3 := by kernel_rfl
theorem waybilllaw12_KeysParts.bits3 : waitsOk waybilllaw12_KeysParts.T3.2 waybilllaw12_KeysParts.B3 = true := by kernel_rfl
def waybilllaw12_KeysParts.T13 : Bool × List (List Nat × List Nat) := (true, [([], []), ([0], [0]), ([1], [1]), ([2], [2]), ([3], [3]), ([4, 3], [3, 4]), ([5, 3], [3, 5]), ([3], [3]), ([7, 3], [3, 7]), ([6, 8, 3], [3, 6, 8]), ([3, 9], [3, 9]), ([10, 3], [10]), ([11], [11]), ([11], [11]), ([13, 11], [11, 13]), ([14, 11], [11, 14]), ([12, 15, 11], [11, 12, 15]), ([11], [11]), ([16, 17, 11], [11, 16, 17]), ([11, 18], [11, 18]), ([19, 11], [19]), ([20], [20]), ([21, 20], [20, 21]), ([22, 20], [20, 22]), ([20, 23], [20, 23]), ([24, 20], [24]), ([25], [25]), ([26, 25], [25, 26]), ([27, 25], [25, 27]), ([25, 28], [25, 28]), ([29, 25], [29]), ([30], [30]), ([30], [30]), ([31, 32, 30], [30, 31, 32]), ([30, 33], [30, 33]), ([34, 30], [34]), ([35], [35]), ([35], [35]), ([36, 37, 35], [35, 36, 37]), ([35, 38], [35, 38]), ([39, 35], [39]), ([40], [40]), ([40], [40]), ([42, 40], [40, 42]), ([40], [40]), ([44, 40], [40, 44]), ([43, 45, 40], [40, 43, 45]), ([41, 46, 40], [40, 41, 46]), ([47, 40], [40, 47]), ([40], [40]), ([49, 40], [40, 49]), ([48, 50, 40], [40, 48, 50]), ([40, 51], [40, 51]), ([52, 40], [52]), ([53, 53], [53]), ([53, 54], [53, 54]), ([55, 54, 0, 1, 2, 3, 4, 5, 6, 7, 8, 9, 10, 11, 12, 13, 14, 15, 16, 17, 18, 19, 20, 21, 22, 23, 24, 25, 26, 27, 28, 29, 30, 31, 32, 33, 34, 35, 36, 37, 38, 39, 40, 41, 42, 43, 44, 45, 46, 47, 48, 49, 50, 51, 52, 53, 54, 55], [55])])
def waybilllaw12_KeysParts.B13 : List Nat := [0, 1, 3, 7, 15, 31, 63, 15, 143, 511, 1023, 2047, 4095, 4095, 12287, 28671, 65535, 4095, 262143, 524287, 1048575, 2097151, 4194303, 8388607, 16777215, 33554431, 67108863, 134217727, 268435455, 536870911, 1073741823, 2147483647, 2147483647, 8589934591, 17179869183, 34359738367, 68719476735, 68719476735, 274877906943, 549755813887, 1099511627775, 2199023255551, 2199023255551, 6597069766655, 2199023255551, 19791209299967, 68169720922111, 140737488355327, 281474976710655, 2199023255551, 565148976676863, 2251799813685247, 4503599627370495, 9007199254740991, 18014398509481983, 36028797018963967, 72057594037927935]
theorem waybilllaw12_KeysParts.tab13 : rtab .any (opsOf Try.f10 13) = waybilllaw12_KeysParts.T13 := by kernel_rfl
theorem waybilllaw12_KeysParts.bits13 : waitsOk waybilllaw12_KeysParts.T13.2 waybilllaw12_KeysParts.B13 = true := by kernel_rfl
set_option maxHeartbeats 8000000 in
set_option maxRecDepth 100000 in
theorem waybilllaw12_KeysParts.calls (k : Nat) (a0 : ByteArray) (a1 : ByteArray) (a2 : ByteArray) (a3 : Int) (A4 : Option Addr) (c4 : Nat) (l4 : List Int) (r : Bool) (w : World) (hr4 : Kd.C (Kd.int .u8) w A4 l4.length l4) (hc4 : l4.length ≤ c4) (h : waybilllaw12_KeysParts.f k a0 a1 a2 a3 l4 = some r) :
    Calls Try.prog 10 #[.string a0, .string a1, .string a2, .int .u64 a3, .slice A4 l4.length c4] w fun e w' => e = .returned (.bool r) ∧ Below w.heap.size w w' := by
  have hu74 := Try.underlying74
  have hu77 := Try.underlying77
  have HR4 := Aside0.mk hr4
  have HC4 := Aside0.mk hc4
  clear hr4 hc4
  have HB := Aside0.mk (Below.refl w.heap.size w)
  have H : (if (l4.length : Int) > 10000 then ((waybilllaw12_awake.f k).bind fun t239 => (some t239)) else (if 0 ≤ (mn (a0.size : Int) 29) then (if (mn (a0.size : Int) 29) ≤ (a0.size : Int) then (if 1 + (a0.extract 0 ((mn (a0.size : Int) 29) : Int).toNat).size ≤ 9223372036854775807 then (if 0 ≤ (mn (a1.size : Int) 29) then (if (mn (a1.size : Int) 29) ≤ (a1.size : Int) then (if 1 + (a1.extract 0 ((mn (a1.size : Int) 29) : Int).toNat).size ≤ 9223372036854775807 then (if 0 ≤ (mn (a2.size : Int) 60) then (if (mn (a2.size : Int) 60) ≤ (a2.size : Int) then ((keys_Text.f k 3 ((⟨#[97]⟩ : ByteArray) ++ (a0.extract 0 ((mn (a0.size : Int) 29) : Int).toNat)) ((⟨#[98]⟩ : ByteArray) ++ (a1.extract 0 ((mn (a1.size : Int) 29) : Int).toNat)) (a2.extract 0 ((mn (a2.size : Int) 60) : Int).toNat) 0).bind fun bt240 => ((keys_Text.f k 5 ((⟨#[97]⟩ : ByteArray) ++ (a0.extract 0 ((mn (a0.size : Int) 29) : Int).toNat)) (⟨#[]⟩ : ByteArray) (⟨#[]⟩ : ByteArray) (mx a3 1)).bind fun bt242 => ((keys_Text.f k 4 (⟨#[]⟩ : ByteArray) (⟨#[]⟩ : ByteArray) (⟨#[]⟩ : ByteArray) (mx a3 1)).bind fun bt244 => ((keys_Msg.f k ((⟨#[97]⟩ : ByteArray) ++ (a0.extract 0 ((mn (a0.size : Int) 29) : Int).toNat)) (a2.extract 0 ((mn (a2.size : Int) 60) : Int).toNat) (⟨#[]⟩ : ByteArray) 1 l4).bind fun bt246 => (if bt240.2 = true then (if bt242.2 = true then (if bt244.2 = true then (if bt246.2 = true then (if (bt240.1.size : Int) = (wrap64 ((wrap64 ((wrap64 (4 + (((⟨#[97]⟩ : ByteArray) ++ (a0.extract 0 ((mn (a0.size : Int) 29) : Int).toNat)).size : Int))) + (((⟨#[98]⟩ : ByteArray) ++ (a1.extract 0 ((mn (a1.size : Int) 29) : Int).toNat)).size : Int))) + ((a2.extract 0 ((mn (a2.size : Int) 60) : Int).toNat).size : Int))) then (if (bt242.1.size : Int) = (wrap64 (10 + (((⟨#[97]⟩ : ByteArray) ++ (a0.extract 0 ((mn (a0.size : Int) 29) : Int).toNat)).size : Int))) then (if (bt244.1.size : Int) = 9 then (waybilllaw12_KeysParts.j0 k ((⟨#[97]⟩ : ByteArray) ++ (a0.extract 0 ((mn (a0.size : Int) 29) : Int).toNat)) (mx a3 1) l4 bt240.1 bt242.1 bt244.1 bt246.1 ((bt246.1.length : Int) != (wrap64 ((wrap64 ((wrap64 (4 + (((⟨#[97]⟩ : ByteArray) ++ (a0.extract 0 ((mn (a0.size : Int) 29) : Int).toNat)).size : Int))) + ((a2.extract 0 ((mn (a2.size : Int) 60) : Int).toNat).size : Int))) + (l4.length : Int))))) else (waybilllaw12_KeysParts.j0 k ((⟨#[97]⟩ : ByteArray) ++ (a0.extract 0 ((mn (a0.size : Int) 29) : Int).toNat)) (mx a3 1) l4 bt240.1 bt242.1 bt244.1 bt246.1 true)) else (waybilllaw12_KeysParts.j0 k ((⟨#[97]⟩ : ByteArray) ++ (a0.extract 0 ((mn (a0.size : Int) 29) : Int).toNat)) (mx a3 1) l4 bt240.1 bt242.1 bt244.1 bt246.1 true)) else (waybilllaw12_KeysParts.j0 k ((⟨#[97]⟩ : ByteArray) ++ (a0.extract 0 ((mn (a0.size : Int) 29) : Int).toNat)) (mx a3 1) l4 bt240.1 bt242.1 bt244.1 bt246.1 true)) else (waybilllaw12_KeysParts.j0 k ((⟨#[97]⟩ : ByteArray) ++ (a0.extract 0 ((mn (a0.size : Int) 29) : Int).toNat)) (mx a3 1) l4 bt240.1 bt242.1 bt244.1 bt246.1 true)) else (waybilllaw12_KeysParts.j0 k ((⟨#[97]⟩ : ByteArray) ++ (a0.extract 0 ((mn (a0.size : Int) 29) : Int).toNat)) (mx a3 1) l4 bt240.1 bt242.1 bt244.1 bt246.1 true)) else (waybilllaw12_KeysParts.j0 k ((⟨#[97]⟩ : ByteArray) ++ (a0.extract 0 ((mn (a0.size : Int) 29) : Int).toNat)) (mx a3 1) l4 bt240.1 bt242.1 bt244.1 bt246.1 true)) else (waybilllaw12_KeysParts.j0 k ((⟨#[97]⟩ : ByteArray) ++ (a0.extract 0 ((mn (a0.size : Int) 29) : Int).toNat)) (mx a3 1) l4 bt240.1 bt242.1 bt244.1 bt246.1 true)))))) else (none)) else (none)) else (none)) else (none)) else (none)) else (none)) else (none)) else (none))) = some r := h
  clear h
  by_cases c6 : (l4.length : Int) > 10000
  · rw [if_pos c6] at H
    have c6b0 : decide (10000 < (l4.length : Int)) = true := decide_eq_true c6
    have c6b1 : decide (10000 < l4.length) = true := decide_eq_true (by omega)
    clear c6
    replace H := Option.bind_eq_some_iff.mp H
    obtain ⟨t239, A70, H⟩ := H
    replace H : (some t239) = some r := H
    have A7 := Aside0.mk A70
    clear A70
    obtain rfl := Option.some.inj H
    go_enter Try.func10, Try.ntmps10
    go_wp2_with (first | ((with_reducible refine gate_callee (f := 37) rfl ?_); refine goesL_ (some 26) rfl rfl Try.func37 (by kernel_rfl) rfl #[] rfl (by (try simp only [List.map_toArray, List.map_cons, List.map_nil]); first | done | rfl | (simp only [List.length_drop, List.length_take]; rfl)) ?_; (with_reducible refine (waybilllaw12_awake.calls k  t239 _ A7.out).mono ?_); rintro e w8 ⟨rfl, hb⟩; refine ⟨_, rfl, ?_⟩; have n0_ := Aside0.mk (below_step (by repeat (first | (with_reducible first | exact HB.out | apply below_alloc | apply pw_below_drewN | apply below_drew1) | exact HB.out)) hb); clear HB; have HB := n0_; clear n0_; (try clear hb); (try clear hb2); (try clear hk); (try clear hi); (try clear hge)))
    all_goals first | (go_ret; exact ⟨by first | rfl | (simp [errW_none, errW_some]; done) | (simp [errW_none, errW_some]; rfl) | (simp [*, errW_none, errW_some]; done) | (simp [*, errW_none, errW_some]; rfl), by repeat (first | (with_reducible first | exact HB.out | apply below_alloc | apply pw_below_drewN | apply below_drew1) | exact HB.out)⟩) | (exfalso; simp_all; done)
  · rw [if_neg c6] at H
    have c6b0 : decide (10000 < (l4.length : Int)) = false := decide_eq_false c6
    have c6b1 : decide (10000 < l4.length) = false := decide_eq_false (by omega)
    clear c6
    obtain ⟨ji9, hji9⟩ : ∃ j_ : Int, (mn (a0.size : Int) 29) = j_ := ⟨_, rfl⟩
    replace H : (if 0 ≤ (ji9) then (if (ji9) ≤ (a0.size : Int) then (if 1 + (a0.extract 0 ((ji9) : Int).toNat).size ≤ 9223372036854775807 then (if 0 ≤ (mn (a1.size : Int) 29) then (if (mn (a1.size : Int) 29) ≤ (a1.size : Int) then (if 1 + (a1.extract 0 ((mn (a1.size : Int) 29) : Int).toNat).size ≤ 9223372036854775807 then (if 0 ≤ (mn (a2.size : Int) 60) then (if (mn (a2.size : Int) 60) ≤ (a2.size : Int) then ((keys_Text.f k 3 ((⟨#[97]⟩ : ByteArray) ++ (a0.extract 0 ((ji9) : Int).toNat)) ((⟨#[98]⟩ : ByteArray) ++ (a1.extract 0 ((mn (a1.size : Int) 29) : Int).toNat)) (a2.extract 0 ((mn (a2.size : Int) 60) : Int).toNat) 0).bind fun bt240 => ((keys_Text.f k 5 ((⟨#[97]⟩ : ByteArray) ++ (a0.extract 0 ((ji9) : Int).toNat)) (⟨#[]⟩ : ByteArray) (⟨#[]⟩ : ByteArray) (mx a3 1)).bind fun bt242 => ((keys_Text.f k 4 (⟨#[]⟩ : ByteArray) (⟨#[]⟩ : ByteArray) (⟨#[]⟩ : ByteArray) (mx a3 1)).bind fun bt244 => ((keys_Msg.f k ((⟨#[97]⟩ : ByteArray) ++ (a0.extract 0 ((ji9) : Int).toNat)) (a2.extract 0 ((mn (a2.size : Int) 60) : Int).toNat) (⟨#[]⟩ : ByteArray) 1 l4).bind fun bt246 => (if bt240.2 = true then (if bt242.2 = true then (if bt244.2 = true then (if bt246.2 = true then (if (bt240.1.size : Int) = (wrap64 ((wrap64 ((wrap64 (4 + (((⟨#[97]⟩ : ByteArray) ++ (a0.extract 0 ((ji9) : Int).toNat)).size : Int))) + (((⟨#[98]⟩ : ByteArray) ++ (a1.extract 0 ((mn (a1.size : Int) 29) : Int).toNat)).size : Int))) + ((a2.extract 0 ((mn (a2.size : Int) 60) : Int).toNat).size : Int))) then (if (bt242.1.size : Int) = (wrap64 (10 + (((⟨#[97]⟩ : ByteArray) ++ (a0.extract 0 ((ji9) : Int).toNat)).size : Int))) then (if (bt244.1.size : Int) = 9 then (waybilllaw12_KeysParts.j0 k ((⟨#[97]⟩ : ByteArray) ++ (a0.extract 0 ((ji9) : Int).toNat)) (mx a3 1) l4 bt240.1 bt242.1 bt244.1 bt246.1 ((bt246.1.length : Int) != (wrap64 ((wrap64 ((wrap64 (4 + (((⟨#[97]⟩ : ByteArray) ++ (a0.extract 0 ((ji9) : Int).toNat)).size : Int))) + ((a2.extract 0 ((mn (a2.size : Int) 60) : Int).toNat).size : Int))) + (l4.length : Int))))) else (waybilllaw12_KeysParts.j0 k ((⟨#[97]⟩ : ByteArray) ++ (a0.extract 0 ((ji9) : Int).toNat)) (mx a3 1) l4 bt240.1 bt242.1 bt244.1 bt246.1 true)) else (waybilllaw12_KeysParts.j0 k ((⟨#[97]⟩ : ByteArray) ++ (a0.extract 0 ((ji9) : Int).toNat)) (mx a3 1) l4 bt240.1 bt242.1 bt244.1 bt246.1 true)) else (waybilllaw12_KeysParts.j0 k ((⟨#[97]⟩ : ByteArray) ++ (a0.extract 0 ((ji9) : Int).toNat)) (mx a3 1) l4 bt240.1 bt242.1 bt244.1 bt246.1 true)) else (waybilllaw12_KeysParts.j0 k ((⟨#[97]⟩ : ByteArray) ++ (a0.extract 0 ((ji9) : Int).toNat)) (mx a3 1) l4 bt240.1 bt242.1 bt244.1 bt246.1 true)) else (waybilllaw12_KeysParts.j0 k ((⟨#[97]⟩ : ByteArray) ++ (a0.extract 0 ((ji9) : Int).toNat)) (mx a3 1) l4 bt240.1 bt242.1 bt244.1 bt246.1 true)) else (waybilllaw12_KeysParts.j0 k ((⟨#[97]⟩ : ByteArray) ++ (a0.extract 0 ((ji9) : Int).toNat)) (mx a3 1) l4 bt240.1 bt242.1 bt244.1 bt246.1 true)) else (waybilllaw12_KeysParts.j0 k ((⟨#[97]⟩ : ByteArray) ++ (a0.extract 0 ((ji9) : Int).toNat)) (mx a3 1) l4 bt240.1 bt242.1 bt244.1 bt246.1 true)))))) else (none)) else (none)) else (none)) else (none)) else (none)) else (none)) else (none)) else (none)) = some r := by first | (rw [hji9] at H; exact H) | (simp only [hji9] at H ⊢; exact H)
    (try (have hji9h : ji9 ≤ 29 := by (rw [← hji9]; unfold mn; (repeat' split) <;> omega)))
    (try (have hji9g : ji9 ≤ 64 := by omega))
    (try (have hji9l : 0 ≤ ji9 := by (rw [← hji9]; unfold mn; (repeat' split) <;> omega)))
    (try (have hji9m : 0 ≤ ji9 := by omega))
    have hji9_ : (if 29 < (a0.size : Int) then 29 else (a0.size : Int)) = ji9 := hji9
    (try (have hji9u : ji9 ≤ 29 := by (rw [← hji9]; unfold mn; (repeat' split) <;> omega)))
    (try (have hji9v : ¬ (9223372036854775807 < 1 + ji9.toNat) := by omega))
    by_cases c10 : 0 ≤ (ji9)
    · rw [if_pos c10] at H
      have c10b0 := eq_true c10
      have c10b1 : decide (0 ≤ (ji9)) = true := decide_eq_true c10
      clear c10
      by_cases c11 : (ji9) ≤ (a0.size : Int)
      · rw [if_pos c11] at H
        have c11b0 := eq_true c11
        have c11b1 : decide ((ji9) ≤ (a0.size : Int)) = true := decide_eq_true c11
        clear c11
        by_cases c12 : 1 + (a0.extract 0 ((ji9) : Int).toNat).size ≤ 9223372036854775807
        · rw [if_pos c12] at H
          have c12b0 := eq_true c12
          have c12b1 : decide (1 + (a0.extract 0 ((ji9) : Int).toNat).size ≤ 9223372036854775807) = true := decide_eq_true c12
          try have c12b2 : (9223372036854775807 < 1 + (a0.extract 0 ((ji9) : Int).toNat).size) = False := eq_false (Nat.not_lt.2 c12)
          obtain ⟨ji13, hji13⟩ : ∃ j_ : Int, (mn (a1.size : Int) 29) = j_ := ⟨_, rfl⟩
          replace H : (if 0 ≤ (ji13) then (if (ji13) ≤ (a1.size : Int) then (if 1 + (a1.extract 0 ((ji13) : Int).toNat).size ≤ 9223372036854775807 then (if 0 ≤ (mn (a2.size : Int) 60) then (if (mn (a2.size : Int) 60) ≤ (a2.size : Int) then ((keys_Text.f k 3 ((⟨#[97]⟩ : ByteArray) ++ (a0.extract 0 ((ji9) : Int).toNat)) ((⟨#[98]⟩ : ByteArray) ++ (a1.extract 0 ((ji13) : Int).toNat)) (a2.extract 0 ((mn (a2.size : Int) 60) : Int).toNat) 0).bind fun bt240 => ((keys_Text.f k 5 ((⟨#[97]⟩ : ByteArray) ++ (a0.extract 0 ((ji9) : Int).toNat)) (⟨#[]⟩ : ByteArray) (⟨#[]⟩ : ByteArray) (mx a3 1)).bind fun bt242 => ((keys_Text.f k 4 (⟨#[]⟩ : ByteArray) (⟨#[]⟩ : ByteArray) (⟨#[]⟩ : ByteArray) (mx a3 1)).bind fun bt244 => ((keys_Msg.f k ((⟨#[97]⟩ : ByteArray) ++ (a0.extract 0 ((ji9) : Int).toNat)) (a2.extract 0 ((mn (a2.size : Int) 60) : Int).toNat) (⟨#[]⟩ : ByteArray) 1 l4).bind fun bt246 => (if bt240.2 = true then (if bt242.2 = true then (if bt244.2 = true then (if bt246.2 = true then (if (bt240.1.size : Int) = (wrap64 ((wrap64 ((wrap64 (4 + (((⟨#[97]⟩ : ByteArray) ++ (a0.extract 0 ((ji9) : Int).toNat)).size : Int))) + (((⟨#[98]⟩ : ByteArray) ++ (a1.extract 0 ((ji13) : Int).toNat)).size : Int))) + ((a2.extract 0 ((mn (a2.size : Int) 60) : Int).toNat).size : Int))) then (if (bt242.1.size : Int) = (wrap64 (10 + (((⟨#[97]⟩ : ByteArray) ++ (a0.extract 0 ((ji9) : Int).toNat)).size : Int))) then (if (bt244.1.size : Int) = 9 then (waybilllaw12_KeysParts.j0 k ((⟨#[97]⟩ : ByteArray) ++ (a0.extract 0 ((ji9) : Int).toNat)) (mx a3 1) l4 bt240.1 bt242.1 bt244.1 bt246.1 ((bt246.1.length : Int) != (wrap64 ((wrap64 ((wrap64 (4 + (((⟨#[97]⟩ : ByteArray) ++ (a0.extract 0 ((ji9) : Int).toNat)).size : Int))) + ((a2.extract 0 ((mn (a2.size : Int) 60) : Int).toNat).size : Int))) + (l4.length : Int))))) else (waybilllaw12_KeysParts.j0 k ((⟨#[97]⟩ : ByteArray) ++ (a0.extract 0 ((ji9) : Int).toNat)) (mx a3 1) l4 bt240.1 bt242.1 bt244.1 bt246.1 true)) else (waybilllaw12_KeysParts.j0 k ((⟨#[97]⟩ : ByteArray) ++ (a0.extract 0 ((ji9) : Int).toNat)) (mx a3 1) l4 bt240.1 bt242.1 bt244.1 bt246.1 true)) else (waybilllaw12_KeysParts.j0 k ((⟨#[97]⟩ : ByteArray) ++ (a0.extract 0 ((ji9) : Int).toNat)) (mx a3 1) l4 bt240.1 bt242.1 bt244.1 bt246.1 true)) else (waybilllaw12_KeysParts.j0 k ((⟨#[97]⟩ : ByteArray) ++ (a0.extract 0 ((ji9) : Int).toNat)) (mx a3 1) l4 bt240.1 bt242.1 bt244.1 bt246.1 true)) else (waybilllaw12_KeysParts.j0 k ((⟨#[97]⟩ : ByteArray) ++ (a0.extract 0 ((ji9) : Int).toNat)) (mx a3 1) l4 bt240.1 bt242.1 bt244.1 bt246.1 true)) else (waybilllaw12_KeysParts.j0 k ((⟨#[97]⟩ : ByteArray) ++ (a0.extract 0 ((ji9) : Int).toNat)) (mx a3 1) l4 bt240.1 bt242.1 bt244.1 bt246.1 true)) else (waybilllaw12_KeysParts.j0 k ((⟨#[97]⟩ : ByteArray) ++ (a0.extract 0 ((ji9) : Int).toNat)) (mx a3 1) l4 bt240.1 bt242.1 bt244.1 bt246.1 true)))))) else (none)) else (none)) else (none)) else (none)) else (none)) = some r := by first | (rw [hji13] at H; exact H) | (simp only [hji13] at H ⊢; exact H)
          (try (have hji13h : ji13 ≤ 29 := by (rw [← hji13]; unfold mn; (repeat' split) <;> omega)))
          (try (have hji13g : ji13 ≤ 64 := by omega))
          (try (have hji13l : 0 ≤ ji13 := by (rw [← hji13]; unfold mn; (repeat' split) <;> omega)))
          (try (have hji13m : 0 ≤ ji13 := by omega))
          have hji13_ : (if 29 < (a1.size : Int) then 29 else (a1.size : Int)) = ji13 := hji13
          (try (have hji13u : ji13 ≤ 29 := by (rw [← hji13]; unfold mn; (repeat' split) <;> omega)))
          (try (have hji13v : ¬ (9223372036854775807 < 1 + ji13.toNat) := by omega))
          by_cases c14 : 0 ≤ (ji13)
          · rw [if_pos c14] at H
            have c14b0 := eq_true c14
            have c14b1 : decide (0 ≤ (ji13)) = true := decide_eq_true c14
            clear c14
            by_cases c15 : (ji13) ≤ (a1.size : Int)
            · rw [if_pos c15] at H
              have c15b0 := eq_true c15
              have c15b1 : decide ((ji13) ≤ (a1.size : Int)) = true := decide_eq_true c15
              clear c15
              by_cases c16 : 1 + (a1.extract 0 ((ji13) : Int).toNat).size ≤ 9223372036854775807
              · rw [if_pos c16] at H
                have c16b0 := eq_true c16
                have c16b1 : decide (1 + (a1.extract 0 ((ji13) : Int).toNat).size ≤ 9223372036854775807) = true := decide_eq_true c16
                try have c16b2 : (9223372036854775807 < 1 + (a1.extract 0 ((ji13) : Int).toNat).size) = False := eq_false (Nat.not_lt.2 c16)
                obtain ⟨ji17, hji17⟩ : ∃ j_ : Int, (mn (a2.size : Int) 60) = j_ := ⟨_, rfl⟩
                replace H : (if 0 ≤ (ji17) then (if (ji17) ≤ (a2.size : Int) then ((keys_Text.f k 3 ((⟨#[97]⟩ : ByteArray) ++ (a0.extract 0 ((ji9) : Int).toNat)) ((⟨#[98]⟩ : ByteArray) ++ (a1.extract 0 ((ji13) : Int).toNat)) (a2.extract 0 ((ji17) : Int).toNat) 0).bind fun bt240 => ((keys_Text.f k 5 ((⟨#[97]⟩ : ByteArray) ++ (a0.extract 0 ((ji9) : Int).toNat)) (⟨#[]⟩ : ByteArray) (⟨#[]⟩ : ByteArray) (mx a3 1)).bind fun bt242 => ((keys_Text.f k 4 (⟨#[]⟩ : ByteArray) (⟨#[]⟩ : ByteArray) (⟨#[]⟩ : ByteArray) (mx a3 1)).bind fun bt244 => ((keys_Msg.f k ((⟨#[97]⟩ : ByteArray) ++ (a0.extract 0 ((ji9) : Int).toNat)) (a2.extract 0 ((ji17) : Int).toNat) (⟨#[]⟩ : ByteArray) 1 l4).bind fun bt246 => (if bt240.2 = true then (if bt242.2 = true then (if bt244.2 = true then (if bt246.2 = true then (if (bt240.1.size : Int) = (wrap64 ((wrap64 ((wrap64 (4 + (((⟨#[97]⟩ : ByteArray) ++ (a0.extract 0 ((ji9) : Int).toNat)).size : Int))) + (((⟨#[98]⟩ : ByteArray) ++ (a1.extract 0 ((ji13) : Int).toNat)).size : Int))) + ((a2.extract 0 ((ji17) : Int).toNat).size : Int))) then (if (bt242.1.size : Int) = (wrap64 (10 + (((⟨#[97]⟩ : ByteArray) ++ (a0.extract 0 ((ji9) : Int).toNat)).size : Int))) then (if (bt244.1.size : Int) = 9 then (waybilllaw12_KeysParts.j0 k ((⟨#[97]⟩ : ByteArray) ++ (a0.extract 0 ((ji9) : Int).toNat)) (mx a3 1) l4 bt240.1 bt242.1 bt244.1 bt246.1 ((bt246.1.length : Int) != (wrap64 ((wrap64 ((wrap64 (4 + (((⟨#[97]⟩ : ByteArray) ++ (a0.extract 0 ((ji9) : Int).toNat)).size : Int))) + ((a2.extract 0 ((ji17) : Int).toNat).size : Int))) + (l4.length : Int))))) else (waybilllaw12_KeysParts.j0 k ((⟨#[97]⟩ : ByteArray) ++ (a0.extract 0 ((ji9) : Int).toNat)) (mx a3 1) l4 bt240.1 bt242.1 bt244.1 bt246.1 true)) else (waybilllaw12_KeysParts.j0 k ((⟨#[97]⟩ : ByteArray) ++ (a0.extract 0 ((ji9) : Int).toNat)) (mx a3 1) l4 bt240.1 bt242.1 bt244.1 bt246.1 true)) else (waybilllaw12_KeysParts.j0 k ((⟨#[97]⟩ : ByteArray) ++ (a0.extract 0 ((ji9) : Int).toNat)) (mx a3 1) l4 bt240.1 bt242.1 bt244.1 bt246.1 true)) else (waybilllaw12_KeysParts.j0 k ((⟨#[97]⟩ : ByteArray) ++ (a0.extract 0 ((ji9) : Int).toNat)) (mx a3 1) l4 bt240.1 bt242.1 bt244.1 bt246.1 true)) else (waybilllaw12_KeysParts.j0 k ((⟨#[97]⟩ : ByteArray) ++ (a0.extract 0 ((ji9) : Int).toNat)) (mx a3 1) l4 bt240.1 bt242.1 bt244.1 bt246.1 true)) else (waybilllaw12_KeysParts.j0 k ((⟨#[97]⟩ : ByteArray) ++ (a0.extract 0 ((ji9) : Int).toNat)) (mx a3 1) l4 bt240.1 bt242.1 bt244.1 bt246.1 true)) else (waybilllaw12_KeysParts.j0 k ((⟨#[97]⟩ : ByteArray) ++ (a0.extract 0 ((ji9) : Int).toNat)) (mx a3 1) l4 bt240.1 bt242.1 bt244.1 bt246.1 true)))))) else (none)) else (none)) = some r := by first | (rw [hji17] at H; exact H) | (simp only [hji17] at H ⊢; exact H)
                (try (have hji17h : ji17 ≤ 60 := by (rw [← hji17]; unfold mn; (repeat' split) <;> omega)))
                (try (have hji17g : ji17 ≤ 64 := by omega))
                (try (have hji17l : 0 ≤ ji17 := by (rw [← hji17]; unfold mn; (repeat' split) <;> omega)))
                (try (have hji17m : 0 ≤ ji17 := by omega))
                have hji17_ : (if 60 < (a2.size : Int) then 60 else (a2.size : Int)) = ji17 := hji17
                (try (have hji17u : ji17 ≤ 60 := by (rw [← hji17]; unfold mn; (repeat' split) <;> omega)))
                (try (have hji17v : ¬ (9223372036854775807 < 1 + ji17.toNat) := by omega))
                by_cases c18 : 0 ≤ (ji17)
                · rw [if_pos c18] at H
                  have c18b0 := eq_true c18
                  have c18b1 : decide (0 ≤ (ji17)) = true := decide_eq_true c18
                  clear c18
                  by_cases c19 : (ji17) ≤ (a2.size : Int)
                  · rw [if_pos c19] at H
                    have c19b0 := eq_true c19
                    have c19b1 : decide ((ji17) ≤ (a2.size : Int)) = true := decide_eq_true c19
                    clear c19
                    obtain ⟨ji20, hji20⟩ : ∃ j_ : Int, (mx a3 1) = j_ := ⟨_, rfl⟩
                    replace H : ((keys_Text.f k 3 ((⟨#[97]⟩ : ByteArray) ++ (a0.extract 0 ((ji9) : Int).toNat)) ((⟨#[98]⟩ : ByteArray) ++ (a1.extract 0 ((ji13) : Int).toNat)) (a2.extract 0 ((ji17) : Int).toNat) 0).bind fun bt240 => ((keys_Text.f k 5 ((⟨#[97]⟩ : ByteArray) ++ (a0.extract 0 ((ji9) : Int).toNat)) (⟨#[]⟩ : ByteArray) (⟨#[]⟩ : ByteArray) (ji20)).bind fun bt242 => ((keys_Text.f k 4 (⟨#[]⟩ : ByteArray) (⟨#[]⟩ : ByteArray) (⟨#[]⟩ : ByteArray) (ji20)).bind fun bt244 => ((keys_Msg.f k ((⟨#[97]⟩ : ByteArray) ++ (a0.extract 0 ((ji9) : Int).toNat)) (a2.extract 0 ((ji17) : Int).toNat) (⟨#[]⟩ : ByteArray) 1 l4).bind fun bt246 => (if bt240.2 = true then (if bt242.2 = true then (if bt244.2 = true then (if bt246.2 = true then (if (bt240.1.size : Int) = (wrap64 ((wrap64 ((wrap64 (4 + (((⟨#[97]⟩ : ByteArray) ++ (a0.extract 0 ((ji9) : Int).toNat)).size : Int))) + (((⟨#[98]⟩ : ByteArray) ++ (a1.extract 0 ((ji13) : Int).toNat)).size : Int))) + ((a2.extract 0 ((ji17) : Int).toNat).size : Int))) then (if (bt242.1.size : Int) = (wrap64 (10 + (((⟨#[97]⟩ : ByteArray) ++ (a0.extract 0 ((ji9) : Int).toNat)).size : Int))) then (if (bt244.1.size : Int) = 9 then (waybilllaw12_KeysParts.j0 k ((⟨#[97]⟩ : ByteArray) ++ (a0.extract 0 ((ji9) : Int).toNat)) ji20 l4 bt240.1 bt242.1 bt244.1 bt246.1 ((bt246.1.length : Int) != (wrap64 ((wrap64 ((wrap64 (4 + (((⟨#[97]⟩ : ByteArray) ++ (a0.extract 0 ((ji9) : Int).toNat)).size : Int))) + ((a2.extract 0 ((ji17) : Int).toNat).size : Int))) + (l4.length : Int))))) else (waybilllaw12_KeysParts.j0 k ((⟨#[97]⟩ : ByteArray) ++ (a0.extract 0 ((ji9) : Int).toNat)) ji20 l4 bt240.1 bt242.1 bt244.1 bt246.1 true)) else (waybilllaw12_KeysParts.j0 k ((⟨#[97]⟩ : ByteArray) ++ (a0.extract 0 ((ji9) : Int).toNat)) ji20 l4 bt240.1 bt242.1 bt244.1 bt246.1 true)) else (waybilllaw12_KeysParts.j0 k ((⟨#[97]⟩ : ByteArray) ++ (a0.extract 0 ((ji9) : Int).toNat)) ji20 l4 bt240.1 bt242.1 bt244.1 bt246.1 true)) else (waybilllaw12_KeysParts.j0 k ((⟨#[97]⟩ : ByteArray) ++ (a0.extract 0 ((ji9) : Int).toNat)) ji20 l4 bt240.1 bt242.1 bt244.1 bt246.1 true)) else (waybilllaw12_KeysParts.j0 k ((⟨#[97]⟩ : ByteArray) ++ (a0.extract 0 ((ji9) : Int).toNat)) ji20 l4 bt240.1 bt242.1 bt244.1 bt246.1 true)) else (waybilllaw12_KeysParts.j0 k ((⟨#[97]⟩ : ByteArray) ++ (a0.extract 0 ((ji9) : Int).toNat)) ji20 l4 bt240.1 bt242.1 bt244.1 bt246.1 true)) else (waybilllaw12_KeysParts.j0 k ((⟨#[97]⟩ : ByteArray) ++ (a0.extract 0 ((ji9) : Int).toNat)) ji20 l4 bt240.1 bt242.1 bt244.1 bt246.1 true)))))) = some r := by first | (rw [hji20] at H; exact H) | (simp only [hji20] at H ⊢; exact H)
                    (try (have hji20l : 1 ≤ ji20 := by (rw [← hji20]; unfold mx; (repeat' split) <;> omega)))
                    (try (have hji20m : 0 ≤ ji20 := by omega))
                    have hji20_ : (if a3 < 1 then 1 else a3) = ji20 := hji20
                    replace H := Option.bind_eq_some_iff.mp H
                    obtain ⟨⟨t240, t241⟩, A210, H⟩ := H
                    replace H : ((keys_Text.f k 5 ((⟨#[97]⟩ : ByteArray) ++ (a0.extract 0 ((ji9) : Int).toNat)) (⟨#[]⟩ : ByteArray) (⟨#[]⟩ : ByteArray) (ji20)).bind fun bt242 => ((keys_Text.f k 4 (⟨#[]⟩ : ByteArray) (⟨#[]⟩ : ByteArray) (⟨#[]⟩ : ByteArray) (ji20)).bind fun bt244 => ((keys_Msg.f k ((⟨#[97]⟩ : ByteArray) ++ (a0.extract 0 ((ji9) : Int).toNat)) (a2.extract 0 ((ji17) : Int).toNat) (⟨#[]⟩ : ByteArray) 1 l4).bind fun bt246 => (if t241 = true then (if bt242.2 = true then (if bt244.2 = true then (if bt246.2 = true then (if (t240.size : Int) = (wrap64 ((wrap64 ((wrap64 (4 + (((⟨#[97]⟩ : ByteArray) ++ (a0.extract 0 ((ji9) : Int).toNat)).size : Int))) + (((⟨#[98]⟩ : ByteArray) ++ (a1.extract 0 ((ji13) : Int).toNat)).size : Int))) + ((a2.extract 0 ((ji17) : Int).toNat).size : Int))) then (if (bt242.1.size : Int) = (wrap64 (10 + (((⟨#[97]⟩ : ByteArray) ++ (a0.extract 0 ((ji9) : Int).toNat)).size : Int))) then (if (bt244.1.size : Int) = 9 then (waybilllaw12_KeysParts.j0 k ((⟨#[97]⟩ : ByteArray) ++ (a0.extract 0 ((ji9) : Int).toNat)) ji20 l4 t240 bt242.1 bt244.1 bt246.1 ((bt246.1.length : Int) != (wrap64 ((wrap64 ((wrap64 (4 + (((⟨#[97]⟩ : ByteArray) ++ (a0.extract 0 ((ji9) : Int).toNat)).size : Int))) + ((a2.extract 0 ((ji17) : Int).toNat).size : Int))) + (l4.length : Int))))) else (waybilllaw12_KeysParts.j0 k ((⟨#[97]⟩ : ByteArray) ++ (a0.extract 0 ((ji9) : Int).toNat)) ji20 l4 t240 bt242.1 bt244.1 bt246.1 true)) else (waybilllaw12_KeysParts.j0 k ((⟨#[97]⟩ : ByteArray) ++ (a0.extract 0 ((ji9) : Int).toNat)) ji20 l4 t240 bt242.1 bt244.1 bt246.1 true)) else (waybilllaw12_KeysParts.j0 k ((⟨#[97]⟩ : ByteArray) ++ (a0.extract 0 ((ji9) : Int).toNat)) ji20 l4 t240 bt242.1 bt244.1 bt246.1 true)) else (waybilllaw12_KeysParts.j0 k ((⟨#[97]⟩ : ByteArray) ++ (a0.extract 0 ((ji9) : Int).toNat)) ji20 l4 t240 bt242.1 bt244.1 bt246.1 true)) else (waybilllaw12_KeysParts.j0 k ((⟨#[97]⟩ : ByteArray) ++ (a0.extract 0 ((ji9) : Int).toNat)) ji20 l4 t240 bt242.1 bt244.1 bt246.1 true)) else (waybilllaw12_KeysParts.j0 k ((⟨#[97]⟩ : ByteArray) ++ (a0.extract 0 ((ji9) : Int).toNat)) ji20 l4 t240 bt242.1 bt244.1 bt246.1 true)) else (waybilllaw12_KeysParts.j0 k ((⟨#[97]⟩ : ByteArray) ++ (a0.extract 0 ((ji9) : Int).toNat)) ji20 l4 t240 bt242.1 bt244.1 bt246.1 true))))) = some r := H
                    have A21 := Aside0.mk A210
                    clear A210
                    replace H := Option.bind_eq_some_iff.mp H
                    obtain ⟨⟨t242, t243⟩, A220, H⟩ := H
                    replace H : ((keys_Text.f k 4 (⟨#[]⟩ : ByteArray) (⟨#[]⟩ : ByteArray) (⟨#[]⟩ : ByteArray) (ji20)).bind fun bt244 => ((keys_Msg.f k ((⟨#[97]⟩ : ByteArray) ++ (a0.extract 0 ((ji9) : Int).toNat)) (a2.extract 0 ((ji17) : Int).toNat) (⟨#[]⟩ : ByteArray) 1 l4).bind fun bt246 => (if t241 = true then (if t243 = true then (if bt244.2 = true then (if bt246.2 = true then (if (t240.size : Int) = (wrap64 ((wrap64 ((wrap64 (4 + (((⟨#[97]⟩ : ByteArray) ++ (a0.extract 0 ((ji9) : Int).toNat)).size : Int))) + (((⟨#[98]⟩ : ByteArray) ++ (a1.extract 0 ((ji13) : Int).toNat)).size : Int))) + ((a2.extract 0 ((ji17) : Int).toNat).size : Int))) then (if (t242.size : Int) = (wrap64 (10 + (((⟨#[97]⟩ : ByteArray) ++ (a0.extract 0 ((ji9) : Int).toNat)).size : Int))) then (if (bt244.1.size : Int) = 9 then (waybilllaw12_KeysParts.j0 k ((⟨#[97]⟩ : ByteArray) ++ (a0.extract 0 ((ji9) : Int).toNat)) ji20 l4 t240 t242 bt244.1 bt246.1 ((bt246.1.length : Int) != (wrap64 ((wrap64 ((wrap64 (4 + (((⟨#[97]⟩ : ByteArray) ++ (a0.extract 0 ((ji9) : Int).toNat)).size : Int))) + ((a2.extract 0 ((ji17) : Int).toNat).size : Int))) + (l4.length : Int))))) else (waybilllaw12_KeysParts.j0 k ((⟨#[97]⟩ : ByteArray) ++ (a0.extract 0 ((ji9) : Int).toNat)) ji20 l4 t240 t242 bt244.1 bt246.1 true)) else (waybilllaw12_KeysParts.j0 k ((⟨#[97]⟩ : ByteArray) ++ (a0.extract 0 ((ji9) : Int).toNat)) ji20 l4 t240 t242 bt244.1 bt246.1 true)) else (waybilllaw12_KeysParts.j0 k ((⟨#[97]⟩ : ByteArray) ++ (a0.extract 0 ((ji9) : Int).toNat)) ji20 l4 t240 t242 bt244.1 bt246.1 true)) else (waybilllaw12_KeysParts.j0 k ((⟨#[97]⟩ : ByteArray) ++ (a0.extract 0 ((ji9) : Int).toNat)) ji20 l4 t240 t242 bt244.1 bt246.1 true)) else (waybilllaw12_KeysParts.j0 k ((⟨#[97]⟩ : ByteArray) ++ (a0.extract 0 ((ji9) : Int).toNat)) ji20 l4 t240 t242 bt244.1 bt246.1 true)) else (waybilllaw12_KeysParts.j0 k ((⟨#[97]⟩ : ByteArray) ++ (a0.extract 0 ((ji9) : Int).toNat)) ji20 l4 t240 t242 bt244.1 bt246.1 true)) else (waybilllaw12_KeysParts.j0 k ((⟨#[97]⟩ : ByteArray) ++ (a0.extract 0 ((ji9) : Int).toNat)) ji20 l4 t240 t242 bt244.1 bt246.1 true)))) = some r := H
                    have A22 := Aside0.mk A220
                    clear A220
                    replace H := Option.bind_eq_some_iff.mp H
                    obtain ⟨⟨t244, t245⟩, A230, H⟩ := H
                    replace H : ((keys_Msg.f k ((⟨#[97]⟩ : ByteArray) ++ (a0.extract 0 ((ji9) : Int).toNat)) (a2.extract 0 ((ji17) : Int).toNat) (⟨#[]⟩ : ByteArray) 1 l4).bind fun bt246 => (if t241 = true then (if t243 = true then (if t245 = true then (if bt246.2 = true then (if (t240.size : Int) = (wrap64 ((wrap64 ((wrap64 (4 + (((⟨#[97]⟩ : ByteArray) ++ (a0.extract 0 ((ji9) : Int).toNat)).size : Int))) + (((⟨#[98]⟩ : ByteArray) ++ (a1.extract 0 ((ji13) : Int).toNat)).size : Int))) + ((a2.extract 0 ((ji17) : Int).toNat).size : Int))) then (if (t242.size : Int) = (wrap64 (10 + (((⟨#[97]⟩ : ByteArray) ++ (a0.extract 0 ((ji9) : Int).toNat)).size : Int))) then (if (t244.size : Int) = 9 then (waybilllaw12_KeysParts.j0 k ((⟨#[97]⟩ : ByteArray) ++ (a0.extract 0 ((ji9) : Int).toNat)) ji20 l4 t240 t242 t244 bt246.1 ((bt246.1.length : Int) != (wrap64 ((wrap64 ((wrap64 (4 + (((⟨#[97]⟩ : ByteArray) ++ (a0.extract 0 ((ji9) : Int).toNat)).size : Int))) + ((a2.extract 0 ((ji17) : Int).toNat).size : Int))) + (l4.length : Int))))) else (waybilllaw12_KeysParts.j0 k ((⟨#[97]⟩ : ByteArray) ++ (a0.extract 0 ((ji9) : Int).toNat)) ji20 l4 t240 t242 t244 bt246.1 true)) else (waybilllaw12_KeysParts.j0 k ((⟨#[97]⟩ : ByteArray) ++ (a0.extract 0 ((ji9) : Int).toNat)) ji20 l4 t240 t242 t244 bt246.1 true)) else (waybilllaw12_KeysParts.j0 k ((⟨#[97]⟩ : ByteArray) ++ (a0.extract 0 ((ji9) : Int).toNat)) ji20 l4 t240 t242 t244 bt246.1 true)) else (waybilllaw12_KeysParts.j0 k ((⟨#[97]⟩ : ByteArray) ++ (a0.extract 0 ((ji9) : Int).toNat)) ji20 l4 t240 t242 t244 bt246.1 true)) else (waybilllaw12_KeysParts.j0 k ((⟨#[97]⟩ : ByteArray) ++ (a0.extract 0 ((ji9) : Int).toNat)) ji20 l4 t240 t242 t244 bt246.1 true)) else (waybilllaw12_KeysParts.j0 k ((⟨#[97]⟩ : ByteArray) ++ (a0.extract 0 ((ji9) : Int).toNat)) ji20 l4 t240 t242 t244 bt246.1 true)) else (waybilllaw12_KeysParts.j0 k ((⟨#[97]⟩ : ByteArray) ++ (a0.extract 0 ((ji9) : Int).toNat)) ji20 l4 t240 t242 t244 bt246.1 true))) = some r := H
                    have A23 := Aside0.mk A230
                    clear A230
                    replace H := Option.bind_eq_some_iff.mp H
                    obtain ⟨⟨t246, t249⟩, A240, H⟩ := H
                    replace H : (if t241 = true then (if t243 = true then (if t245 = true then (if t249 = true then (if (t240.size : Int) = (wrap64 ((wrap64 ((wrap64 (4 + (((⟨#[97]⟩ : ByteArray) ++ (a0.extract 0 ((ji9) : Int).toNat)).size : Int))) + (((⟨#[98]⟩ : ByteArray) ++ (a1.extract 0 ((ji13) : Int).toNat)).size : Int))) + ((a2.extract 0 ((ji17) : Int).toNat).size : Int))) then (if (t242.size : Int) = (wrap64 (10 + (((⟨#[97]⟩ : ByteArray) ++ (a0.extract 0 ((ji9) : Int).toNat)).size : Int))) then (if (t244.size : Int) = 9 then (waybilllaw12_KeysParts.j0 k ((⟨#[97]⟩ : ByteArray) ++ (a0.extract 0 ((ji9) : Int).toNat)) ji20 l4 t240 t242 t244 t246 ((t246.length : Int) != (wrap64 ((wrap64 ((wrap64 (4 + (((⟨#[97]⟩ : ByteArray) ++ (a0.extract 0 ((ji9) : Int).toNat)).size : Int))) + ((a2.extract 0 ((ji17) : Int).toNat).size : Int))) + (l4.length : Int))))) else (waybilllaw12_KeysParts.j0 k ((⟨#[97]⟩ : ByteArray) ++ (a0.extract 0 ((ji9) : Int).toNat)) ji20 l4 t240 t242 t244 t246 true)) else (waybilllaw12_KeysParts.j0 k ((⟨#[97]⟩ : ByteArray) ++ (a0.extract 0 ((ji9) : Int).toNat)) ji20 l4 t240 t242 t244 t246 true)) else (waybilllaw12_KeysParts.j0 k ((⟨#[97]⟩ : ByteArray) ++ (a0.extract 0 ((ji9) : Int).toNat)) ji20 l4 t240 t242 t244 t246 true)) else (waybilllaw12_KeysParts.j0 k ((⟨#[97]⟩ : ByteArray) ++ (a0.extract 0 ((ji9) : Int).toNat)) ji20 l4 t240 t242 t244 t246 true)) else (waybilllaw12_KeysParts.j0 k ((⟨#[97]⟩ : ByteArray) ++ (a0.extract 0 ((ji9) : Int).toNat)) ji20 l4 t240 t242 t244 t246 true)) else (waybilllaw12_KeysParts.j0 k ((⟨#[97]⟩ : ByteArray) ++ (a0.extract 0 ((ji9) : Int).toNat)) ji20 l4 t240 t242 t244 t246 true)) else (waybilllaw12_KeysParts.j0 k ((⟨#[97]⟩ : ByteArray) ++ (a0.extract 0 ((ji9) : Int).toNat)) ji20 l4 t240 t242 t244 t246 true)) = some r := H
                    have A24 := Aside0.mk A240
                    clear A240
                    have HC25 := Aside0.mk H
                    clear H
                    go_enter Try.func10, Try.ntmps10
                    try go_wp2
                    have n0_ := Aside0.mk (below_drew1 HB.out)
                    clear HB
                    have HB := n0_
                    clear n0_
                    refine start_ (n := 20) (S := fun w' => True) (ds := []) #[false, false, false, false, false, false, false, false, false, false, false, false, false, false, false, false, false, false, false, false] (by kernel_rfl) rfl rfl trivial (fun hHeld => ?_); refine with_tabW waybilllaw12_KeysParts.tab3 waybilllaw12_KeysParts.bits3 (fun HT_ HW_ => ?_)
                    generalize w.drew = w26 at HB hHeld ⊢
                    refine pure_ (i := 0) (N := some 27) (v := ?_) (a' := ?_) #[true, false, false, false, false, false, false, false, false, false, false, false, false, false, false, false, false, false, false, false] rfl rfl (any_of HT_.out (by kernel_rfl)) (fun _ _ _ h => h) (Or.inl ⟨by rfl, ?_⟩) ?_ ?_
                    rotate_left
                    · intro w'
                      go_simp
                      with_reducible rfl
                    rotate_left
                    · simp only [Act.put, List.setIfInBounds_toArray, List.set_cons_zero, List.set_cons_succ, i64_w, i32_w]
                      rfl
                    refine pure_ (i := 1) (N := some 28) (v := ?_) (a' := ?_) #[true, true, false, false, false, false, false, false, false, false, false, false, false, false, false, false, false, false, false, false] rfl rfl (any_of HT_.out (by kernel_rfl)) (fun _ _ _ h => h) (Or.inl ⟨by rfl, ?_⟩) ?_ ?_
                    rotate_left
                    · intro w'
                      go_simp
                      with_reducible rfl
                    rotate_left
                    · simp only [Act.put, List.setIfInBounds_toArray, List.set_cons_zero, List.set_cons_succ, i64_w, i32_w]
                      rfl
                    refine pure_ (i := 2) (N := some 29) (v := ?_) (a' := ?_) #[true, true, true, false, false, false, false, false, false, false, false, false, false, false, false, false, false, false, false, false] rfl rfl (any_of HT_.out (by kernel_rfl)) (fun _ _ _ h => h) (Or.inl ⟨by rfl, ?_⟩) ?_ ?_
                    rotate_left
                    · intro w'
                      go_simp
                      with_reducible rfl
                    rotate_left
                    · simp only [Act.put, List.setIfInBounds_toArray, List.set_cons_zero, List.set_cons_succ, i64_w, i32_w]
                      rfl
                    refine pure_ (i := 3) (N := some 30) (v := ?_) (a' := ?_) #[true, true, true, true, false, false, false, false, false, false, false, false, false, false, false, false, false, false, false, false] rfl rfl (any_of HT_.out (by kernel_rfl)) (fun _ _ _ h => h) (Or.inl ⟨by rfl, ?_⟩) ?_ ?_
                    rotate_left
                    · intro w'
                      go_simp
                      with_reducible rfl
                    rotate_left
                    · simp only [Act.put, List.setIfInBounds_toArray, List.set_cons_zero, List.set_cons_succ, i64_w, i32_w]
                      rfl
                    refine pure_ (i := 4) (N := some 31) (v := ?_) (a' := ?_) #[true, true, true, true, true, false, false, false, false, false, false, false, false, false, false, false, false, false, false, false] rfl rfl (any_of HT_.out (by kernel_rfl)) (fun _ _ _ h => h) (Or.inl ⟨by rfl, ?_⟩) ?_ ?_
                    rotate_left
                    · intro w'
                      go_simp
                      with_reducible rfl
                    rotate_left
                    · simp only [Act.put, List.setIfInBounds_toArray, List.set_cons_zero, List.set_cons_succ, i64_w, i32_w]
                      rfl
                    refine pure_ (i := 5) (N := some 32) (v := ?_) (a' := ?_) #[true, true, true, true, true, true, false, false, false, false, false, false, false, false, false, false, false, false, false, false] rfl rfl (any_of HT_.out (by kernel_rfl)) (fun _ _ _ h => h) (Or.inl ⟨by rfl, ?_⟩) ?_ ?_
                    rotate_left
                    · intro w'
                      go_simp
                      with_reducible rfl
                    rotate_left
                    · simp only [Act.put, List.setIfInBounds_toArray, List.set_cons_zero, List.set_cons_succ, i64_w, i32_w]
                      rfl
                    refine pure_ (i := 6) (N := some 33) (v := ?_) (a' := ?_) #[true, true, true, true, true, true, true, false, false, false, false, false, false, false, false, false, false, false, false, false] rfl rfl (any_of HT_.out (by kernel_rfl)) (fun _ _ _ h => h) (Or.inl ⟨by rfl, ?_⟩) ?_ ?_
                    rotate_left
                    · intro w'
                      go_simp
                      with_reducible rfl
                    rotate_left
                    · simp only [Act.put, List.setIfInBounds_toArray, List.set_cons_zero, List.set_cons_succ, i64_w, i32_w]
                      rfl
                    refine pure_ (i := 7) (N := some 34) (v := ?_) (a' := ?_) #[true, true, true, true, true, true, true, true, false, false, false, false, false, false, false, false, false, false, false, false] rfl rfl (any_of HT_.out (by kernel_rfl)) (fun _ _ _ h => h) (Or.inl ⟨by rfl, ?_⟩) ?_ ?_
                    rotate_left
                    · intro w'
                      go_simp
                      with_reducible rfl
                    rotate_left
                    · simp only [Act.put, List.setIfInBounds_toArray, List.set_cons_zero, List.set_cons_succ, i64_w, i32_w]
                      rfl
                    refine pure_ (i := 8) (N := some 35) (v := ?_) (a' := ?_) #[true, true, true, true, true, true, true, true, true, false, false, false, false, false, false, false, false, false, false, false] rfl rfl (any_of HT_.out (by kernel_rfl)) (fun _ _ _ h => h) (Or.inl ⟨by rfl, ?_⟩) ?_ ?_
                    rotate_left
                    · intro w'
                      go_simp
                      with_reducible rfl
                    rotate_left
                    · simp only [Act.put, List.setIfInBounds_toArray, List.set_cons_zero, List.set_cons_succ, i64_w, i32_w]
                      rfl
                    refine pure_ (i := 9) (N := some 36) (v := ?_) (a' := ?_) #[true, true, true, true, true, true, true, true, true, true, false, false, false, false, false, false, false, false, false, false] rfl rfl (any_of HT_.out (by kernel_rfl)) (fun _ _ _ h => h) (Or.inl ⟨by rfl, ?_⟩) ?_ ?_
                    rotate_left
                    · intro w'
                      go_simp
                      with_reducible rfl
                    rotate_left
                    · simp only [Act.put, List.setIfInBounds_toArray, List.set_cons_zero, List.set_cons_succ, i64_w, i32_w]
                      rfl
                    refine pure_ (i := 10) (N := some 37) (v := ?_) (a' := ?_) #[true, true, true, true, true, true, true, true, true, true, true, false, false, false, false, false, false, false, false, false] rfl rfl (any_of HT_.out (by kernel_rfl)) (fun _ _ _ h => h) (Or.inl ⟨by rfl, ?_⟩) ?_ ?_
                    rotate_left
                    · intro w'
                      go_simp
                      with_reducible rfl
                    rotate_left
                    · simp only [Act.put, List.setIfInBounds_toArray, List.set_cons_zero, List.set_cons_succ, i64_w, i32_w]
                      rfl
                    refine pure_ (i := 11) (N := some 38) (v := ?_) (a' := ?_) #[true, true, true, true, true, true, true, true, true, true, true, true, false, false, false, false, false, false, false, false] rfl rfl (any_of HT_.out (by kernel_rfl)) (fun _ _ _ h => h) (Or.inl ⟨by rfl, ?_⟩) ?_ ?_
                    rotate_left
                    · intro w'
                      go_simp
                      with_reducible rfl
                    rotate_left
                    · simp only [Act.put, List.setIfInBounds_toArray, List.set_cons_zero, List.set_cons_succ, i64_w, i32_w]
                      rfl
                    refine pure_ (i := 12) (N := some 39) (v := ?_) (a' := ?_) #[true, true, true, true, true, true, true, true, true, true, true, true, true, false, false, false, false, false, false, false] rfl rfl (any_of HT_.out (by kernel_rfl)) (fun _ _ _ h => h) (Or.inl ⟨by rfl, ?_⟩) ?_ ?_
                    rotate_left
                    · intro w'
                      go_simp
                      with_reducible rfl
                    rotate_left
                    · simp only [Act.put, List.setIfInBounds_toArray, List.set_cons_zero, List.set_cons_succ, i64_w, i32_w]
                      rfl
                    refine pure_ (i := 13) (N := some 40) (v := ?_) (a' := ?_) #[true, true, true, true, true, true, true, true, true, true, true, true, true, true, false, false, false, false, false, false] rfl rfl (any_of HT_.out (by kernel_rfl)) (fun _ _ _ h => h) (Or.inl ⟨by rfl, ?_⟩) ?_ ?_
                    rotate_left
                    · intro w'
                      go_simp
                      with_reducible rfl
                    rotate_left
                    · simp only [Act.put, List.setIfInBounds_toArray, List.set_cons_zero, List.set_cons_succ, i64_w, i32_w]
                      rfl
                    refine pure_ (i := 14) (N := some 41) (v := ?_) (a' := ?_) #[true, true, true, true, true, true, true, true, true, true, true, true, true, true, true, false, false, false, false, false] rfl rfl (any_of HT_.out (by kernel_rfl)) (fun _ _ _ h => h) (Or.inl ⟨by rfl, ?_⟩) ?_ ?_
                    rotate_left
                    · intro w'
                      go_simp
                      with_reducible rfl
                    rotate_left
                    · simp only [Act.put, List.setIfInBounds_toArray, List.set_cons_zero, List.set_cons_succ, i64_w, i32_w]
                      rfl
                    refine pure_ (i := 15) (N := some 42) (v := ?_) (a' := ?_) #[true, true, true, true, true, true, true, true, true, true, true, true, true, true, true, true, false, false, false, false] rfl rfl (any_of HT_.out (by kernel_rfl)) (fun _ _ _ h => h) (Or.inl ⟨by rfl, ?_⟩) ?_ ?_
                    rotate_left
                    · intro w'
                      go_simp
                      with_reducible rfl
                    rotate_left
                    · simp only [Act.put, List.setIfInBounds_toArray, List.set_cons_zero, List.set_cons_succ, i64_w, i32_w]
                      rfl
                    refine pure_ (i := 16) (N := some 43) (v := ?_) (a' := ?_) #[true, true, true, true, true, true, true, true, true, true, true, true, true, true, true, true, true, false, false, false] rfl rfl (any_of HT_.out (by kernel_rfl)) (fun _ _ _ h => h) (Or.inl ⟨by rfl, ?_⟩) ?_ ?_
                    rotate_left
                    · intro w'
                      go_simp
                      with_reducible rfl
                    rotate_left
                    · simp only [Act.put, List.setIfInBounds_toArray, List.set_cons_zero, List.set_cons_succ, i64_w, i32_w]
                      rfl
                    refine pure_ (i := 17) (N := some 0) (v := ?_) (a' := ?_) #[true, true, true, true, true, true, true, true, true, true, true, true, true, true, true, true, true, true, false, false] rfl rfl (any_of HT_.out (by kernel_rfl)) (fun _ _ _ h => h) (Or.inl ⟨by rfl, ?_⟩) ?_ ?_
                    rotate_left
                    · intro w'
                      go_simp
                      with_reducible rfl
                    rotate_left
                    · simp only [Act.put, List.setIfInBounds_toArray, List.set_cons_zero, List.set_cons_succ, i64_w, i32_w]
                      rfl
                    refine pure_ (i := 18) (N := some 1) (v := ?_) (a' := ?_) #[true, true, true, true, true, true, true, true, true, true, true, true, true, true, true, true, true, true, true, false] rfl rfl (any_of HT_.out (by kernel_rfl)) (fun _ _ _ h => h) (Or.inl ⟨by rfl, ?_⟩) ?_ ?_
                    rotate_left
                    · intro w'
                      go_simp
                      with_reducible rfl
                    rotate_left
                    · simp only [Act.put, List.setIfInBounds_toArray, List.set_cons_zero, List.set_cons_succ, i64_w, i32_w]
                      rfl
                    refine pure_ (i := 19) (N := some 2) (v := ?_) (a' := ?_) #[true, true, true, true, true, true, true, true, true, true, true, true, true, true, true, true, true, true, true, true] rfl rfl (any_of HT_.out (by kernel_rfl)) (fun _ _ _ h => h) (Or.inl ⟨by rfl, ?_⟩) ?_ ?_
                    rotate_left
                    · intro w'
                      go_simp
                      with_reducible rfl
                    rotate_left
                    · simp only [Act.put, List.setIfInBounds_toArray, List.set_cons_zero, List.set_cons_succ, i64_w, i32_w]
                      rfl
                    refine done_ (done_of HT_.out (by kernel_rfl)) ?_
                    go_upto_region 9 with (first | ((with_reducible refine gate_callee (f := 38) rfl ?_); refine goesL_ (some 51) rfl rfl Try.func38 (by kernel_rfl) rfl #[.agg #[.int .i64 3, .string ((⟨#[97]⟩ : ByteArray) ++ (a0.extract 0 ((ji9) : Int).toNat)), .string ((⟨#[98]⟩ : ByteArray) ++ (a1.extract 0 ((ji13) : Int).toNat)), .string (a2.extract 0 ((ji17) : Int).toNat), .int .u64 0]] rfl (by (try simp only [List.map_toArray, List.map_cons, List.map_nil]); first | done | (simp only [hji13, hji17, hji9]; rfl) | rfl | (simp only [List.length_drop, List.length_take]; rfl)) ?_; (with_reducible refine (keys_Text.calls k 3 ((⟨#[97]⟩ : ByteArray) ++ (a0.extract 0 ((ji9) : Int).toNat)) ((⟨#[98]⟩ : ByteArray) ++ (a1.extract 0 ((ji13) : Int).toNat)) (a2.extract 0 ((ji17) : Int).toNat) 0 t240 t241 _ A21.out).mono ?_); rintro e w27 ⟨rfl, hb⟩; refine ⟨_, rfl, ?_⟩; have n0_ := Aside0.mk (below_step (by repeat (first | (with_reducible first | exact HB.out | apply below_alloc | apply pw_below_drewN | apply below_drew1) | exact HB.out)) hb); clear HB; have HB := n0_; clear n0_; (try clear hb); (try clear hb2); (try clear hk); (try clear hi); (try clear hge)) | ((with_reducible refine gate_callee (f := 38) rfl ?_); refine goesL_ (some 58) rfl rfl Try.func38 (by kernel_rfl) rfl #[.agg #[.int .i64 5, .string ((⟨#[97]⟩ : ByteArray) ++ (a0.extract 0 ((ji9) : Int).toNat)), .string (⟨#[]⟩ : ByteArray), .string (⟨#[]⟩ : ByteArray), .int .u64 ji20]] rfl (by (try simp only [List.map_toArray, List.map_cons, List.map_nil]); first | done | (simp only [hji20, hji9]; rfl) | rfl | (simp only [List.length_drop, List.length_take]; rfl)) ?_; (with_reducible refine (keys_Text.calls k 5 ((⟨#[97]⟩ : ByteArray) ++ (a0.extract 0 ((ji9) : Int).toNat)) (⟨#[]⟩ : ByteArray) (⟨#[]⟩ : ByteArray) ji20 t242 t243 _ A22.out).mono ?_); rintro e w28 ⟨rfl, hb⟩; refine ⟨_, rfl, ?_⟩; have n0_ := Aside0.mk (below_step (by repeat (first | (with_reducible first | exact HB.out | apply below_alloc | apply pw_below_drewN | apply below_drew1) | exact HB.out)) hb); clear HB; have HB := n0_; clear n0_; (try clear hb); (try clear hb2); (try clear hk); (try clear hi); (try clear hge)) | ((with_reducible refine gate_callee (f := 38) rfl ?_); refine goesL_ (some 64) rfl rfl Try.func38 (by kernel_rfl) rfl #[.agg #[.int .i64 4, .string (⟨#[]⟩ : ByteArray), .string (⟨#[]⟩ : ByteArray), .string (⟨#[]⟩ : ByteArray), .int .u64 ji20]] rfl (by (try simp only [List.map_toArray, List.map_cons, List.map_nil]); first | done | (simp only [hji20]; rfl) | rfl | (simp only [List.length_drop, List.length_take]; rfl)) ?_; (with_reducible refine (keys_Text.calls k 4 (⟨#[]⟩ : ByteArray) (⟨#[]⟩ : ByteArray) (⟨#[]⟩ : ByteArray) ji20 t244 t245 _ A23.out).mono ?_); rintro e w29 ⟨rfl, hb⟩; refine ⟨_, rfl, ?_⟩; have n0_ := Aside0.mk (below_step (by repeat (first | (with_reducible first | exact HB.out | apply below_alloc | apply pw_below_drewN | apply below_drew1) | exact HB.out)) hb); clear HB; have HB := n0_; clear n0_; (try clear hb); (try clear hb2); (try clear hk); (try clear hi); (try clear hge)) | ((with_reducible refine gate_callee (f := 39) rfl ?_); refine goesL_ (some 72) rfl rfl Try.func39 (by kernel_rfl) rfl #[.agg #[.string ((⟨#[97]⟩ : ByteArray) ++ (a0.extract 0 ((ji9) : Int).toNat)), .string (a2.extract 0 ((ji17) : Int).toNat), .string (⟨#[]⟩ : ByteArray), .int .i64 1, .slice A4 l4.length c4]] rfl (by (try simp only [List.map_toArray, List.map_cons, List.map_nil]); first | done | (simp only [hji17, hji9]; rfl) | rfl | (simp only [List.length_drop, List.length_take]; rfl)) ?_; (with_reducible refine (keys_Msg.calls k ((⟨#[97]⟩ : ByteArray) ++ (a0.extract 0 ((ji9) : Int).toNat)) (a2.extract 0 ((ji17) : Int).toNat) (⟨#[]⟩ : ByteArray) 1 _ _ l4 t246 t249 _ ?side1 ?side2 A24.out).mono ?_); (case side1 => repeat (first | exact (Kd.C_below HR4.out HB.out) | (with_reducible refine Kd.C_alloc ?_ _) | (with_reducible refine Kd.C_drewN ?_ _) | (with_reducible refine Kd.C_drew ?_))); (case side2 => exact HC4.out); rintro e w30 ⟨v247, rfl, ho0, hb⟩; refine ⟨_, rfl, ?_⟩; have n0_ := Aside0.mk (Kd.R_lower ho0 (below_size (by repeat (first | (with_reducible first | exact HB.out | apply below_alloc | apply pw_below_drewN | apply below_drew1) | exact HB.out)))); have n1_ := Aside0.mk (below_step (by repeat (first | (with_reducible first | exact HB.out | apply below_alloc | apply pw_below_drewN | apply below_drew1) | exact HB.out)) hb); clear HB; have HO248 := n0_; have HB := n1_; clear n0_ n1_; (try clear hb); (try clear hb2); (try clear hk); (try clear hi); (try clear hge); (try clear ho0)))
                    (try simp only [Act.put, List.setIfInBounds_toArray, List.set_cons_zero, List.set_cons_succ])
                    go_cut [129] (fun v129 wc => ∃ (kq : Nat) (x129_24 : Bool), v129 = .bool x129_24 ∧ Aside0 (waybilllaw12_KeysParts.j0 kq ((⟨#[97]⟩ : ByteArray) ++ (a0.extract 0 ((ji9) : Int).toNat)) ji20 l4 t240 t242 t244 t246 x129_24 = some r) ∧ Aside0 (kq ≤ k) ∧ Aside0 (Kd.R (Kd.int .u8) 5 wc w.heap.size (fun _ => True) v247 t246) ∧ Aside0 (Below w.heap.size w wc))
                    case first =>
                      have H := HC25.out
                      clear HC25
                      generalize ((⟨#[97]⟩ : ByteArray) ++ (a0.extract 0 ((ji9) : Int).toNat)) = XA at *
                      generalize ((⟨#[98]⟩ : ByteArray) ++ (a1.extract 0 ((ji13) : Int).toNat)) = XB at *
                      generalize (a2.extract 0 ((ji17) : Int).toNat) = XC at *
                      by_cases c31 : t241 = true
                      · subst c31
                        have H1 : (if t243 = true then (if t245 = true then (if t249 = true then (if (t240.size : Int) = (wrap64 ((wrap64 ((wrap64 (4 + (XA.size : Int))) + (XB.size : Int))) + (XC.size : Int))) then (if (t242.size : Int) = (wrap64 (10 + (XA.size : Int))) then (if (t244.size : Int) = 9 then (waybilllaw12_KeysParts.j0 k XA ji20 l4 t240 t242 t244 t246 ((t246.length : Int) != (wrap64 ((wrap64 ((wrap64 (4 + (XA.size : Int))) + (XC.size : Int))) + (l4.length : Int))))) else (waybilllaw12_KeysParts.j0 k XA ji20 l4 t240 t242 t244 t246 true)) else (waybilllaw12_KeysParts.j0 k XA ji20 l4 t240 t242 t244 t246 true)) else (waybilllaw12_KeysParts.j0 k XA ji20 l4 t240 t242 t244 t246 true)) else (waybilllaw12_KeysParts.j0 k XA ji20 l4 t240 t242 t244 t246 true)) else (waybilllaw12_KeysParts.j0 k XA ji20 l4 t240 t242 t244 t246 true)) else (waybilllaw12_KeysParts.j0 k XA ji20 l4 t240 t242 t244 t246 true)) = some r := by rw [if_pos rfl] at H; exact H
                        clear H
                        have H := H1
                        clear H1
                        by_cases c32 : t243 = true
                        · subst c32
                          have H1 : (if t245 = true then (if t249 = true then (if (t240.size : Int) = (wrap64 ((wrap64 ((wrap64 (4 + (XA.size : Int))) + (XB.size : Int))) + (XC.size : Int))) then (if (t242.size : Int) = (wrap64 (10 + (XA.size : Int))) then (if (t244.size : Int) = 9 then (waybilllaw12_KeysParts.j0 k XA ji20 l4 t240 t242 t244 t246 ((t246.length : Int) != (wrap64 ((wrap64 ((wrap64 (4 + (XA.size : Int))) + (XC.size : Int))) + (l4.length : Int))))) else (waybilllaw12_KeysParts.j0 k XA ji20 l4 t240 t242 t244 t246 true)) else (waybilllaw12_KeysParts.j0 k XA ji20 l4 t240 t242 t244 t246 true)) else (waybilllaw12_KeysParts.j0 k XA ji20 l4 t240 t242 t244 t246 true)) else (waybilllaw12_KeysParts.j0 k XA ji20 l4 t240 t242 t244 t246 true)) else (waybilllaw12_KeysParts.j0 k XA ji20 l4 t240 t242 t244 t246 true)) = some r := by rw [if_pos rfl] at H; exact H
                          clear H
                          have H := H1
                          clear H1
                          by_cases c33 : t245 = true
                          · subst c33
                            have H1 : (if t249 = true then (if (t240.size : Int) = (wrap64 ((wrap64 ((wrap64 (4 + (XA.size : Int))) + (XB.size : Int))) + (XC.size : Int))) then (if (t242.size : Int) = (wrap64 (10 + (XA.size : Int))) then (if (t244.size : Int) = 9 then (waybilllaw12_KeysParts.j0 k XA ji20 l4 t240 t242 t244 t246 ((t246.length : Int) != (wrap64 ((wrap64 ((wrap64 (4 + (XA.size : Int))) + (XC.size : Int))) + (l4.length : Int))))) else (waybilllaw12_KeysParts.j0 k XA ji20 l4 t240 t242 t244 t246 true)) else (waybilllaw12_KeysParts.j0 k XA ji20 l4 t240 t242 t244 t246 true)) else (waybilllaw12_KeysParts.j0 k XA ji20 l4 t240 t242 t244 t246 true)) else (waybilllaw12_KeysParts.j0 k XA ji20 l4 t240 t242 t244 t246 true)) = some r := by rw [if_pos rfl] at H; exact H
                            clear H
                            have H := H1
                            clear H1
                            by_cases c34 : t249 = true
                            · subst c34
                              have H1 : (if (t240.size : Int) = (wrap64 ((wrap64 ((wrap64 (4 + (XA.size : Int))) + (XB.size : Int))) + (XC.size : Int))) then (if (t242.size : Int) = (wrap64 (10 + (XA.size : Int))) then (if (t244.size : Int) = 9 then (waybilllaw12_KeysParts.j0 k XA ji20 l4 t240 t242 t244 t246 ((t246.length : Int) != (wrap64 ((wrap64 ((wrap64 (4 + (XA.size : Int))) + (XC.size : Int))) + (l4.length : Int))))) else (waybilllaw12_KeysParts.j0 k XA ji20 l4 t240 t242 t244 t246 true)) else (waybilllaw12_KeysParts.j0 k XA ji20 l4 t240 t242 t244 t246 true)) else (waybilllaw12_KeysParts.j0 k XA ji20 l4 t240 t242 t244 t246 true)) = some r := by rw [if_pos rfl] at H; exact H
                              clear H
                              have H := H1
                              clear H1
                              by_cases c35 : (t240.size : Int) = (wrap64 ((wrap64 ((wrap64 (4 + (XA.size : Int))) + (XB.size : Int))) + (XC.size : Int)))
                              · rw [if_pos c35] at H
                                have c35b0 : ((t240.size : Int) == (wrap64 ((wrap64 ((wrap64 (4 + (XA.size : Int))) + (XB.size : Int))) + (XC.size : Int)))) = true := beq_iff_eq.mpr c35
                                have c35b1 : ((t240.size : Int) != (wrap64 ((wrap64 ((wrap64 (4 + (XA.size : Int))) + (XB.size : Int))) + (XC.size : Int)))) = false := bne_eq_false_iff_eq.mpr c35
                                clear c35
                                (first | rw [c35b0] | rw [c35b2] | rw [c35b1] | (simp only [i64_w, i32_w]; rw [c35b0]) | skip)
                                by_cases c36 : (t242.size : Int) = (wrap64 (10 + (XA.size : Int)))
                                · rw [if_pos c36] at H
                                  have c36b0 : ((t242.size : Int) == (wrap64 (10 + (XA.size : Int)))) = true := beq_iff_eq.mpr c36
                                  have c36b1 : ((t242.size : Int) != (wrap64 (10 + (XA.size : Int)))) = false := bne_eq_false_iff_eq.mpr c36
                                  clear c36
                                  by_cases c37 : (t244.size : Int) = 9
                                  · rw [if_pos c37] at H
                                    have c37b0 : ((t244.size : Int) == 9) = true := beq_iff_eq.mpr c37
                                    have c37b1 : ((t244.size : Int) != 9) = false := bne_eq_false_iff_eq.mpr c37
                                    clear c37
                                    have H' := Aside0.mk H
                                    clear H
                                    obtain ⟨Ao38, co38, eo38⟩ := Kd.R_slice HO248.out
                                    subst eo38
                                    go_wp2
                                    go_meet
                                    case rel => exact ⟨_, (((t246.length : Int) != (wrap64 ((wrap64 ((wrap64 (4 + (XA.size : Int))) + (XC.size : Int))) + (l4.length : Int))))), (by first | rfl | (simp; done) | (simp only [← hji9, ← hji17] <;> (first | rfl | simp)) | (simp [*]; done)), H', ⟨by first | omega | exact Nat.le_refl _⟩, ⟨by (with_reducible repeat (first | apply Kd.R_alloc | apply Kd.R_drewN | apply Kd.R_drew)); exact HO248.out⟩, ⟨by repeat (first | (with_reducible first | exact HB.out | apply below_alloc | apply pw_below_drewN | apply below_drew1) | exact HB.out)⟩⟩
                                  · rw [if_neg c37] at H
                                    have c37b0 : ((t244.size : Int) == 9) = false := beq_eq_false_iff_ne.mpr c37
                                    have c37b1 : ((t244.size : Int) != 9) = true := bne_iff_ne.mpr c37
                                    have H' := Aside0.mk H
                                    clear H
                                    obtain ⟨Ao38, co38, eo38⟩ := Kd.R_slice HO248.out
                                    subst eo38
                                    go_wp2
                                    go_meet
                                    case rel => exact ⟨_, (true), (by first | rfl | (simp; done) | (simp [*]; done)), H', ⟨by first | omega | exact Nat.le_refl _⟩, ⟨by (with_reducible repeat (first | apply Kd.R_alloc | apply Kd.R_drewN | apply Kd.R_drew)); exact HO248.out⟩, ⟨by repeat (first | (with_reducible first | exact HB.out | apply below_alloc | apply pw_below_drewN | apply below_drew1) | exact HB.out)⟩⟩
                                · rw [if_neg c36] at H
                                  have c36b0 : ((t242.size : Int) == (wrap64 (10 + (XA.size : Int)))) = false := beq_eq_false_iff_ne.mpr c36
                                  have c36b1 : ((t242.size : Int) != (wrap64 (10 + (XA.size : Int)))) = true := bne_iff_ne.mpr c36
                                  have H' := Aside0.mk H
                                  clear H
                                  obtain ⟨Ao38, co38, eo38⟩ := Kd.R_slice HO248.out
                                  subst eo38
                                  go_wp2
                                  go_meet
                                  case rel => exact ⟨_, (true), (by first | rfl | (simp; done) | (simp [*]; done)), H', ⟨by first | omega | exact Nat.le_refl _⟩, ⟨by (with_reducible repeat (first | apply Kd.R_alloc | apply Kd.R_drewN | apply Kd.R_drew)); exact HO248.out⟩, ⟨by repeat (first | (with_reducible first | exact HB.out | apply below_alloc | apply pw_below_drewN | apply below_drew1) | exact HB.out)⟩⟩
                              · rw [if_neg c35] at H
                                have c35b0 : ((t240.size : Int) == (wrap64 ((wrap64 ((wrap64 (4 + (XA.size : Int))) + (XB.size : Int))) + (XC.size : Int)))) = false := beq_eq_false_iff_ne.mpr c35
                                have c35b1 : ((t240.size : Int) != (wrap64 ((wrap64 ((wrap64 (4 + (XA.size : Int))) + (XB.size : Int))) + (XC.size : Int)))) = true := bne_iff_ne.mpr c35
                                (first | rw [c35b0] | rw [c35b2] | rw [c35b1] | (simp only [i64_w, i32_w]; rw [c35b0]) | skip)
                                have H' := Aside0.mk H
                                clear H
                                obtain ⟨Ao38, co38, eo38⟩ := Kd.R_slice HO248.out
                                subst eo38
                                go_wp2
                                go_meet
                                case rel => exact ⟨_, (true), (by first | rfl | (simp; done) | (simp [*]; done)), H', ⟨by first | omega | exact Nat.le_refl _⟩, ⟨by (with_reducible repeat (first | apply Kd.R_alloc | apply Kd.R_drewN | apply Kd.R_drew)); exact HO248.out⟩, ⟨by repeat (first | (with_reducible first | exact HB.out | apply below_alloc | apply pw_below_drewN | apply below_drew1) | exact HB.out)⟩⟩
                            · replace c34 := Bool.eq_false_iff.mpr c34
                              subst c34
                              have H1 : (waybilllaw12_KeysParts.j0 k XA ji20 l4 t240 t242 t244 t246 true) = some r := by rw [if_neg (show ¬ (false = true) by decide)] at H; exact H
                              clear H
                              have H := H1
                              clear H1
                              have H' := Aside0.mk H
                              clear H
                              go_wp2
                              go_meet
                              case rel => exact ⟨_, (true), (by first | rfl | (simp; done) | (simp [*]; done)), H', ⟨by first | omega | exact Nat.le_refl _⟩, ⟨by (with_reducible repeat (first | apply Kd.R_alloc | apply Kd.R_drewN | apply Kd.R_drew)); exact HO248.out⟩, ⟨by repeat (first | (with_reducible first | exact HB.out | apply below_alloc | apply pw_below_drewN | apply below_drew1) | exact HB.out)⟩⟩
                          · replace c33 := Bool.eq_false_iff.mpr c33
                            subst c33
                            have H1 : (waybilllaw12_KeysParts.j0 k XA ji20 l4 t240 t242 t244 t246 true) = some r := by rw [if_neg (show ¬ (false = true) by decide)] at H; exact H
                            clear H
                            have H := H1
                            clear H1
                            have H' := Aside0.mk H
                            clear H
                            go_wp2
                            go_meet
                            case rel => exact ⟨_, (true), (by first | rfl | (simp; done) | (simp [*]; done)), H', ⟨by first | omega | exact Nat.le_refl _⟩, ⟨by (with_reducible repeat (first | apply Kd.R_alloc | apply Kd.R_drewN | apply Kd.R_drew)); exact HO248.out⟩, ⟨by repeat (first | (with_reducible first | exact HB.out | apply below_alloc | apply pw_below_drewN | apply below_drew1) | exact HB.out)⟩⟩
                        · replace c32 := Bool.eq_false_iff.mpr c32
                          subst c32
                          have H1 : (waybilllaw12_KeysParts.j0 k XA ji20 l4 t240 t242 t244 t246 true) = some r := by rw [if_neg (show ¬ (false = true) by decide)] at H; exact H
                          clear H
                          have H := H1
                          clear H1
                          have H' := Aside0.mk H
                          clear H
                          go_wp2
                          go_meet
                          case rel => exact ⟨_, (true), (by first | rfl | (simp; done) | (simp [*]; done)), H', ⟨by first | omega | exact Nat.le_refl _⟩, ⟨by (with_reducible repeat (first | apply Kd.R_alloc | apply Kd.R_drewN | apply Kd.R_drew)); exact HO248.out⟩, ⟨by repeat (first | (with_reducible first | exact HB.out | apply below_alloc | apply pw_below_drewN | apply below_drew1) | exact HB.out)⟩⟩
                      · replace c31 := Bool.eq_false_iff.mpr c31
                        subst c31
                        have H1 : (waybilllaw12_KeysParts.j0 k XA ji20 l4 t240 t242 t244 t246 true) = some r := by rw [if_neg (show ¬ (false = true) by decide)] at H; exact H
                        clear H
                        have H := H1
                        clear H1
                        have H' := Aside0.mk H
                        clear H
                        go_wp2
                        go_meet
                        case rel => exact ⟨_, (true), (by first | rfl | (simp; done) | (simp [*]; done)), H', ⟨by first | omega | exact Nat.le_refl _⟩, ⟨by (with_reducible repeat (first | apply Kd.R_alloc | apply Kd.R_drewN | apply Kd.R_drew)); exact HO248.out⟩, ⟨by repeat (first | (with_reducible first | exact HB.out | apply below_alloc | apply pw_below_drewN | apply below_drew1) | exact HB.out)⟩⟩
                    case rest =>
                      generalize ((⟨#[97]⟩ : ByteArray) ++ (a0.extract 0 ((ji9) : Int).toNat)) = XA at *
                      generalize ((⟨#[98]⟩ : ByteArray) ++ (a1.extract 0 ((ji13) : Int).toNat)) = XB at *
                      generalize (a2.extract 0 ((ji17) : Int).toNat) = XC at *
                      clear HC25
                      try clear c1
                      try clear p2
                      try clear c3
                      try clear c4
                      try clear c6
                      try clear c6b0
                      try clear c6b1
                      try clear p6
                      try clear c10
                      try clear c10b0
                      try clear c10b1
                      try clear c11
                      try clear c11b0
                      try clear c11b1
                      try clear c12
                      try clear c12b0
                      try clear c12b1
                      try clear c12b2
                      try clear c14
                      try clear c14b0
                      try clear c14b1
                      try clear c15
                      try clear c15b0
                      try clear c15b1
                      try clear c16
                      try clear c16b0
                      try clear c16b1
                      try clear c16b2
                      try clear c18
                      try clear c18b0
                      try clear c18b1
                      try clear c19
                      try clear c19b0
                      try clear c19b1
                      try clear c31
                      try clear c32
                      try clear c33
                      try clear c34
                      try clear c35
                      try clear c35b0
                      try clear c35b1
                      try clear c36
                      try clear c36b0
                      try clear c36b1
                      try clear c37
                      try clear c37b0
                      try clear c37b1
                      try clear c38
                      obtain ⟨kq, x129_24, rfl, HA, HJ24, HO_17, HB⟩ := hcut
                      cases kq with
                      | zero => exact absurd HA.out (by simp [waybilllaw12_KeysParts.j0])
                      | succ kj24 =>
                        have H := HA.out
                        clear HA
                        simp only [waybilllaw12_KeysParts.j0] at H
                        by_cases c39 : x129_24 = true
                        · subst c39
                          have H1 : (none) = some r := by rw [if_pos rfl] at H; exact H
                          clear H
                          have H := H1
                          clear H1
                          exact absurd H (by simp)
                        · replace c39 := Bool.eq_false_iff.mpr c39
                          subst c39
                          have H1 : (if t242.size ≤ 9223372036854775807 then ((waybillref1_Num.f kj24 (bytesOf t242) (wrap64 (2 + (XA.size : Int))) 8).bind fun bt253 => (if t244.size ≤ 9223372036854775807 then ((waybillref1_Num.f kj24 (bytesOf t244) 1 8).bind fun bt258 => (if 0 < (t240.size : Int) then (if (bt t240 0) = 3 then (if 1 < (t240.size : Int) then (if (wrap64 (bt t240 1)) = (XA.size : Int) then (if 2 ≤ (wrap64 (2 + (XA.size : Int))) then (if (wrap64 (2 + (XA.size : Int))) ≤ (t240.size : Int) then (if (t240.extract 2 ((wrap64 (2 + (XA.size : Int))) : Int).toNat).toList = XA.toList then (if 0 < (t242.size : Int) then (if (bt t242 0) = 5 then (if 0 < (t244.size : Int) then (if (bt t244 0) = 4 then (if bt253.1 = ji20 then (if bt258.1 = ji20 then (if 0 ≤ (wrap64 ((t246.length : Int) - (l4.length : Int))) then (if (wrap64 ((t246.length : Int) - (l4.length : Int))) ≤ (t246.length : Int) then (if (strOfNums (t246.drop ((wrap64 ((t246.length : Int) - (l4.length : Int))) : Int).toNat)).toList = (strOfNums l4).toList then ((waybilllaw12_awake.f kj24).bind fun t264 => (some t264)) else (none)) else (none)) else (none)) else (none)) else (none)) else (none)) else (none)) else (none)) else (none)) else (none)) else (none)) else (none)) else (none)) else (none)) else (none)) else (none))) else (none))) else (none)) = some r := by rw [if_neg (show ¬ (false = true) by decide)] at H; exact H
                          clear H
                          have H := H1
                          clear H1
                          by_cases c40 : t242.size ≤ 9223372036854775807
                          · rw [if_pos c40] at H
                            have c40b0 := eq_true c40
                            have c40b1 : decide (t242.size ≤ 9223372036854775807) = true := decide_eq_true c40
                            try have c40b2 : (9223372036854775807 < t242.size) = False := eq_false (Nat.not_lt.2 c40)
                            clear c40
                            obtain ⟨y250, hy250⟩ : ∃ y_ : List Int, y_ = (bytesOf t242) := ⟨_, rfl⟩
                            replace H : ((waybillref1_Num.f kj24 y250 (wrap64 (2 + (XA.size : Int))) 8).bind fun bt253 => (if t244.size ≤ 9223372036854775807 then ((waybillref1_Num.f kj24 (bytesOf t244) 1 8).bind fun bt258 => (if 0 < (t240.size : Int) then (if (bt t240 0) = 3 then (if 1 < (t240.size : Int) then (if (wrap64 (bt t240 1)) = (XA.size : Int) then (if 2 ≤ (wrap64 (2 + (XA.size : Int))) then (if (wrap64 (2 + (XA.size : Int))) ≤ (t240.size : Int) then (if (t240.extract 2 ((wrap64 (2 + (XA.size : Int))) : Int).toNat).toList = XA.toList then (if 0 < (t242.size : Int) then (if (bt t242 0) = 5 then (if 0 < (t244.size : Int) then (if (bt t244 0) = 4 then (if bt253.1 = ji20 then (if bt258.1 = ji20 then (if 0 ≤ (wrap64 ((t246.length : Int) - (l4.length : Int))) then (if (wrap64 ((t246.length : Int) - (l4.length : Int))) ≤ (t246.length : Int) then (if (strOfNums (t246.drop ((wrap64 ((t246.length : Int) - (l4.length : Int))) : Int).toNat)).toList = (strOfNums l4).toList then ((waybilllaw12_awake.f kj24).bind fun t264 => (some t264)) else (none)) else (none)) else (none)) else (none)) else (none)) else (none)) else (none)) else (none)) else (none)) else (none)) else (none)) else (none)) else (none)) else (none)) else (none)) else (none))) else (none))) = some r := by first | (rw [hy250]; with_reducible exact H) | (have H2_ := (Option.bind_some _ _).symm.trans H; rw [hy250]; with_reducible exact H2_) | (have H2_ := (Option.bind_some _ _).symm.trans H; with_reducible exact H2_) | with_reducible exact H | (rw [hy250]; exact H) | exact H
                            have Ny250 := Aside0.mk hy250
                            clear hy250
                            replace H := Option.bind_eq_some_iff.mp H
                            obtain ⟨⟨t253, t254⟩, A410, H⟩ := H
                            replace H : (if t244.size ≤ 9223372036854775807 then ((waybillref1_Num.f kj24 (bytesOf t244) 1 8).bind fun bt258 => (if 0 < (t240.size : Int) then (if (bt t240 0) = 3 then (if 1 < (t240.size : Int) then (if (wrap64 (bt t240 1)) = (XA.size : Int) then (if 2 ≤ (wrap64 (2 + (XA.size : Int))) then (if (wrap64 (2 + (XA.size : Int))) ≤ (t240.size : Int) then (if (t240.extract 2 ((wrap64 (2 + (XA.size : Int))) : Int).toNat).toList = XA.toList then (if 0 < (t242.size : Int) then (if (bt t242 0) = 5 then (if 0 < (t244.size : Int) then (if (bt t244 0) = 4 then (if t253 = ji20 then (if bt258.1 = ji20 then (if 0 ≤ (wrap64 ((t246.length : Int) - (l4.length : Int))) then (if (wrap64 ((t246.length : Int) - (l4.length : Int))) ≤ (t246.length : Int) then (if (strOfNums (t246.drop ((wrap64 ((t246.length : Int) - (l4.length : Int))) : Int).toNat)).toList = (strOfNums l4).toList then ((waybilllaw12_awake.f kj24).bind fun t264 => (some t264)) else (none)) else (none)) else (none)) else (none)) else (none)) else (none)) else (none)) else (none)) else (none)) else (none)) else (none)) else (none)) else (none)) else (none)) else (none)) else (none))) else (none)) = some r := H
                            have A41 := Aside0.mk A410
                            clear A410
                            by_cases c42 : t244.size ≤ 9223372036854775807
                            · rw [if_pos c42] at H
                              have c42b0 := eq_true c42
                              have c42b1 : decide (t244.size ≤ 9223372036854775807) = true := decide_eq_true c42
                              try have c42b2 : (9223372036854775807 < t244.size) = False := eq_false (Nat.not_lt.2 c42)
                              clear c42
                              obtain ⟨y255, hy255⟩ : ∃ y_ : List Int, y_ = (bytesOf t244) := ⟨_, rfl⟩
                              replace H : ((waybillref1_Num.f kj24 y255 1 8).bind fun bt258 => (if 0 < (t240.size : Int) then (if (bt t240 0) = 3 then (if 1 < (t240.size : Int) then (if (wrap64 (bt t240 1)) = (XA.size : Int) then (if 2 ≤ (wrap64 (2 + (XA.size : Int))) then (if (wrap64 (2 + (XA.size : Int))) ≤ (t240.size : Int) then (if (t240.extract 2 ((wrap64 (2 + (XA.size : Int))) : Int).toNat).toList = XA.toList then (if 0 < (t242.size : Int) then (if (bt t242 0) = 5 then (if 0 < (t244.size : Int) then (if (bt t244 0) = 4 then (if t253 = ji20 then (if bt258.1 = ji20 then (if 0 ≤ (wrap64 ((t246.length : Int) - (l4.length : Int))) then (if (wrap64 ((t246.length : Int) - (l4.length : Int))) ≤ (t246.length : Int) then (if (strOfNums (t246.drop ((wrap64 ((t246.length : Int) - (l4.length : Int))) : Int).toNat)).toList = (strOfNums l4).toList then ((waybilllaw12_awake.f kj24).bind fun t264 => (some t264)) else (none)) else (none)) else (none)) else (none)) else (none)) else (none)) else (none)) else (none)) else (none)) else (none)) else (none)) else (none)) else (none)) else (none)) else (none)) else (none))) = some r := by first | (rw [hy255]; with_reducible exact H) | (have H2_ := (Option.bind_some _ _).symm.trans H; rw [hy255]; with_reducible exact H2_) | (have H2_ := (Option.bind_some _ _).symm.trans H; with_reducible exact H2_) | with_reducible exact H | (rw [hy255]; exact H) | exact H
                              have Ny255 := Aside0.mk hy255
                              clear hy255
                              replace H := Option.bind_eq_some_iff.mp H
                              obtain ⟨⟨t258, t259⟩, A430, H⟩ := H
                              replace H : (if 0 < (t240.size : Int) then (if (bt t240 0) = 3 then (if 1 < (t240.size : Int) then (if (wrap64 (bt t240 1)) = (XA.size : Int) then (if 2 ≤ (wrap64 (2 + (XA.size : Int))) then (if (wrap64 (2 + (XA.size : Int))) ≤ (t240.size : Int) then (if (t240.extract 2 ((wrap64 (2 + (XA.size : Int))) : Int).toNat).toList = XA.toList then (if 0 < (t242.size : Int) then (if (bt t242 0) = 5 then (if 0 < (t244.size : Int) then (if (bt t244 0) = 4 then (if t253 = ji20 then (if t258 = ji20 then (if 0 ≤ (wrap64 ((t246.length : Int) - (l4.length : Int))) then (if (wrap64 ((t246.length : Int) - (l4.length : Int))) ≤ (t246.length : Int) then (if (strOfNums (t246.drop ((wrap64 ((t246.length : Int) - (l4.length : Int))) : Int).toNat)).toList = (strOfNums l4).toList then ((waybilllaw12_awake.f kj24).bind fun t264 => (some t264)) else (none)) else (none)) else (none)) else (none)) else (none)) else (none)) else (none)) else (none)) else (none)) else (none)) else (none)) else (none)) else (none)) else (none)) else (none)) else (none)) = some r := H
                              have A43 := Aside0.mk A430
                              clear A430
                              by_cases c44 : 0 < (t240.size : Int)
                              · rw [if_pos c44] at H
                                have c44b0 : decide (0 < (t240.size : Int)) = true := decide_eq_true c44
                                have c44b1 : decide (0 < t240.size) = true := decide_eq_true (by omega)
                                clear c44
                                by_cases c46 : (bt t240 0) = 3
                                · rw [if_pos c46] at H
                                  have c46b0 : ((bt t240 0) == 3) = true := beq_iff_eq.mpr c46
                                  have c46b1 : ((bt t240 0) != 3) = false := bne_eq_false_iff_eq.mpr c46
                                  clear c46
                                  by_cases c47 : 1 < (t240.size : Int)
                                  · rw [if_pos c47] at H
                                    have c47b0 : decide (1 < (t240.size : Int)) = true := decide_eq_true c47
                                    have c47b1 : decide (1 < t240.size) = true := decide_eq_true (by omega)
                                    clear c47
                                    by_cases c49 : (wrap64 (bt t240 1)) = (XA.size : Int)
                                    · rw [if_pos c49] at H
                                      have c49b0 : ((wrap64 (bt t240 1)) == (XA.size : Int)) = true := beq_iff_eq.mpr c49
                                      have c49b1 : ((wrap64 (bt t240 1)) != (XA.size : Int)) = false := bne_eq_false_iff_eq.mpr c49
                                      clear c49
                                      obtain ⟨ji50, hji50⟩ : ∃ j_ : Int, (wrap64 (2 + (XA.size : Int))) = j_ := ⟨_, rfl⟩
                                      replace H : (if 2 ≤ (ji50) then (if (ji50) ≤ (t240.size : Int) then (if (t240.extract 2 ((ji50) : Int).toNat).toList = XA.toList then (if 0 < (t242.size : Int) then (if (bt t242 0) = 5 then (if 0 < (t244.size : Int) then (if (bt t244 0) = 4 then (if t253 = ji20 then (if t258 = ji20 then (if 0 ≤ (wrap64 ((t246.length : Int) - (l4.length : Int))) then (if (wrap64 ((t246.length : Int) - (l4.length : Int))) ≤ (t246.length : Int) then (if (strOfNums (t246.drop ((wrap64 ((t246.length : Int) - (l4.length : Int))) : Int).toNat)).toList = (strOfNums l4).toList then ((waybilllaw12_awake.f kj24).bind fun t264 => (some t264)) else (none)) else (none)) else (none)) else (none)) else (none)) else (none)) else (none)) else (none)) else (none)) else (none)) else (none)) else (none)) = some r := by first | (rw [hji50] at H; exact H) | (simp only [hji50] at H ⊢; exact H)
                                      (try rw [hji50] at A41)
                                      (try rw [hji50] at A43)
                                      have hji50w : (IntKind.i64.wrap (2 + (XA.size : Int))) = ji50 := (i64_w _).trans hji50
                                      by_cases c51 : 2 ≤ (ji50)
                                      · rw [if_pos c51] at H
                                        have c51b0 := eq_true c51
                                        have c51b1 : decide (2 ≤ (ji50)) = true := decide_eq_true c51
                                        clear c51
                                        by_cases c52 : (ji50) ≤ (t240.size : Int)
                                        · rw [if_pos c52] at H
                                          have c52b0 := eq_true c52
                                          have c52b1 : decide ((ji50) ≤ (t240.size : Int)) = true := decide_eq_true c52
                                          clear c52
                                          by_cases c53 : (t240.extract 2 ((ji50) : Int).toNat).toList = XA.toList
                                          · rw [if_pos c53] at H
                                            have c53b0 : ((t240.extract 2 ((ji50) : Int).toNat).toList == XA.toList) = true := beq_iff_eq.mpr c53
                                            have c53b1 : ((t240.extract 2 ((ji50) : Int).toNat).toList != XA.toList) = false := bne_eq_false_iff_eq.mpr c53
                                            clear c53
                                            by_cases c54 : 0 < (t242.size : Int)
                                            · rw [if_pos c54] at H
                                              have c54b0 : decide (0 < (t242.size : Int)) = true := decide_eq_true c54
                                              have c54b1 : decide (0 < t242.size) = true := decide_eq_true (by omega)
                                              clear c54
                                              by_cases c56 : (bt t242 0) = 5
                                              · rw [if_pos c56] at H
                                                have c56b0 : ((bt t242 0) == 5) = true := beq_iff_eq.mpr c56
                                                have c56b1 : ((bt t242 0) != 5) = false := bne_eq_false_iff_eq.mpr c56
                                                clear c56
                                                by_cases c57 : 0 < (t244.size : Int)
                                                · rw [if_pos c57] at H
                                                  have c57b0 : decide (0 < (t244.size : Int)) = true := decide_eq_true c57
                                                  have c57b1 : decide (0 < t244.size) = true := decide_eq_true (by omega)
                                                  clear c57
                                                  by_cases c59 : (bt t244 0) = 4
                                                  · rw [if_pos c59] at H
                                                    have c59b0 : ((bt t244 0) == 4) = true := beq_iff_eq.mpr c59
                                                    have c59b1 : ((bt t244 0) != 4) = false := bne_eq_false_iff_eq.mpr c59
                                                    clear c59
                                                    by_cases c60 : t253 = ji20
                                                    · rw [if_pos c60] at H
                                                      have c60b0 : (t253 == ji20) = true := beq_iff_eq.mpr c60
                                                      have c60b1 : (t253 != ji20) = false := bne_eq_false_iff_eq.mpr c60
                                                      clear c60
                                                      by_cases c61 : t258 = ji20
                                                      · rw [if_pos c61] at H
                                                        have c61b0 : (t258 == ji20) = true := beq_iff_eq.mpr c61
                                                        have c61b1 : (t258 != ji20) = false := bne_eq_false_iff_eq.mpr c61
                                                        clear c61
                                                        obtain ⟨ji62, hji62⟩ : ∃ j_ : Int, (wrap64 ((t246.length : Int) - (l4.length : Int))) = j_ := ⟨_, rfl⟩
                                                        replace H : (if 0 ≤ (ji62) then (if (ji62) ≤ (t246.length : Int) then (if (strOfNums (t246.drop ((ji62) : Int).toNat)).toList = (strOfNums l4).toList then ((waybilllaw12_awake.f kj24).bind fun t264 => (some t264)) else (none)) else (none)) else (none)) = some r := by first | (rw [hji62] at H; exact H) | (simp only [hji62] at H ⊢; exact H)
                                                        (try rw [hji62] at A41)
                                                        (try rw [hji62] at A43)
                                                        have hji62w : (IntKind.i64.wrap ((t246.length : Int) - (l4.length : Int))) = ji62 := (i64_w _).trans hji62
                                                        by_cases c63 : 0 ≤ (ji62)
                                                        · rw [if_pos c63] at H
                                                          have c63b0 := eq_true c63
                                                          have c63b1 : decide (0 ≤ (ji62)) = true := decide_eq_true c63
                                                          clear c63
                                                          by_cases c64 : (ji62) ≤ (t246.length : Int)
                                                          · rw [if_pos c64] at H
                                                            have c64b0 := eq_true c64
                                                            have c64b1 : decide ((ji62) ≤ (t246.length : Int)) = true := decide_eq_true c64
                                                            clear c64
                                                            obtain ⟨y260, hy260⟩ : ∃ y_ : List Int, y_ = (t246.drop ((ji62) : Int).toNat) := ⟨_, rfl⟩
                                                            replace H : (if (strOfNums y260).toList = (strOfNums l4).toList then ((waybilllaw12_awake.f kj24).bind fun t264 => (some t264)) else (none)) = some r := by first | (rw [hy260]; with_reducible exact H) | (have H2_ := (Option.bind_some _ _).symm.trans H; rw [hy260]; with_reducible exact H2_) | (have H2_ := (Option.bind_some _ _).symm.trans H; with_reducible exact H2_) | with_reducible exact H | (rw [hy260]; exact H) | exact H
                                                            have Ny260 := Aside0.mk hy260
                                                            clear hy260
                                                            by_cases c65 : (strOfNums y260).toList = (strOfNums l4).toList
                                                            · rw [if_pos c65] at H
                                                              have c65b0 : ((strOfNums y260).toList == (strOfNums l4).toList) = true := beq_iff_eq.mpr c65
                                                              have c65b1 : ((strOfNums y260).toList != (strOfNums l4).toList) = false := bne_eq_false_iff_eq.mpr c65
                                                              clear c65
                                                              replace H := Option.bind_eq_some_iff.mp H
                                                              obtain ⟨t264, A660, H⟩ := H
                                                              replace H : (some t264) = some r := H
                                                              have A66 := Aside0.mk A660
                                                              clear A660
                                                              obtain rfl := Option.some.inj H
                                                              try go_wp2_with (first | ((with_reducible refine gate_dst (N := 132) rfl ?_); (try (refine gate_guard (by rfl) ?_; dsimp only)); refine Kd.V_conv _ 5 9 26 rfl (N := 132) rfl t242 _ rfl rfl Try.underlying9 Try.underlying26 Try.underlying5 (Below.refl _ _) (Nat.le_refl _) (of_decide_eq_true (by first | (with_reducible assumption) | assumption)) ?_; intro v251 w67 ho68 hb hg_ hnew_; clear hg_ hnew_; (first | rw [← Ny250.out] at ho68 | (simp only [Int.reduceToNat] at ho68; rw [← Ny250.out] at ho68)); have n0_ := Aside0.mk (Kd.R_below (by (with_reducible repeat (first | apply Kd.R_alloc | apply Kd.R_drewN | apply Kd.R_drew)); exact HO_17.out) hb); have n1_ := Aside0.mk (Kd.V_lower (Kd.V_mono (ok' := fun k_ => some k_ ≠ (v247 : Value).ownBlock) ho68 (fun k_ hk_ => (Kd.fresh' (Kd.R_lt (by (with_reducible repeat (first | apply Kd.R_alloc | apply Kd.R_drewN | apply Kd.R_drew)); exact HO_17.out)) k_ hk_))) (below_size (by repeat (first | (with_reducible first | exact HB.out | apply below_alloc | apply pw_below_drewN | apply below_drew1) | exact HB.out)))); have n2_ := Aside0.mk (below_step (by repeat (first | (with_reducible first | exact HB.out | apply below_alloc | apply pw_below_drewN | apply below_drew1) | exact HB.out)) hb); clear HO_17; clear HB; have HO_17 := n0_; have HO252 := n1_; have HB := n2_; clear n0_ n1_ n2_; clear hb ho68; obtain ⟨Ao69, co69, eo69⟩ := Kd.V_slice HO252.out; subst eo69) | ((with_reducible refine gate_callee (f := 18) rfl ?_); refine goesL_ (some 136) rfl rfl Try.func18 (by kernel_rfl) rfl #[.slice Ao69 y250.length co69, .int .i64 ji50, .int .i64 8] rfl (by (try simp only [List.map_toArray, List.map_cons, List.map_nil]); first | done | (simp only [hji50]; rfl) | rfl | (simp only [List.length_drop, List.length_take]; rfl)) ?_; (with_reducible refine (waybillref1_Num.calls kj24 _ _ y250 ji50 8 t253 t254 _ ?side1 ?side2 A41.out).mono ?_); (case side1 => repeat (first | exact (Kd.V_reads' HO252.out).2.2 | (with_reducible refine Kd.C_alloc ?_ _) | (with_reducible refine Kd.C_drewN ?_ _) | (with_reducible refine Kd.C_drew ?_))); (case side2 => exact (Kd.V_reads' HO252.out).2.1); rintro e w' ⟨rfl, ⟨nd, rfl⟩⟩; refine ⟨_, rfl, ?_⟩) | ((with_reducible refine gate_dst (N := 141) rfl ?_); (try (refine gate_guard (by rfl) ?_; dsimp only)); refine Kd.V_conv _ 5 9 26 rfl (N := 141) rfl t244 _ rfl rfl Try.underlying9 Try.underlying26 Try.underlying5 (Below.refl _ _) (Nat.le_refl _) (of_decide_eq_true (by first | (with_reducible assumption) | assumption)) ?_; intro v256 w70 ho71 hb hg_ hnew_; clear hg_ hnew_; (first | rw [← Ny255.out] at ho71 | (simp only [Int.reduceToNat] at ho71; rw [← Ny255.out] at ho71)); have n0_ := Aside0.mk (Kd.R_below (by (with_reducible repeat (first | apply Kd.R_alloc | apply Kd.R_drewN | apply Kd.R_drew)); exact HO_17.out) hb); have n1_ := Aside0.mk (Kd.V_below (by (with_reducible repeat (first | apply Kd.V_alloc | apply Kd.V_drewN | apply Kd.V_drew)); exact HO252.out) hb); have n2_ := Aside0.mk (Kd.V_lower (Kd.V_mono (ok' := fun k_ => some k_ ≠ (v247 : Value).ownBlock) ho71 (fun k_ hk_ => (Kd.fresh' (Kd.R_lt (by (with_reducible repeat (first | apply Kd.R_alloc | apply Kd.R_drewN | apply Kd.R_drew)); exact HO_17.out)) k_ hk_))) (below_size (by repeat (first | (with_reducible first | exact HB.out | apply below_alloc | apply pw_below_drewN | apply below_drew1) | exact HB.out)))); have n3_ := Aside0.mk (below_step (by repeat (first | (with_reducible first | exact HB.out | apply below_alloc | apply pw_below_drewN | apply below_drew1) | exact HB.out)) hb); clear HO_17; clear HO252; clear HB; have HO_17 := n0_; have HO252 := n1_; have HO257 := n2_; have HB := n3_; clear n0_ n1_ n2_ n3_; clear hb ho71; obtain ⟨Ao72, co72, eo72⟩ := Kd.V_slice HO257.out; subst eo72) | ((with_reducible refine gate_callee (f := 18) rfl ?_); refine goesL_ (some 142) rfl rfl Try.func18 (by kernel_rfl) rfl #[.slice Ao72 y255.length co72, .int .i64 1, .int .i64 8] rfl (by (try simp only [List.map_toArray, List.map_cons, List.map_nil]); first | done | rfl | (simp only [List.length_drop, List.length_take]; rfl)) ?_; (with_reducible refine (waybillref1_Num.calls kj24 _ _ y255 1 8 t258 t259 _ ?side1 ?side2 A43.out).mono ?_); (case side1 => repeat (first | exact (Kd.V_reads' HO257.out).2.2 | (with_reducible refine Kd.C_alloc ?_ _) | (with_reducible refine Kd.C_drewN ?_ _) | (with_reducible refine Kd.C_drew ?_))); (case side2 => exact (Kd.V_reads' HO257.out).2.1); rintro e w' ⟨rfl, ⟨nd, rfl⟩⟩; refine ⟨_, rfl, ?_⟩))
                                                              (try (rw [drewN_self w70]; generalize hq_ : World.drewN w70 _ = w70; have n0_ : Aside0 (Kd.V (Kd.int .u8) 5 w70 w.heap.size (fun k_ => some k_ ≠ (v247 : Value).ownBlock) (.slice Ao69 y250.length co69) y250) := ⟨by rw [← hq_]; exact (by (with_reducible repeat (first | apply Kd.V_alloc | apply Kd.V_drewN | apply Kd.V_drew)); exact HO252.out)⟩; have n1_ : Aside0 (Kd.V (Kd.int .u8) 5 w70 w.heap.size (fun k_ => some k_ ≠ (v247 : Value).ownBlock) (.slice Ao72 y255.length co72) y255) := ⟨by rw [← hq_]; exact (by (with_reducible repeat (first | apply Kd.V_alloc | apply Kd.V_drewN | apply Kd.V_drew)); exact HO257.out)⟩; have n2_ : Aside0 (Kd.R (Kd.int .u8) 5 w70 w.heap.size (fun _ => True) v247 t246) := ⟨by rw [← hq_]; exact (by (with_reducible repeat (first | apply Kd.R_alloc | apply Kd.R_drewN | apply Kd.R_drew)); exact HO_17.out)⟩; have n3_ : Aside0 (Below w.heap.size w w70) := ⟨by rw [← hq_]; exact (by repeat (first | (with_reducible first | exact HB.out | apply below_alloc | apply pw_below_drewN | apply below_drew1) | exact HB.out))⟩; clear HO252 HO257 HO_17 HB hq_; have HO252 := n0_; have HO257 := n1_; have HO_17 := n2_; have HB := n3_; clear n0_ n1_ n2_ n3_))
                                                              have n0_ := Aside0.mk (Kd.R_drew HO_17.out)
                                                              have n1_ := Aside0.mk (Kd.V_drew HO252.out)
                                                              have n2_ := Aside0.mk (Kd.V_drew HO257.out)
                                                              have n3_ := Aside0.mk (below_drew1 HB.out)
                                                              clear HO_17
                                                              clear HO252
                                                              clear HO257
                                                              clear HB
                                                              have HO_17 := n0_
                                                              have HO252 := n1_
                                                              have HO257 := n2_
                                                              have HB := n3_
                                                              clear n0_ n1_ n2_ n3_
                                                              have p45 : 0 ≤ (0 : Int) := (by omega)
                                                              have q45 : 0 < t240.size := (by have : (0 : Int) < (t240.size : Int) := of_decide_eq_true (by first | (with_reducible assumption) | assumption); omega)
                                                              have hx45 : ∀ h : 0 < t240.size, ((t240[0]'h).toNat : Int) = bt t240 0 := bt_at t240 0
                                                              clear p45
                                                              have qi45 : (0 < (t240.size : Int)) = True := eq_true (of_decide_eq_true (by first | (with_reducible assumption) | assumption))
                                                              replace q45 := eq_true q45
                                                              have p48 : 0 ≤ (1 : Int) := (by omega)
                                                              have q48 : 1 < t240.size := (by have : (1 : Int) < (t240.size : Int) := of_decide_eq_true (by first | (with_reducible assumption) | assumption); omega)
                                                              have hx48 : ∀ h : 1 < t240.size, ((t240[1]'h).toNat : Int) = bt t240 1 := bt_at t240 1
                                                              clear p48
                                                              have qi48 : (1 < (t240.size : Int)) = True := eq_true (of_decide_eq_true (by first | (with_reducible assumption) | assumption))
                                                              replace q48 := eq_true q48
                                                              have p55 : 0 ≤ (0 : Int) := (by omega)
                                                              have q55 : 0 < t242.size := (by have : (0 : Int) < (t242.size : Int) := of_decide_eq_true (by first | (with_reducible assumption) | assumption); omega)
                                                              have hx55 : ∀ h : 0 < t242.size, ((t242[0]'h).toNat : Int) = bt t242 0 := bt_at t242 0
                                                              clear p55
                                                              have qi55 : (0 < (t242.size : Int)) = True := eq_true (of_decide_eq_true (by first | (with_reducible assumption) | assumption))
                                                              replace q55 := eq_true q55
                                                              have p58 : 0 ≤ (0 : Int) := (by omega)
                                                              have q58 : 0 < t244.size := (by have : (0 : Int) < (t244.size : Int) := of_decide_eq_true (by first | (with_reducible assumption) | assumption); omega)
                                                              have hx58 : ∀ h : 0 < t244.size, ((t244[0]'h).toNat : Int) = bt t244 0 := bt_at t244 0
                                                              clear p58
                                                              have qi58 : (0 < (t244.size : Int)) = True := eq_true (of_decide_eq_true (by first | (with_reducible assumption) | assumption))
                                                              replace q58 := eq_true q58
                                                              obtain ⟨Ao74, co74, eo74⟩ := Kd.R_slice HO_17.out
                                                              (first | subst eo74 | (injection eo74 with f1_ f2_ f3_; have f4_ := f1_.symm; have f5_ := f3_.symm; clear f1_ f2_ f3_; subst f4_; subst f5_))
                                                              have q75 : ((ji62) : Int) ≤ ((t246.length : Int) : Int) := of_decide_eq_true (by first | (with_reducible assumption) | assumption)
                                                              obtain ⟨i075, hi075, _, hsz75, _⟩ := info_parts info5
                                                              have hroom75 : t246.length ≤ co74 := (Kd.R_reads' HO_17.out).2.1
                                                              have hC75 : Kd.C (Kd.int .u8) _ Ao74 t246.length t246 := (Kd.R_reads' HO_17.out).2.2
                                                              have q075 : (0 : Int) ≤ ((ji62) : Int) := of_decide_eq_true (by first | (with_reducible assumption) | assumption)
                                                              have hcut75 := cut_from (P := Try.prog) 26 5 .i64 Try.underlying26 hi075 1 hsz75 Ao74 t246.length co74 (ji62) q075 q75
                                                              have hr75 := Kd.C_drop (m := ((ji62) : Int).toNat) (c := co74) hC75 (by omega) hroom75
                                                              obtain ⟨A75, hA75⟩ : ∃ A1, A1 = (if co74 = ((ji62) : Int).toNat then Ao74 else (Ao74 : Option Addr).map (·.add (((ji62) : Int).toNat * 1))) := ⟨_, rfl⟩
                                                              obtain ⟨c75, hc75⟩ : ∃ c1, c1 = co74 - ((ji62) : Int).toNat := ⟨_, rfl⟩
                                                              have hy75 : y260.length = t246.length - ((ji62) : Int).toNat := (by rw [Ny260.out, List.length_drop] <;> omega)
                                                              rw [show (t246).drop ((ji62) : Int).toNat = y260 from Ny260.out.symm] at hr75
                                                              replace hr75 : Kd.C (Kd.int .u8) _ A75 y260.length y260 := (by rw [hA75]; exact hr75)
                                                              rw [← hy75, ← hA75, ← hc75] at hcut75
                                                              have HR263 := Aside0.mk hr75
                                                              have HC263 := Aside0.mk (show y260.length ≤ c75 from by rw [hy75, hc75]; exact Nat.sub_le_sub_right hroom75 _)
                                                              clear hr75 hC75 hroom75 hi075 hsz75 hc75
                                                              have KY75 := Aside0.mk hy75
                                                              have KA75 := Aside0.mk hA75
                                                              clear hy75 hA75
                                                              have KL75 := Aside0.mk (show ((ji62) : Int).toNat ≤ t246.length from by omega)
                                                              replace q75 := eq_true q75
                                                              have hcv76 := Kd.C_string (P := Try.prog) (A := A75) (c := c75) Try.underlying26 Try.underlying5 Try.underlying9 (by repeat (first | (with_reducible exact HR263.out) | (with_reducible refine Kd.C_alloc ?_ _) | (with_reducible refine Kd.C_drewN ?_ _) | (with_reducible refine Kd.C_drew ?_) | exact HR263.out))
                                                              have hcv77 := Kd.C_string (P := Try.prog) (A := A4) (c := c4) Try.underlying26 Try.underlying5 Try.underlying9 (Kd.C_below HR4.out HB.out)
                                                              refine start_ (n := 57) (S := fun w' => (convert 26 9 (Value.slice A75 y260.length c75)).run Try.prog w' = .ok (.string (strOfNums y260)) w' ∧ (convert 26 9 (Value.slice A4 l4.length c4)).run Try.prog w' = .ok (.string (strOfNums l4)) w') (ds := []) #[false, false, false, false, false, false, false, false, false, false, false, false, false, false, false, false, false, false, false, false, false, false, false, false, false, false, false, false, false, false, false, false, false, false, false, false, false, false, false, false, false, false, false, false, false, false, false, false, false, false, false, false, false, false, false, false, false] (by kernel_rfl) rfl rfl ⟨hcv76, hcv77⟩ (fun hHeld => ?_); refine with_tabW waybilllaw12_KeysParts.tab13 waybilllaw12_KeysParts.bits13 (fun HT_ HW_ => ?_)
                                                              generalize w70.drew = w73 at HO_17 HO252 HO257 HB HR263 hHeld ⊢
                                                              refine pure_ (i := 0) (N := some 145) (v := ?_) (a' := ?_) #[true, false, false, false, false, false, false, false, false, false, false, false, false, false, false, false, false, false, false, false, false, false, false, false, false, false, false, false, false, false, false, false, false, false, false, false, false, false, false, false, false, false, false, false, false, false, false, false, false, false, false, false, false, false, false, false, false] rfl rfl (any_of HT_.out (by kernel_rfl)) (fun _ _ _ h => h) (Or.inl ⟨by rfl, ?_⟩) ?_ ?_
                                                              rotate_left
                                                              · intro w'
                                                                go_simp
                                                                with_reducible rfl
                                                              rotate_left
                                                              · simp only [Act.put, List.setIfInBounds_toArray, List.set_cons_zero, List.set_cons_succ, i64_w, i32_w]
                                                                rfl
                                                              refine take_ (i := 1) (N := some 146) (v := ?_) (a' := ?_) #[true, true, false, false, false, false, false, false, false, false, false, false, false, false, false, false, false, false, false, false, false, false, false, false, false, false, false, false, false, false, false, false, false, false, false, false, false, false, false, false, false, false, false, false, false, false, false, false, false, false, false, false, false, false, false, false, false] rfl rfl (take_ofW HT_.out HW_.out (by kernel_rfl)) (fun _ _ _ h => h) (Or.inl ⟨by rfl, ?_⟩) hHeld ?_ ?_
                                                              rotate_left
                                                              · intro w' _
                                                                go_simp
                                                                with_reducible rfl
                                                              rotate_left
                                                              · simp only [Act.put, List.setIfInBounds_toArray, List.set_cons_zero, List.set_cons_succ, i64_w, i32_w]
                                                                rfl
                                                              refine pure_ (i := 2) (N := some 147) (v := ?_) (a' := ?_) #[true, true, true, false, false, false, false, false, false, false, false, false, false, false, false, false, false, false, false, false, false, false, false, false, false, false, false, false, false, false, false, false, false, false, false, false, false, false, false, false, false, false, false, false, false, false, false, false, false, false, false, false, false, false, false, false, false] rfl rfl (any_of HT_.out (by kernel_rfl)) (fun _ _ _ h => h) (Or.inl ⟨by rfl, ?_⟩) ?_ ?_
                                                              rotate_left
                                                              · intro w'
                                                                go_simp
                                                                with_reducible rfl
                                                              rotate_left
                                                              · simp only [Act.put, List.setIfInBounds_toArray, List.set_cons_zero, List.set_cons_succ, i64_w, i32_w]
                                                                rfl
                                                              refine pure_ (i := 3) (N := some 148) (v := ?_) (a' := ?_) #[true, true, true, true, false, false, false, false, false, false, false, false, false, false, false, false, false, false, false, false, false, false, false, false, false, false, false, false, false, false, false, false, false, false, false, false, false, false, false, false, false, false, false, false, false, false, false, false, false, false, false, false, false, false, false, false, false] rfl rfl (any_of HT_.out (by kernel_rfl)) (fun _ _ _ h => h) (Or.inl ⟨by rfl, ?_⟩) ?_ ?_
                                                              rotate_left
                                                              · intro w'
                                                                go_simp
                                                                with_reducible rfl
                                                              rotate_left
                                                              · simp only [Act.put, List.setIfInBounds_toArray, List.set_cons_zero, List.set_cons_succ, i64_w, i32_w]
                                                                rfl
                                                              refine pure_ (i := 4) (N := some 149) (v := ?_) (a' := ?_) #[true, true, true, true, true, false, false, false, false, false, false, false, false, false, false, false, false, false, false, false, false, false, false, false, false, false, false, false, false, false, false, false, false, false, false, false, false, false, false, false, false, false, false, false, false, false, false, false, false, false, false, false, false, false, false, false, false] rfl rfl (any_of HT_.out (by kernel_rfl)) (fun _ _ _ h => h) (Or.inl ⟨by rfl, ?_⟩) ?_ ?_
                                                              rotate_left
                                                              · intro w'
                                                                go_simp
                                                                with_reducible rfl
                                                              rotate_left
                                                              · simp only [Act.put, List.setIfInBounds_toArray, List.set_cons_zero, List.set_cons_succ, i64_w, i32_w]
                                                                rfl
                                                              refine pure_ (i := 7) (N := some 152) (v := ?_) (a' := ?_) #[true, true, true, true, true, false, false, true, false, false, false, false, false, false, false, false, false, false, false, false, false, false, false, false, false, false, false, false, false, false, false, false, false, false, false, false, false, false, false, false, false, false, false, false, false, false, false, false, false, false, false, false, false, false, false, false, false] rfl rfl (any_of HT_.out (by kernel_rfl)) (fun _ _ _ h => h) (Or.inl ⟨by rfl, ?_⟩) ?_ ?_
                                                              rotate_left
                                                              · intro w'
                                                                go_simp
                                                                with_reducible rfl
                                                              rotate_left
                                                              · simp only [Act.put, List.setIfInBounds_toArray, List.set_cons_zero, List.set_cons_succ, i64_w, i32_w]
                                                                rfl
                                                              refine pure_ (i := 8) (N := some 153) (v := ?_) (a' := ?_) #[true, true, true, true, true, false, false, true, true, false, false, false, false, false, false, false, false, false, false, false, false, false, false, false, false, false, false, false, false, false, false, false, false, false, false, false, false, false, false, false, false, false, false, false, false, false, false, false, false, false, false, false, false, false, false, false, false] rfl rfl (any_of HT_.out (by kernel_rfl)) (fun _ _ _ h => h) (Or.inl ⟨by rfl, ?_⟩) ?_ ?_
                                                              rotate_left
                                                              · intro w'
                                                                go_simp
                                                                with_reducible rfl
                                                              rotate_left
                                                              · simp only [Act.put, List.setIfInBounds_toArray, List.set_cons_zero, List.set_cons_succ, i64_w, i32_w]
                                                                rfl
                                                              refine take_ (i := 5) (N := some 150) (v := ?_) (a' := ?_) #[true, true, true, true, true, true, false, true, true, false, false, false, false, false, false, false, false, false, false, false, false, false, false, false, false, false, false, false, false, false, false, false, false, false, false, false, false, false, false, false, false, false, false, false, false, false, false, false, false, false, false, false, false, false, false, false, false] rfl rfl (take_ofW HT_.out HW_.out (by kernel_rfl)) (fun _ _ _ h => h) (Or.inl ⟨by rfl, ?_⟩) hHeld ?_ ?_
                                                              rotate_left
                                                              · intro w' _
                                                                go_simp
                                                                with_reducible rfl
                                                              rotate_left
                                                              · simp only [Act.put, List.setIfInBounds_toArray, List.set_cons_zero, List.set_cons_succ, i64_w, i32_w]
                                                                rfl
                                                              refine pure_ (i := 6) (N := some 151) (v := ?_) (a' := ?_) #[true, true, true, true, true, true, true, true, true, false, false, false, false, false, false, false, false, false, false, false, false, false, false, false, false, false, false, false, false, false, false, false, false, false, false, false, false, false, false, false, false, false, false, false, false, false, false, false, false, false, false, false, false, false, false, false, false] rfl rfl (any_of HT_.out (by kernel_rfl)) (fun _ _ _ h => h) (Or.inl ⟨by rfl, ?_⟩) ?_ ?_
                                                              rotate_left
                                                              · intro w'
                                                                go_simp
                                                                with_reducible rfl
                                                              rotate_left
                                                              · simp only [Act.put, List.setIfInBounds_toArray, List.set_cons_zero, List.set_cons_succ, i64_w, i32_w]
                                                                rfl
                                                              refine pure_ (i := 9) (N := some 154) (v := ?_) (a' := ?_) #[true, true, true, true, true, true, true, true, true, true, false, false, false, false, false, false, false, false, false, false, false, false, false, false, false, false, false, false, false, false, false, false, false, false, false, false, false, false, false, false, false, false, false, false, false, false, false, false, false, false, false, false, false, false, false, false, false] rfl rfl (any_of HT_.out (by kernel_rfl)) (fun _ _ _ h => h) (Or.inl ⟨by rfl, ?_⟩) ?_ ?_
                                                              rotate_left
                                                              · intro w'
                                                                go_simp
                                                                with_reducible rfl
                                                              rotate_left
                                                              · simp only [Act.put, List.setIfInBounds_toArray, List.set_cons_zero, List.set_cons_succ, i64_w, i32_w]
                                                                rfl
                                                              refine pure_ (i := 10) (N := some 155) (v := ?_) (a' := ?_) #[true, true, true, true, true, true, true, true, true, true, true, false, false, false, false, false, false, false, false, false, false, false, false, false, false, false, false, false, false, false, false, false, false, false, false, false, false, false, false, false, false, false, false, false, false, false, false, false, false, false, false, false, false, false, false, false, false] rfl rfl (any_of HT_.out (by kernel_rfl)) (fun _ _ _ h => h) (Or.inl ⟨by rfl, ?_⟩) ?_ ?_
                                                              rotate_left
                                                              · intro w'
                                                                go_simp
                                                                with_reducible rfl
                                                              rotate_left
                                                              · simp only [Act.put, List.setIfInBounds_toArray, List.set_cons_zero, List.set_cons_succ, i64_w, i32_w]
                                                                rfl
                                                              refine pure_ (i := 11) (N := some 156) (v := ?_) (a' := ?_) #[true, true, true, true, true, true, true, true, true, true, true, true, false, false, false, false, false, false, false, false, false, false, false, false, false, false, false, false, false, false, false, false, false, false, false, false, false, false, false, false, false, false, false, false, false, false, false, false, false, false, false, false, false, false, false, false, false] rfl rfl (any_of HT_.out (by kernel_rfl)) (fun _ _ _ h => h) (Or.inl ⟨by rfl, ?_⟩) ?_ ?_
                                                              rotate_left
                                                              · intro w'
                                                                go_simp
                                                                with_reducible rfl
                                                              rotate_left
                                                              · simp only [Act.put, List.setIfInBounds_toArray, List.set_cons_zero, List.set_cons_succ, i64_w, i32_w]
                                                                rfl
                                                              refine pure_ (i := 12) (N := some 157) (v := ?_) (a' := ?_) #[true, true, true, true, true, true, true, true, true, true, true, true, true, false, false, false, false, false, false, false, false, false, false, false, false, false, false, false, false, false, false, false, false, false, false, false, false, false, false, false, false, false, false, false, false, false, false, false, false, false, false, false, false, false, false, false, false] rfl rfl (any_of HT_.out (by kernel_rfl)) (fun _ _ _ h => h) (Or.inl ⟨by rfl, ?_⟩) ?_ ?_
                                                              rotate_left
                                                              · intro w'
                                                                go_simp
                                                                with_reducible rfl
                                                              rotate_left
                                                              · simp only [Act.put, List.setIfInBounds_toArray, List.set_cons_zero, List.set_cons_succ, i64_w, i32_w]
                                                                rfl
                                                              refine pure_ (i := 13) (N := some 158) (v := ?_) (a' := ?_) #[true, true, true, true, true, true, true, true, true, true, true, true, true, true, false, false, false, false, false, false, false, false, false, false, false, false, false, false, false, false, false, false, false, false, false, false, false, false, false, false, false, false, false, false, false, false, false, false, false, false, false, false, false, false, false, false, false] rfl rfl (any_of HT_.out (by kernel_rfl)) (fun _ _ _ h => h) (Or.inl ⟨by rfl, ?_⟩) ?_ ?_
                                                              rotate_left
                                                              · intro w'
                                                                go_simp
                                                                with_reducible rfl
                                                              rotate_left
                                                              · simp only [Act.put, List.setIfInBounds_toArray, List.set_cons_zero, List.set_cons_succ, i64_w, i32_w]
                                                                rfl
                                                              refine pure_ (i := 14) (N := some 159) (v := ?_) (a' := ?_) #[true, true, true, true, true, true, true, true, true, true, true, true, true, true, true, false, false, false, false, false, false, false, false, false, false, false, false, false, false, false, false, false, false, false, false, false, false, false, false, false, false, false, false, false, false, false, false, false, false, false, false, false, false, false, false, false, false] rfl rfl (any_of HT_.out (by kernel_rfl)) (fun _ _ _ h => h) (Or.inl ⟨by rfl, ?_⟩) ?_ ?_
                                                              rotate_left
                                                              · intro w'
                                                                go_simp
                                                                with_reducible rfl
                                                              rotate_left
                                                              · simp only [Act.put, List.setIfInBounds_toArray, List.set_cons_zero, List.set_cons_succ, i64_w, i32_w]
                                                                rfl
                                                              refine pure_ (i := 15) (N := some 160) (v := ?_) (a' := ?_) #[true, true, true, true, true, true, true, true, true, true, true, true, true, true, true, true, false, false, false, false, false, false, false, false, false, false, false, false, false, false, false, false, false, false, false, false, false, false, false, false, false, false, false, false, false, false, false, false, false, false, false, false, false, false, false, false, false] rfl rfl (any_of HT_.out (by kernel_rfl)) (fun _ _ _ h => h) (Or.inl ⟨by rfl, ?_⟩) ?_ ?_
                                                              rotate_left
                                                              · intro w'
                                                                go_simp
                                                                with_reducible rfl
                                                              rotate_left
                                                              · simp only [Act.put, List.setIfInBounds_toArray, List.set_cons_zero, List.set_cons_succ, i64_w, i32_w]
                                                                rfl
                                                              refine pure_ (i := 16) (N := some 161) (v := ?_) (a' := ?_) #[true, true, true, true, true, true, true, true, true, true, true, true, true, true, true, true, true, false, false, false, false, false, false, false, false, false, false, false, false, false, false, false, false, false, false, false, false, false, false, false, false, false, false, false, false, false, false, false, false, false, false, false, false, false, false, false, false] rfl rfl (any_of HT_.out (by kernel_rfl)) (fun _ _ _ h => h) (Or.inl ⟨by rfl, ?_⟩) ?_ ?_
                                                              rotate_left
                                                              · intro w'
                                                                go_simp
                                                                with_reducible rfl
                                                              rotate_left
                                                              · simp only [Act.put, List.setIfInBounds_toArray, List.set_cons_zero, List.set_cons_succ, i64_w, i32_w]
                                                                rfl
                                                              refine pure_ (i := 17) (N := some 162) (v := ?_) (a' := ?_) #[true, true, true, true, true, true, true, true, true, true, true, true, true, true, true, true, true, true, false, false, false, false, false, false, false, false, false, false, false, false, false, false, false, false, false, false, false, false, false, false, false, false, false, false, false, false, false, false, false, false, false, false, false, false, false, false, false] rfl rfl (any_of HT_.out (by kernel_rfl)) (fun _ _ _ h => h) (Or.inl ⟨by rfl, ?_⟩) ?_ ?_
                                                              rotate_left
                                                              · intro w'
                                                                go_simp
                                                                with_reducible rfl
                                                              rotate_left
                                                              · simp only [Act.put, List.setIfInBounds_toArray, List.set_cons_zero, List.set_cons_succ, i64_w, i32_w]
                                                                rfl
                                                              refine pure_ (i := 18) (N := some 163) (v := ?_) (a' := ?_) #[true, true, true, true, true, true, true, true, true, true, true, true, true, true, true, true, true, true, true, false, false, false, false, false, false, false, false, false, false, false, false, false, false, false, false, false, false, false, false, false, false, false, false, false, false, false, false, false, false, false, false, false, false, false, false, false, false] rfl rfl (any_of HT_.out (by kernel_rfl)) (fun _ _ _ h => h) (Or.inl ⟨by rfl, ?_⟩) ?_ ?_
                                                              rotate_left
                                                              · intro w'
                                                                go_simp
                                                                with_reducible rfl
                                                              rotate_left
                                                              · simp only [Act.put, List.setIfInBounds_toArray, List.set_cons_zero, List.set_cons_succ, i64_w, i32_w]
                                                                rfl
                                                              refine pure_ (i := 19) (N := some 164) (v := ?_) (a' := ?_) #[true, true, true, true, true, true, true, true, true, true, true, true, true, true, true, true, true, true, true, true, false, false, false, false, false, false, false, false, false, false, false, false, false, false, false, false, false, false, false, false, false, false, false, false, false, false, false, false, false, false, false, false, false, false, false, false, false] rfl rfl (any_of HT_.out (by kernel_rfl)) (fun _ _ _ h => h) (Or.inl ⟨by rfl, ?_⟩) ?_ ?_
                                                              rotate_left
                                                              · intro w'
                                                                go_simp
                                                                with_reducible rfl
                                                              rotate_left
                                                              · simp only [Act.put, List.setIfInBounds_toArray, List.set_cons_zero, List.set_cons_succ, i64_w, i32_w]
                                                                rfl
                                                              refine pure_ (i := 20) (N := some 165) (v := ?_) (a' := ?_) #[true, true, true, true, true, true, true, true, true, true, true, true, true, true, true, true, true, true, true, true, true, false, false, false, false, false, false, false, false, false, false, false, false, false, false, false, false, false, false, false, false, false, false, false, false, false, false, false, false, false, false, false, false, false, false, false, false] rfl rfl (any_of HT_.out (by kernel_rfl)) (fun _ _ _ h => h) (Or.inl ⟨by rfl, ?_⟩) ?_ ?_
                                                              rotate_left
                                                              · intro w'
                                                                go_simp
                                                                with_reducible rfl
                                                              rotate_left
                                                              · simp only [Act.put, List.setIfInBounds_toArray, List.set_cons_zero, List.set_cons_succ, i64_w, i32_w]
                                                                rfl
                                                              refine pure_ (i := 21) (N := some 166) (v := ?_) (a' := ?_) #[true, true, true, true, true, true, true, true, true, true, true, true, true, true, true, true, true, true, true, true, true, true, false, false, false, false, false, false, false, false, false, false, false, false, false, false, false, false, false, false, false, false, false, false, false, false, false, false, false, false, false, false, false, false, false, false, false] rfl rfl (any_of HT_.out (by kernel_rfl)) (fun _ _ _ h => h) (Or.inl ⟨by rfl, ?_⟩) ?_ ?_
                                                              rotate_left
                                                              · intro w'
                                                                go_simp
                                                                with_reducible rfl
                                                              rotate_left
                                                              · simp only [Act.put, List.setIfInBounds_toArray, List.set_cons_zero, List.set_cons_succ, i64_w, i32_w]
                                                                rfl
                                                              refine take_ (i := 22) (N := some 167) (v := ?_) (a' := ?_) #[true, true, true, true, true, true, true, true, true, true, true, true, true, true, true, true, true, true, true, true, true, true, true, false, false, false, false, false, false, false, false, false, false, false, false, false, false, false, false, false, false, false, false, false, false, false, false, false, false, false, false, false, false, false, false, false, false] rfl rfl (take_ofW HT_.out HW_.out (by kernel_rfl)) (fun _ _ _ h => h) (Or.inl ⟨by rfl, ?_⟩) hHeld ?_ ?_
                                                              rotate_left
                                                              · intro w' _
                                                                go_simp
                                                                with_reducible rfl
                                                              rotate_left
                                                              · simp only [Act.put, List.setIfInBounds_toArray, List.set_cons_zero, List.set_cons_succ, i64_w, i32_w]
                                                                rfl
                                                              refine pure_ (i := 23) (N := some 168) (v := ?_) (a' := ?_) #[true, true, true, true, true, true, true, true, true, true, true, true, true, true, true, true, true, true, true, true, true, true, true, true, false, false, false, false, false, false, false, false, false, false, false, false, false, false, false, false, false, false, false, false, false, false, false, false, false, false, false, false, false, false, false, false, false] rfl rfl (any_of HT_.out (by kernel_rfl)) (fun _ _ _ h => h) (Or.inl ⟨by rfl, ?_⟩) ?_ ?_
                                                              rotate_left
                                                              · intro w'
                                                                go_simp
                                                                with_reducible rfl
                                                              rotate_left
                                                              · simp only [Act.put, List.setIfInBounds_toArray, List.set_cons_zero, List.set_cons_succ, i64_w, i32_w]
                                                                rfl
                                                              refine pure_ (i := 24) (N := some 169) (v := ?_) (a' := ?_) #[true, true, true, true, true, true, true, true, true, true, true, true, true, true, true, true, true, true, true, true, true, true, true, true, true, false, false, false, false, false, false, false, false, false, false, false, false, false, false, false, false, false, false, false, false, false, false, false, false, false, false, false, false, false, false, false, false] rfl rfl (any_of HT_.out (by kernel_rfl)) (fun _ _ _ h => h) (Or.inl ⟨by rfl, ?_⟩) ?_ ?_
                                                              rotate_left
                                                              · intro w'
                                                                go_simp
                                                                with_reducible rfl
                                                              rotate_left
                                                              · simp only [Act.put, List.setIfInBounds_toArray, List.set_cons_zero, List.set_cons_succ, i64_w, i32_w]
                                                                rfl
                                                              refine pure_ (i := 25) (N := some 170) (v := ?_) (a' := ?_) #[true, true, true, true, true, true, true, true, true, true, true, true, true, true, true, true, true, true, true, true, true, true, true, true, true, true, false, false, false, false, false, false, false, false, false, false, false, false, false, false, false, false, false, false, false, false, false, false, false, false, false, false, false, false, false, false, false] rfl rfl (any_of HT_.out (by kernel_rfl)) (fun _ _ _ h => h) (Or.inl ⟨by rfl, ?_⟩) ?_ ?_
                                                              rotate_left
                                                              · intro w'
                                                                go_simp
                                                                with_reducible rfl
                                                              rotate_left
                                                              · simp only [Act.put, List.setIfInBounds_toArray, List.set_cons_zero, List.set_cons_succ, i64_w, i32_w]
                                                                rfl
                                                              refine pure_ (i := 26) (N := some 171) (v := ?_) (a' := ?_) #[true, true, true, true, true, true, true, true, true, true, true, true, true, true, true, true, true, true, true, true, true, true, true, true, true, true, true, false, false, false, false, false, false, false, false, false, false, false, false, false, false, false, false, false, false, false, false, false, false, false, false, false, false, false, false, false, false] rfl rfl (any_of HT_.out (by kernel_rfl)) (fun _ _ _ h => h) (Or.inl ⟨by rfl, ?_⟩) ?_ ?_
                                                              rotate_left
                                                              · intro w'
                                                                go_simp
                                                                with_reducible rfl
                                                              rotate_left
                                                              · simp only [Act.put, List.setIfInBounds_toArray, List.set_cons_zero, List.set_cons_succ, i64_w, i32_w]
                                                                rfl
                                                              refine take_ (i := 27) (N := some 172) (v := ?_) (a' := ?_) #[true, true, true, true, true, true, true, true, true, true, true, true, true, true, true, true, true, true, true, true, true, true, true, true, true, true, true, true, false, false, false, false, false, false, false, false, false, false, false, false, false, false, false, false, false, false, false, false, false, false, false, false, false, false, false, false, false] rfl rfl (take_ofW HT_.out HW_.out (by kernel_rfl)) (fun _ _ _ h => h) (Or.inl ⟨by rfl, ?_⟩) hHeld ?_ ?_
                                                              rotate_left
                                                              · intro w' _
                                                                go_simp
                                                                with_reducible rfl
                                                              rotate_left
                                                              · simp only [Act.put, List.setIfInBounds_toArray, List.set_cons_zero, List.set_cons_succ, i64_w, i32_w]
                                                                rfl
                                                              refine pure_ (i := 28) (N := some 173) (v := ?_) (a' := ?_) #[true, true, true, true, true, true, true, true, true, true, true, true, true, true, true, true, true, true, true, true, true, true, true, true, true, true, true, true, true, false, false, false, false, false, false, false, false, false, false, false, false, false, false, false, false, false, false, false, false, false, false, false, false, false, false, false, false] rfl rfl (any_of HT_.out (by kernel_rfl)) (fun _ _ _ h => h) (Or.inl ⟨by rfl, ?_⟩) ?_ ?_
                                                              rotate_left
                                                              · intro w'
                                                                go_simp
                                                                with_reducible rfl
                                                              rotate_left
                                                              · simp only [Act.put, List.setIfInBounds_toArray, List.set_cons_zero, List.set_cons_succ, i64_w, i32_w]
                                                                rfl
                                                              refine pure_ (i := 29) (N := some 174) (v := ?_) (a' := ?_) #[true, true, true, true, true, true, true, true, true, true, true, true, true, true, true, true, true, true, true, true, true, true, true, true, true, true, true, true, true, true, false, false, false, false, false, false, false, false, false, false, false, false, false, false, false, false, false, false, false, false, false, false, false, false, false, false, false] rfl rfl (any_of HT_.out (by kernel_rfl)) (fun _ _ _ h => h) (Or.inl ⟨by rfl, ?_⟩) ?_ ?_
                                                              rotate_left
                                                              · intro w'
                                                                go_simp
                                                                with_reducible rfl
                                                              rotate_left
                                                              · simp only [Act.put, List.setIfInBounds_toArray, List.set_cons_zero, List.set_cons_succ, i64_w, i32_w]
                                                                rfl
                                                              refine pure_ (i := 30) (N := some 175) (v := ?_) (a' := ?_) #[true, true, true, true, true, true, true, true, true, true, true, true, true, true, true, true, true, true, true, true, true, true, true, true, true, true, true, true, true, true, true, false, false, false, false, false, false, false, false, false, false, false, false, false, false, false, false, false, false, false, false, false, false, false, false, false, false] rfl rfl (any_of HT_.out (by kernel_rfl)) (fun _ _ _ h => h) (Or.inl ⟨by rfl, ?_⟩) ?_ ?_
                                                              rotate_left
                                                              · intro w'
                                                                go_simp
                                                                with_reducible rfl
                                                              rotate_left
                                                              · simp only [Act.put, List.setIfInBounds_toArray, List.set_cons_zero, List.set_cons_succ, i64_w, i32_w]
                                                                rfl
                                                              refine pure_ (i := 31) (N := some 176) (v := ?_) (a' := ?_) #[true, true, true, true, true, true, true, true, true, true, true, true, true, true, true, true, true, true, true, true, true, true, true, true, true, true, true, true, true, true, true, true, false, false, false, false, false, false, false, false, false, false, false, false, false, false, false, false, false, false, false, false, false, false, false, false, false] rfl rfl (any_of HT_.out (by kernel_rfl)) (fun _ _ _ h => h) (Or.inl ⟨by rfl, ?_⟩) ?_ ?_
                                                              rotate_left
                                                              · intro w'
                                                                go_simp
                                                                with_reducible rfl
                                                              rotate_left
                                                              · simp only [Act.put, List.setIfInBounds_toArray, List.set_cons_zero, List.set_cons_succ, i64_w, i32_w]
                                                                rfl
                                                              refine pure_ (i := 32) (N := some 177) (v := ?_) (a' := ?_) #[true, true, true, true, true, true, true, true, true, true, true, true, true, true, true, true, true, true, true, true, true, true, true, true, true, true, true, true, true, true, true, true, true, false, false, false, false, false, false, false, false, false, false, false, false, false, false, false, false, false, false, false, false, false, false, false, false] rfl rfl (any_of HT_.out (by kernel_rfl)) (fun _ _ _ h => h) (Or.inl ⟨by rfl, ?_⟩) ?_ ?_
                                                              rotate_left
                                                              · intro w'
                                                                go_simp
                                                                with_reducible rfl
                                                              rotate_left
                                                              · simp only [Act.put, List.setIfInBounds_toArray, List.set_cons_zero, List.set_cons_succ, i64_w, i32_w]
                                                                rfl
                                                              refine pure_ (i := 33) (N := some 178) (v := ?_) (a' := ?_) #[true, true, true, true, true, true, true, true, true, true, true, true, true, true, true, true, true, true, true, true, true, true, true, true, true, true, true, true, true, true, true, true, true, true, false, false, false, false, false, false, false, false, false, false, false, false, false, false, false, false, false, false, false, false, false, false, false] rfl rfl (any_of HT_.out (by kernel_rfl)) (fun _ _ _ h => h) (Or.inl ⟨by rfl, ?_⟩) ?_ ?_
                                                              rotate_left
                                                              · intro w'
                                                                go_simp
                                                                with_reducible rfl
                                                              rotate_left
                                                              · simp only [Act.put, List.setIfInBounds_toArray, List.set_cons_zero, List.set_cons_succ, i64_w, i32_w]
                                                                rfl
                                                              refine pure_ (i := 34) (N := some 179) (v := ?_) (a' := ?_) #[true, true, true, true, true, true, true, true, true, true, true, true, true, true, true, true, true, true, true, true, true, true, true, true, true, true, true, true, true, true, true, true, true, true, true, false, false, false, false, false, false, false, false, false, false, false, false, false, false, false, false, false, false, false, false, false, false] rfl rfl (any_of HT_.out (by kernel_rfl)) (fun _ _ _ h => h) (Or.inl ⟨by rfl, ?_⟩) ?_ ?_
                                                              rotate_left
                                                              · intro w'
                                                                go_simp
                                                                with_reducible rfl
                                                              rotate_left
                                                              · simp only [Act.put, List.setIfInBounds_toArray, List.set_cons_zero, List.set_cons_succ, i64_w, i32_w]
                                                                rfl
                                                              refine pure_ (i := 35) (N := some 180) (v := ?_) (a' := ?_) #[true, true, true, true, true, true, true, true, true, true, true, true, true, true, true, true, true, true, true, true, true, true, true, true, true, true, true, true, true, true, true, true, true, true, true, true, false, false, false, false, false, false, false, false, false, false, false, false, false, false, false, false, false, false, false, false, false] rfl rfl (any_of HT_.out (by kernel_rfl)) (fun _ _ _ h => h) (Or.inl ⟨by rfl, ?_⟩) ?_ ?_
                                                              rotate_left
                                                              · intro w'
                                                                go_simp
                                                                with_reducible rfl
                                                              rotate_left
                                                              · simp only [Act.put, List.setIfInBounds_toArray, List.set_cons_zero, List.set_cons_succ, i64_w, i32_w]
                                                                rfl
                                                              refine pure_ (i := 36) (N := some 181) (v := ?_) (a' := ?_) #[true, true, true, true, true, true, true, true, true, true, true, true, true, true, true, true, true, true, true, true, true, true, true, true, true, true, true, true, true, true, true, true, true, true, true, true, true, false, false, false, false, false, false, false, false, false, false, false, false, false, false, false, false, false, false, false, false] rfl rfl (any_of HT_.out (by kernel_rfl)) (fun _ _ _ h => h) (Or.inl ⟨by rfl, ?_⟩) ?_ ?_
                                                              rotate_left
                                                              · intro w'
                                                                go_simp
                                                                with_reducible rfl
                                                              rotate_left
                                                              · simp only [Act.put, List.setIfInBounds_toArray, List.set_cons_zero, List.set_cons_succ, i64_w, i32_w]
                                                                rfl
                                                              refine pure_ (i := 37) (N := some 182) (v := ?_) (a' := ?_) #[true, true, true, true, true, true, true, true, true, true, true, true, true, true, true, true, true, true, true, true, true, true, true, true, true, true, true, true, true, true, true, true, true, true, true, true, true, true, false, false, false, false, false, false, false, false, false, false, false, false, false, false, false, false, false, false, false] rfl rfl (any_of HT_.out (by kernel_rfl)) (fun _ _ _ h => h) (Or.inl ⟨by rfl, ?_⟩) ?_ ?_
                                                              rotate_left
                                                              · intro w'
                                                                go_simp
                                                                with_reducible rfl
                                                              rotate_left
                                                              · simp only [Act.put, List.setIfInBounds_toArray, List.set_cons_zero, List.set_cons_succ, i64_w, i32_w]
                                                                rfl
                                                              refine pure_ (i := 38) (N := some 183) (v := ?_) (a' := ?_) #[true, true, true, true, true, true, true, true, true, true, true, true, true, true, true, true, true, true, true, true, true, true, true, true, true, true, true, true, true, true, true, true, true, true, true, true, true, true, true, false, false, false, false, false, false, false, false, false, false, false, false, false, false, false, false, false, false] rfl rfl (any_of HT_.out (by kernel_rfl)) (fun _ _ _ h => h) (Or.inl ⟨by rfl, ?_⟩) ?_ ?_
                                                              rotate_left
                                                              · intro w'
                                                                go_simp
                                                                with_reducible rfl
                                                              rotate_left
                                                              · simp only [Act.put, List.setIfInBounds_toArray, List.set_cons_zero, List.set_cons_succ, i64_w, i32_w]
                                                                rfl
                                                              refine pure_ (i := 39) (N := some 184) (v := ?_) (a' := ?_) #[true, true, true, true, true, true, true, true, true, true, true, true, true, true, true, true, true, true, true, true, true, true, true, true, true, true, true, true, true, true, true, true, true, true, true, true, true, true, true, true, false, false, false, false, false, false, false, false, false, false, false, false, false, false, false, false, false] rfl rfl (any_of HT_.out (by kernel_rfl)) (fun _ _ _ h => h) (Or.inl ⟨by rfl, ?_⟩) ?_ ?_
                                                              rotate_left
                                                              · intro w'
                                                                go_simp
                                                                with_reducible rfl
                                                              rotate_left
                                                              · simp only [Act.put, List.setIfInBounds_toArray, List.set_cons_zero, List.set_cons_succ, i64_w, i32_w]
                                                                rfl
                                                              refine pure_ (i := 40) (N := some 185) (v := ?_) (a' := ?_) #[true, true, true, true, true, true, true, true, true, true, true, true, true, true, true, true, true, true, true, true, true, true, true, true, true, true, true, true, true, true, true, true, true, true, true, true, true, true, true, true, true, false, false, false, false, false, false, false, false, false, false, false, false, false, false, false, false] rfl rfl (any_of HT_.out (by kernel_rfl)) (fun _ _ _ h => h) (Or.inl ⟨by rfl, ?_⟩) ?_ ?_
                                                              rotate_left
                                                              · intro w'
                                                                go_simp
                                                                with_reducible rfl
                                                              rotate_left
                                                              · simp only [Act.put, List.setIfInBounds_toArray, List.set_cons_zero, List.set_cons_succ, i64_w, i32_w]
                                                                rfl
                                                              refine pure_ (i := 41) (N := some 186) (v := ?_) (a' := ?_) #[true, true, true, true, true, true, true, true, true, true, true, true, true, true, true, true, true, true, true, true, true, true, true, true, true, true, true, true, true, true, true, true, true, true, true, true, true, true, true, true, true, true, false, false, false, false, false, false, false, false, false, false, false, false, false, false, false] rfl rfl (any_of HT_.out (by kernel_rfl)) (fun _ _ _ h => h) (Or.inl ⟨by rfl, ?_⟩) ?_ ?_
                                                              rotate_left
                                                              · intro w'
                                                                go_simp
                                                                with_reducible rfl
                                                              rotate_left
                                                              · simp only [Act.put, List.setIfInBounds_toArray, List.set_cons_zero, List.set_cons_succ, i64_w, i32_w]
                                                                rfl
                                                              refine pure_ (i := 42) (N := some 187) (v := ?_) (a' := ?_) #[true, true, true, true, true, true, true, true, true, true, true, true, true, true, true, true, true, true, true, true, true, true, true, true, true, true, true, true, true, true, true, true, true, true, true, true, true, true, true, true, true, true, true, false, false, false, false, false, false, false, false, false, false, false, false, false, false] rfl rfl (any_of HT_.out (by kernel_rfl)) (fun _ _ _ h => h) (Or.inl ⟨by rfl, ?_⟩) ?_ ?_
                                                              rotate_left
                                                              · intro w'
                                                                go_simp
                                                                with_reducible rfl
                                                              rotate_left
                                                              · simp only [Act.put, List.setIfInBounds_toArray, List.set_cons_zero, List.set_cons_succ, i64_w, i32_w]
                                                                rfl
                                                              refine pure_ (i := 43) (N := some 188) (v := ?_) (a' := ?_) #[true, true, true, true, true, true, true, true, true, true, true, true, true, true, true, true, true, true, true, true, true, true, true, true, true, true, true, true, true, true, true, true, true, true, true, true, true, true, true, true, true, true, true, true, false, false, false, false, false, false, false, false, false, false, false, false, false] rfl rfl (any_of HT_.out (by kernel_rfl)) (fun _ _ _ h => h) (Or.inl ⟨by rfl, ?_⟩) ?_ ?_
                                                              rotate_left
                                                              · intro w'
                                                                go_simp
                                                                with_reducible rfl
                                                              rotate_left
                                                              · simp only [Act.put, List.setIfInBounds_toArray, List.set_cons_zero, List.set_cons_succ, i64_w, i32_w]
                                                                rfl
                                                              refine pure_ (i := 44) (N := some 189) (v := ?_) (a' := ?_) #[true, true, true, true, true, true, true, true, true, true, true, true, true, true, true, true, true, true, true, true, true, true, true, true, true, true, true, true, true, true, true, true, true, true, true, true, true, true, true, true, true, true, true, true, true, false, false, false, false, false, false, false, false, false, false, false, false] rfl rfl (any_of HT_.out (by kernel_rfl)) (fun _ _ _ h => h) (Or.inl ⟨by rfl, ?_⟩) ?_ ?_
                                                              rotate_left
                                                              · intro w'
                                                                go_simp
                                                                with_reducible rfl
                                                              rotate_left
                                                              · simp only [Act.put, List.setIfInBounds_toArray, List.set_cons_zero, List.set_cons_succ, i64_w, i32_w]
                                                                rfl
                                                              refine pure_ (i := 45) (N := some 190) (v := ?_) (a' := ?_) #[true, true, true, true, true, true, true, true, true, true, true, true, true, true, true, true, true, true, true, true, true, true, true, true, true, true, true, true, true, true, true, true, true, true, true, true, true, true, true, true, true, true, true, true, true, true, false, false, false, false, false, false, false, false, false, false, false] rfl rfl (any_of HT_.out (by kernel_rfl)) (fun _ _ _ h => h) (Or.inl ⟨by rfl, ?_⟩) ?_ ?_
                                                              rotate_left
                                                              · intro w'
                                                                go_simp
                                                                with_reducible rfl
                                                              rotate_left
                                                              · simp only [Act.put, List.setIfInBounds_toArray, List.set_cons_zero, List.set_cons_succ, i64_w, i32_w]
                                                                rfl
                                                              refine pure_ (i := 46) (N := some 191) (v := ?_) (a' := ?_) #[true, true, true, true, true, true, true, true, true, true, true, true, true, true, true, true, true, true, true, true, true, true, true, true, true, true, true, true, true, true, true, true, true, true, true, true, true, true, true, true, true, true, true, true, true, true, true, false, false, false, false, false, false, false, false, false, false] rfl rfl (any_of HT_.out (by kernel_rfl)) (fun _ _ _ h => h) (Or.inl ⟨by rfl, ?_⟩) ?_ ?_
                                                              rotate_left
                                                              · intro w'
                                                                go_simp
                                                                with_reducible rfl
                                                              rotate_left
                                                              · simp only [Act.put, List.setIfInBounds_toArray, List.set_cons_zero, List.set_cons_succ, i64_w, i32_w]
                                                                rfl
                                                              refine pure_ (i := 47) (N := some 192) (v := ?_) (a' := ?_) #[true, true, true, true, true, true, true, true, true, true, true, true, true, true, true, true, true, true, true, true, true, true, true, true, true, true, true, true, true, true, true, true, true, true, true, true, true, true, true, true, true, true, true, true, true, true, true, true, false, false, false, false, false, false, false, false, false] rfl rfl (any_of HT_.out (by kernel_rfl)) (fun _ _ _ h => h) (Or.inl ⟨by rfl, ?_⟩) ?_ ?_
                                                              rotate_left
                                                              · intro w'
                                                                go_simp
                                                                with_reducible rfl
                                                              rotate_left
                                                              · simp only [Act.put, List.setIfInBounds_toArray, List.set_cons_zero, List.set_cons_succ, i64_w, i32_w]
                                                                rfl
                                                              refine take_ (i := 48) (N := some 193) (v := ?_) (a' := ?_) #[true, true, true, true, true, true, true, true, true, true, true, true, true, true, true, true, true, true, true, true, true, true, true, true, true, true, true, true, true, true, true, true, true, true, true, true, true, true, true, true, true, true, true, true, true, true, true, true, true, false, false, false, false, false, false, false, false] rfl rfl (take_ofW HT_.out HW_.out (by kernel_rfl)) (fun _ _ _ h => h) (Or.inl ⟨by rfl, ?_⟩) hHeld ?_ ?_
                                                              rotate_left
                                                              · rintro w' ⟨s0, s1⟩
                                                                go_simp
                                                                with_reducible rfl
                                                              rotate_left
                                                              · simp only [Act.put, List.setIfInBounds_toArray, List.set_cons_zero, List.set_cons_succ, i64_w, i32_w]
                                                                rfl
                                                              refine pure_ (i := 49) (N := some 194) (v := ?_) (a' := ?_) #[true, true, true, true, true, true, true, true, true, true, true, true, true, true, true, true, true, true, true, true, true, true, true, true, true, true, true, true, true, true, true, true, true, true, true, true, true, true, true, true, true, true, true, true, true, true, true, true, true, true, false, false, false, false, false, false, false] rfl rfl (any_of HT_.out (by kernel_rfl)) (fun _ _ _ h => h) (Or.inl ⟨by rfl, ?_⟩) ?_ ?_
                                                              rotate_left
                                                              · intro w'
                                                                go_simp
                                                                with_reducible rfl
                                                              rotate_left
                                                              · simp only [Act.put, List.setIfInBounds_toArray, List.set_cons_zero, List.set_cons_succ, i64_w, i32_w]
                                                                rfl
                                                              refine take_ (i := 50) (N := some 195) (v := ?_) (a' := ?_) #[true, true, true, true, true, true, true, true, true, true, true, true, true, true, true, true, true, true, true, true, true, true, true, true, true, true, true, true, true, true, true, true, true, true, true, true, true, true, true, true, true, true, true, true, true, true, true, true, true, true, true, false, false, false, false, false, false] rfl rfl (take_ofW HT_.out HW_.out (by kernel_rfl)) (fun _ _ _ h => h) (Or.inl ⟨by rfl, ?_⟩) hHeld ?_ ?_
                                                              rotate_left
                                                              · rintro w' ⟨s0, s1⟩
                                                                go_simp
                                                                with_reducible rfl
                                                              rotate_left
                                                              · simp only [Act.put, List.setIfInBounds_toArray, List.set_cons_zero, List.set_cons_succ, i64_w, i32_w]
                                                                rfl
                                                              refine pure_ (i := 51) (N := some 196) (v := ?_) (a' := ?_) #[true, true, true, true, true, true, true, true, true, true, true, true, true, true, true, true, true, true, true, true, true, true, true, true, true, true, true, true, true, true, true, true, true, true, true, true, true, true, true, true, true, true, true, true, true, true, true, true, true, true, true, true, false, false, false, false, false] rfl rfl (any_of HT_.out (by kernel_rfl)) (fun _ _ _ h => h) (Or.inl ⟨by rfl, ?_⟩) ?_ ?_
                                                              rotate_left
                                                              · intro w'
                                                                go_simp
                                                                with_reducible rfl
                                                              rotate_left
                                                              · simp only [Act.put, List.setIfInBounds_toArray, List.set_cons_zero, List.set_cons_succ, i64_w, i32_w]
                                                                rfl
                                                              refine pure_ (i := 52) (N := some 197) (v := ?_) (a' := ?_) #[true, true, true, true, true, true, true, true, true, true, true, true, true, true, true, true, true, true, true, true, true, true, true, true, true, true, true, true, true, true, true, true, true, true, true, true, true, true, true, true, true, true, true, true, true, true, true, true, true, true, true, true, true, false, false, false, false] rfl rfl (any_of HT_.out (by kernel_rfl)) (fun _ _ _ h => h) (Or.inl ⟨by rfl, ?_⟩) ?_ ?_
                                                              rotate_left
                                                              · intro w'
                                                                go_simp
                                                                with_reducible rfl
                                                              rotate_left
                                                              · simp only [Act.put, List.setIfInBounds_toArray, List.set_cons_zero, List.set_cons_succ, i64_w, i32_w]
                                                                rfl
                                                              refine pure_ (i := 53) (N := some 198) (v := ?_) (a' := ?_) #[true, true, true, true, true, true, true, true, true, true, true, true, true, true, true, true, true, true, true, true, true, true, true, true, true, true, true, true, true, true, true, true, true, true, true, true, true, true, true, true, true, true, true, true, true, true, true, true, true, true, true, true, true, true, false, false, false] rfl rfl (any_of HT_.out (by kernel_rfl)) (fun _ _ _ h => h) (Or.inl ⟨by rfl, ?_⟩) ?_ ?_
                                                              rotate_left
                                                              · intro w'
                                                                go_simp
                                                                with_reducible rfl
                                                              rotate_left
                                                              · simp only [Act.put, List.setIfInBounds_toArray, List.set_cons_zero, List.set_cons_succ, i64_w, i32_w]
                                                                rfl
                                                              refine one_ (i := 54) (N := some 199) #[true, true, true, true, true, true, true, true, true, true, true, true, true, true, true, true, true, true, true, true, true, true, true, true, true, true, true, true, true, true, true, true, true, true, true, true, true, true, true, true, true, true, true, true, true, true, true, true, true, true, true, true, true, true, true, false, false] rfl rfl (one_of HT_.out (by kernel_rfl)) (by decide) (fun K hK => ?_)
                                                              refine goes_ Try.func37 (by kernel_rfl) rfl #[] (by rfl) rfl rfl (by (try simp only [List.map_toArray, List.map_cons, List.map_nil]); first | done | rfl | (simp only [List.length_drop, List.length_take]; rfl)) ?_
                                                              with_reducible refine (waybilllaw12_awake.calls kj24  t264 _ A66.out).mono ?_
                                                              rintro e w79 ⟨rfl, hb⟩
                                                              have hb0 := Aside0.mk hb
                                                              refine ⟨_, rfl, ?_⟩
                                                              have n0_ := Aside0.mk (Kd.R_below (by (with_reducible repeat (first | apply Kd.R_alloc | apply Kd.R_drewN | apply Kd.R_drew)); exact HO_17.out) hb)
                                                              have n1_ := Aside0.mk (Kd.V_below (by (with_reducible repeat (first | apply Kd.V_alloc | apply Kd.V_drewN | apply Kd.V_drew)); exact HO252.out) hb)
                                                              have n2_ := Aside0.mk (Kd.V_below (by (with_reducible repeat (first | apply Kd.V_alloc | apply Kd.V_drewN | apply Kd.V_drew)); exact HO257.out) hb)
                                                              have n3_ := Aside0.mk (below_step (by repeat (first | (with_reducible first | exact HB.out | apply below_alloc | apply pw_below_drewN | apply below_drew1) | exact HB.out)) hb)
                                                              clear HO_17
                                                              clear HO252
                                                              clear HO257
                                                              clear HB
                                                              have HO_17 := n0_
                                                              have HO252 := n1_
                                                              have HO257 := n2_
                                                              have HB := n3_
                                                              clear n0_ n1_ n2_ n3_
                                                              (try clear hb)
                                                              (try clear hb2)
                                                              (try clear hk)
                                                              (try clear hi)
                                                              (try clear hge)
                                                              refine hK.out _ _ ⟨Kd.C_string (P := Try.prog) (A := A75) (c := c75) Try.underlying26 Try.underlying5 Try.underlying9 (Kd.C_below HR263.out hb0.out), Kd.C_string (P := Try.prog) (A := A4) (c := c4) Try.underlying26 Try.underlying5 Try.underlying9 (Kd.C_below HR4.out HB.out)⟩ (fun hHeld => ?_)
                                                              clear hK K
                                                              refine norm_ (a' := ?_) ?_ ?_
                                                              rotate_left
                                                              · show Act.put _ (some 199) _ = _
                                                                simp only [Act.put, List.setIfInBounds_toArray, List.set_cons_zero, List.set_cons_succ, i64_w, i32_w]
                                                                rfl
                                                              refine pure_ (i := 55) (N := some 200) (v := ?_) (a' := ?_) #[true, true, true, true, true, true, true, true, true, true, true, true, true, true, true, true, true, true, true, true, true, true, true, true, true, true, true, true, true, true, true, true, true, true, true, true, true, true, true, true, true, true, true, true, true, true, true, true, true, true, true, true, true, true, true, true, false] rfl rfl (any_of HT_.out (by kernel_rfl)) (fun _ _ _ h => h) (Or.inl ⟨by rfl, ?_⟩) ?_ ?_
                                                              rotate_left
                                                              · intro w'
                                                                go_simp
                                                                with_reducible rfl
                                                              rotate_left
                                                              · simp only [Act.put, List.setIfInBounds_toArray, List.set_cons_zero, List.set_cons_succ, i64_w, i32_w]
                                                                rfl
                                                              refine pure_ (i := 56) (N := some 10) (v := ?_) (a' := ?_) #[true, true, true, true, true, true, true, true, true, true, true, true, true, true, true, true, true, true, true, true, true, true, true, true, true, true, true, true, true, true, true, true, true, true, true, true, true, true, true, true, true, true, true, true, true, true, true, true, true, true, true, true, true, true, true, true, true] rfl rfl (any_of HT_.out (by kernel_rfl)) (fun _ _ _ h => h) (Or.inl ⟨by rfl, ?_⟩) ?_ ?_
                                                              rotate_left
                                                              · intro w'
                                                                go_simp
                                                                with_reducible rfl
                                                              rotate_left
                                                              · simp only [Act.put, List.setIfInBounds_toArray, List.set_cons_zero, List.set_cons_succ, i64_w, i32_w]
                                                                rfl
                                                              refine done_ (done_of HT_.out (by kernel_rfl)) ?_
                                                              try go_wp2
                                                              all_goals first | (go_ret; exact ⟨by first | rfl | (simp [errW_none, errW_some]; done) | (simp [errW_none, errW_some]; rfl) | (simp only [← hji9, ← hji13, ← hji17, ← hji20, ← hji50, ← hji62]; first | rfl | (simp [errW_none, errW_some]; done) | (simp [errW_none, errW_some]; rfl)) | (simp [*, errW_none, errW_some]; done) | (simp [*, errW_none, errW_some]; rfl), by repeat (first | (with_reducible first | exact HB.out | apply below_alloc | apply pw_below_drewN | apply below_drew1) | exact HB.out)⟩) | (exfalso; simp_all; done)
                                                            · rw [if_neg c65] at H
                                                              have c65b0 : ((strOfNums y260).toList == (strOfNums l4).toList) = false := beq_eq_false_iff_ne.mpr c65
                                                              have c65b1 : ((strOfNums y260).toList != (strOfNums l4).toList) = true := bne_iff_ne.mpr c65
                                                              exact absurd H (by simp)
                                                          · rw [if_neg c64] at H
                                                            exact absurd H (by simp)
                                                        · rw [if_neg c63] at H
                                                          exact absurd H (by simp)
                                                      · rw [if_neg c61] at H
                                                        have c61b0 : (t258 == ji20) = false := beq_eq_false_iff_ne.mpr c61
                                                        have c61b1 : (t258 != ji20) = true := bne_iff_ne.mpr c61
                                                        exact absurd H (by simp)
                                                    · rw [if_neg c60] at H
                                                      have c60b0 : (t253 == ji20) = false := beq_eq_false_iff_ne.mpr c60
                                                      have c60b1 : (t253 != ji20) = true := bne_iff_ne.mpr c60
                                                      exact absurd H (by simp)
                                                  · rw [if_neg c59] at H
                                                    have c59b0 : ((bt t244 0) == 4) = false := beq_eq_false_iff_ne.mpr c59
                                                    have c59b1 : ((bt t244 0) != 4) = true := bne_iff_ne.mpr c59
                                                    exact absurd H (by simp)
                                                · rw [if_neg c57] at H
                                                  exact absurd H (by simp)
                                              · rw [if_neg c56] at H
                                                have c56b0 : ((bt t242 0) == 5) = false := beq_eq_false_iff_ne.mpr c56
                                                have c56b1 : ((bt t242 0) != 5) = true := bne_iff_ne.mpr c56
                                                exact absurd H (by simp)
                                            · rw [if_neg c54] at H
                                              exact absurd H (by simp)
                                          · rw [if_neg c53] at H
                                            have c53b0 : ((t240.extract 2 ((ji50) : Int).toNat).toList == XA.toList) = false := beq_eq_false_iff_ne.mpr c53
                                            have c53b1 : ((t240.extract 2 ((ji50) : Int).toNat).toList != XA.toList) = true := bne_iff_ne.mpr c53
                                            exact absurd H (by simp)
                                        · rw [if_neg c52] at H
                                          exact absurd H (by simp)
                                      · rw [if_neg c51] at H
                                        exact absurd H (by simp)
                                    · rw [if_neg c49] at H
                                      have c49b0 : ((wrap64 (bt t240 1)) == (XA.size : Int)) = false := beq_eq_false_iff_ne.mpr c49
                                      have c49b1 : ((wrap64 (bt t240 1)) != (XA.size : Int)) = true := bne_iff_ne.mpr c49
                                      exact absurd H (by simp)
                                  · rw [if_neg c47] at H
                                    exact absurd H (by simp)
                                · rw [if_neg c46] at H
                                  have c46b0 : ((bt t240 0) == 3) = false := beq_eq_false_iff_ne.mpr c46
                                  have c46b1 : ((bt t240 0) != 3) = true := bne_iff_ne.mpr c46
                                  exact absurd H (by simp)
                              · rw [if_neg c44] at H
                                exact absurd H (by simp)
                            · rw [if_neg c42] at H
                              exact absurd H (by simp)
                          · rw [if_neg c40] at H
                            exact absurd H (by simp)
                  · rw [if_neg c19] at H
                    exact absurd H (by simp)
                · rw [if_neg c18] at H
                  exact absurd H (by simp)
              · rw [if_neg c16] at H
                exact absurd H (by simp)
            · rw [if_neg c15] at H
              exact absurd H (by simp)
          · rw [if_neg c14] at H
            exact absurd H (by simp)
        · rw [if_neg c12] at H
          exact absurd H (by simp)
      · rw [if_neg c11] at H
        exact absurd H (by simp)
    · rw [if_neg c10] at H
      exact absurd H (by simp)

/-- THE ONE PURE STATEMENT of waybilllaw12_KeysParts: yours. -/
def waybilllaw12_KeysParts.Pure : Prop := ∀ (a0 : ByteArray) (a1 : ByteArray) (a2 : ByteArray) (a3 : Int) (l4 : List Int), a0.size ≤ 140737488351232 → a1.size ≤ 140737488351232 → a2.size ≤ 140737488351232 → (Lit.int .u64 a3).wf = true → l4.length ≤ maxLen → l4.length * 1 ≤ 140737488351232 → (∀ x ∈ l4, (Lit.int .u8 x).wf = true) → ∃ k, waybilllaw12_KeysParts.f k a0 a1 a2 a3 l4 = some true
theorem waybilllaw12_KeysParts.walk (P : waybilllaw12_KeysParts.Pure) (a0 : ByteArray) (a1 : ByteArray) (a2 : ByteArray) (a3 : Int) (a4 : Option Addr) (len4 cap4 : Nat) (z4 : List Int) (w : World) (w0 : a0.size ≤ 140737488351232) (w1 : a1.size ≤ 140737488351232) (w2 : a2.size ≤ 140737488351232) (w3 : (Lit.int .u64 a3).wf = true) (w4 : (a4 = none ∧ len4 = 0 ∧ cap4 = 0 ∧ z4 = []) ∨ ∃ x, a4 = some x ∧ len4 ≤ cap4 ∧ cap4 ≤ maxLen ∧ z4.length = cap4 ∧ (∀ i, i < z4.length → w.cell? (x.add i) = some (.int .u8 (z4.getD i 0))) ∧ ∀ n ∈ z4, (Lit.int .u8 n).wf = true) (y4 : len4 * 1 ≤ 140737488351232) :
    Calls Try.prog 10 #[.string a0, .string a1, .string a2, .int .u64 a3, .slice a4 len4 cap4] w fun e w' => e = .returned (.bool true) ∧ Below w.heap.size w w' := by
  obtain ⟨l4, rfl, hr4, hm4, hw4, hc4⟩ := ReadsInt.ofRowC w4
  obtain ⟨k, h⟩ := P a0 a1 a2 a3 l4 w0 w1 w2 w3 hm4 y4 hw4
  refine (waybilllaw12_KeysParts.calls k a0 a1 a2 a3 _ _ l4 true w (Kd.C_of_reads (d := (0 : Int)) (h1 := fun _ => rfl) hr4) hc4 h).mono ?_
  rintro e w' ⟨rfl, hd⟩
  exact ⟨rfl, hd⟩

end Go.Proofs.Ytpjkaodbcclecaa.PK
