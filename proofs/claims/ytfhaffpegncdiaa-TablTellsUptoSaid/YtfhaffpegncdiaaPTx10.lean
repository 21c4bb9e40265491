/- What functions of the given program come to, and that they do: written out of the translation by a program of this session; Lean checks it. -/
import Derived.Test.YtfhaffpegncdiaaShort
import Derived.Test.YtfhaffpegncdiaaPTx0
namespace Go.Proofs.Ytfhaffpegncdiaa.PT
open Go.RowKit Go.Proofs.YtfhaffpegncdiaaW.PrintWords Go.Proofs.YtfhaffpegncdiaaW.PrintLast Go.Proofs.YtfhaffpegncdiaaW.PrintMore
attribute [local go_sem] max2_int min2_int max_two min_two max_three min_three max_four min_four   -- for this text's walks alone
set_option linter.unusedVariables false
set_option linter.unusedSimpArgs false

/-! ### zfk: function 67 -/
def zfk.j0 : Nat → Bool → ByteArray → Int → Int → ByteArray → List (S24) → Option (Bool)
 | 0, _, _, _, _, _, _ => none
 | k + 1, x12, x287000, x287001, x287002, x287003, x287004 => if x12 = true then (some false) else (if x287001 = 116 then (if x287002 = 0 then (if x287003.toList = ([] : List UInt8) then (some ((x287004.length : Int) == 0)) else (some false)) else (if x287002 = 1 then (if x287003.toList = ([] : List UInt8) then (some ((x287004.length : Int) == 0)) else (some false)) else (some false))) else (if x287001 = 73 then (if x287002 ≥ (-2147483648) then (if x287002 < 2147483648 then (if x287003.toList = ([] : List UInt8) then (some ((x287004.length : Int) == 0)) else (some false)) else (some false)) else (some false)) else (if x287001 = 108 then (if x287003.toList = ([] : List UInt8) then (some ((x287004.length : Int) == 0)) else (some false)) else (if x287001 = 83 then (if x287002 = 0 then (some ((x287004.length : Int) == 0)) else (some false)) else (if x287001 = 70 then (if x287002 = 0 then (some x287003.toList.isEmpty) else (some false)) else (if x287001 = 86 then (if x287002 = 0 then (if x287003.toList = ([] : List UInt8) then (some ((x287004.length : Int) == 0)) else (some false)) else (some false)) else (some false)))))))
def zfk.f (k : Nat) (a0_0 : ByteArray) (a0_1 : Int) (a0_2 : Int) (a0_3 : ByteArray) (l0_4 : List (S24)) : Option (Bool) := if (a0_0.size : Int) < 1 then (zfk.j0 k true a0_0 a0_1 a0_2 a0_3 l0_4) else (zfk.j0 k (decide ((a0_0.size : Int) > 128)) a0_0 a0_1 a0_2 a0_3 l0_4)
theorem zfk.mono_l : ∀ k, (∀ y0 y1 y2 y3 y4 y5, LeO (zfk.j0 k y0 y1 y2 y3 y4 y5) (zfk.j0 (k + 1) y0 y1 y2 y3 y4 y5))
 | 0 => fun _ _ _ _ _ _ r h => by simp [zfk.j0] at h
 | k + 1 => by
  have ih0 := zfk.mono_l k
  intro y0 y1 y2 y3 y4 y5
  unfold zfk.j0
  repeat' first
  | (with_reducible exact ih0 _ _ _ _ _ _)
  | (with_reducible exact LeO.refl _)
  | (with_reducible exact LeO.none _)
  | (with_reducible refine LeO.ite ?_ ?_)
  | (with_reducible refine LeO.bind ?_ (fun _ => ?_))
  | exact ih0 _ _ _ _ _ _
  | exact LeO.none _
  | refine LeO.ite ?_ ?_
  | refine LeO.bind ?_ (fun _ => ?_)
theorem zfk.mono : ∀ a0 a1 a2 a3 a4 k, LeO (zfk.f k a0 a1 a2 a3 a4) (zfk.f (k + 1) a0 a1 a2 a3 a4) := by
 intro a0 a1 a2 a3 a4 k
 have ih0 := zfk.mono_l k
 unfold zfk.f
 repeat' first
   | (with_reducible exact ih0 _ _ _ _ _ _)
   | (with_reducible exact LeO.refl _)
   | (with_reducible exact LeO.none _)
   | (with_reducible refine LeO.ite ?_ ?_)
   | (with_reducible refine LeO.bind ?_ (fun _ => ?_))
   | exact ih0 _ _ _ _ _ _
   | exact LeO.none _
   | refine LeO.ite ?_ ?_
   | refine LeO.bind ?_ (fun _ => ?_)
set_option maxHeartbeats 8000000 in
set_option maxRecDepth 100000 in
theorem zfk.calls (k : Nat) (a0_0 : ByteArray) (a0_1 : Int) (a0_2 : Int) (a0_3 : ByteArray) (A0_4 : Option Addr) (c0_4 : Nat) (l0_4 : List (S24)) (r : Bool) (w : World) (hr0_4 : Kd.C k24 w A0_4 l0_4.length l0_4) (hc0_4 : l0_4.length ≤ c0_4) (h : zfk.f k a0_0 a0_1 a0_2 a0_3 l0_4 = some r) :
  Calls Try.prog 67 #[.agg #[.string a0_0, .int .u8 a0_1, .int .i64 a0_2, .string a0_3, .slice A0_4 l0_4.length c0_4]] w fun e w' => e = .returned (.bool r) ∧ Below w.heap.size w w' := by
 have hu24 := Try.underlying24
 have HR0_4 := Zs.mk hr0_4
 have HC0_4 := Zs.mk hc0_4
 clear hr0_4 hc0_4
 have HB := Zs.mk (Below.refl w.heap.size w)
 have H : (if (a0_0.size : Int) < 1 then (zfk.j0 k true a0_0 a0_1 a0_2 a0_3 l0_4) else (zfk.j0 k (decide ((a0_0.size : Int) > 128)) a0_0 a0_1 a0_2 a0_3 l0_4)) = some r := h
 clear h
 have HC2 := Zs.mk H
 clear H
 go_enter Try.func67, Try.ntmps67
 go_upto_region 1 with (first | ((with_reducible refine gate_dst (N := 1) rfl ?_); (try (refine gate_guard (by rfl) ?_; dsimp only)); refine box_event ?hg (N := 1) ?hd (cs := #[.string a0_0, .int .u8 a0_1, .int .i64 a0_2, .string a0_3, .slice A0_4 l0_4.length c0_4]) (t := 24) ?hr ?_; (case hd => rfl); (case hg => rfl); (case hr => first | (go_simp; done) | (go_simp; rfl)); intro gb286 hg w3 hbox hb; have n0_ := Zs.mk (zbt (by repeat (first | (with_reducible first | exact HB.out | apply zba | apply zbn | apply zbd) | exact HB.out)) hb); have n1_ := Zs.mk (hbox); have n2_ := Zs.mk ((by rw [hg]; exact (zbz (by repeat (first | (with_reducible first | exact HB.out | apply zba | apply zbn | apply zbd) | exact HB.out))) : w.heap.size ≤ gb286)); have n3_ := Zs.mk ((by rw [hg]; exact (zbz (by repeat (first | (with_reducible first | exact HB.out | apply zba | apply zbn | apply zbd) | exact HB.out))) : w.heap.size ≤ gb286)); clear HB; have HB := n0_; have BK286 := n1_; have GW286 := n2_; have GE286 := n3_; clear n0_ n1_ n2_ n3_; clear hb hbox hg))
 (try simp only [Act.put, zq1, zq2, zq3])
 go_cut [12] (fun v12 wc => ∃ (kq : Nat) (x12_1 : Bool), v12 = .bool x12_1 ∧ Zs (zfk.j0 kq x12_1 a0_0 a0_1 a0_2 a0_3 l0_4 = some r) ∧ Zs (kq ≤ k) ∧ Zs (wc.heap[gb286]? = some (.cells #[.string a0_0, .int .u8 a0_1, .int .i64 a0_2, .string a0_3, (.slice A0_4 l0_4.length c0_4)] 24 (0, 0))) ∧ Zs (Below w.heap.size w wc))
 case first =>
  have H := HC2.out
  clear HC2
  by_cases c4 : (a0_0.size : Int) < 1
  ·
   rw [if_pos c4] at H
   have c4b0 : decide ((a0_0.size : Int) < 1) = true := decide_eq_true c4
   have c4b1 : decide (a0_0.size < 1) = true := decide_eq_true (by omega)
   clear c4
   (first | rw [c4b0] | rw [c4b2] | rw [c4b1] | (simp only [i64_w, i32_w]; rw [c4b0]) | skip)
   have H' := Zs.mk H
   clear H
   have hcz5_0 : w3.cell? ⟨gb286, 0, none⟩ = some (.string a0_0) := (zbc BK286.out 0).trans rfl
   have hcz5_1 : w3.cell? ⟨gb286, 1, none⟩ = some (.int .u8 a0_1) := (zbc BK286.out 1).trans rfl
   have hcz5_2 : w3.cell? ⟨gb286, 2, none⟩ = some (.int .i64 a0_2) := (zbc BK286.out 2).trans rfl
   have hcz5_3 : w3.cell? ⟨gb286, 3, none⟩ = some (.string a0_3) := (zbc BK286.out 3).trans rfl
   have hcz5_4 : w3.cell? ⟨gb286, 4, none⟩ = some (.slice A0_4 l0_4.length c0_4) := (zbc BK286.out 4).trans rfl
   have hfz5_0 := zbf BK286.out 0
   have hfz5_1 := zbf BK286.out 1
   have hfz5_2 := zbf BK286.out 2
   have hfz5_3 := zbf BK286.out 3
   have hfz5_4 := zbf BK286.out 4
   go_wp2
   go_meet
   case rel => exact ⟨_, (true), (by first | rfl | (simp; done) | (simp [*]; done)), H', ⟨by first | omega | exact Nat.le_refl _⟩, ⟨by (with_reducible repeat (first | refine blk_drewN ?_ _ | refine blk_drew ?_ | refine blk_alloc ?_ _)); exact BK286.out⟩, ⟨by repeat (first | (with_reducible first | exact HB.out | apply zba | apply zbn | apply zbd | refine zbs ?_ GE286.out) | exact HB.out)⟩⟩
  rw [if_neg c4] at H
  have c4b0 : decide ((a0_0.size : Int) < 1) = false := decide_eq_false c4
  have c4b1 : decide (a0_0.size < 1) = false := decide_eq_false (by omega)
  clear c4
  (first | rw [c4b0] | rw [c4b2] | rw [c4b1] | (simp only [i64_w, i32_w]; rw [c4b0]) | skip)
  have H' := Zs.mk H
  clear H
  have hcz6_0 : w3.cell? ⟨gb286, 0, none⟩ = some (.string a0_0) := (zbc BK286.out 0).trans rfl
  have hcz6_1 : w3.cell? ⟨gb286, 1, none⟩ = some (.int .u8 a0_1) := (zbc BK286.out 1).trans rfl
  have hcz6_2 : w3.cell? ⟨gb286, 2, none⟩ = some (.int .i64 a0_2) := (zbc BK286.out 2).trans rfl
  have hcz6_3 : w3.cell? ⟨gb286, 3, none⟩ = some (.string a0_3) := (zbc BK286.out 3).trans rfl
  have hcz6_4 : w3.cell? ⟨gb286, 4, none⟩ = some (.slice A0_4 l0_4.length c0_4) := (zbc BK286.out 4).trans rfl
  have hfz6_0 := zbf BK286.out 0
  have hfz6_1 := zbf BK286.out 1
  have hfz6_2 := zbf BK286.out 2
  have hfz6_3 := zbf BK286.out 3
  have hfz6_4 := zbf BK286.out 4
  go_wp2
  go_meet
  case rel => exact ⟨_, (decide ((a0_0.size : Int) > 128)), (by first | rfl | (simp; done) | (simp [*]; done)), H', ⟨by first | omega | exact Nat.le_refl _⟩, ⟨by (with_reducible repeat (first | refine blk_drewN ?_ _ | refine blk_drew ?_ | refine blk_alloc ?_ _)); exact BK286.out⟩, ⟨by repeat (first | (with_reducible first | exact HB.out | apply zba | apply zbn | apply zbd | refine zbs ?_ GE286.out) | exact HB.out)⟩⟩
 case rest =>
  clear HC2
  try clear p2
  try clear c4
  try clear c4b0
  try clear c4b1
  try clear c6
  try clear hcz5_0
  try clear hcz5_1
  try clear hcz5_2
  try clear hcz5_3
  try clear hcz5_4
  try clear hcz6_0
  try clear hcz6_1
  try clear hcz6_2
  try clear hcz6_3
  try clear hcz6_4
  try clear hfz5_0
  try clear hfz5_1
  try clear hfz5_2
  try clear hfz5_3
  try clear hfz5_4
  try clear hfz6_0
  try clear hfz6_1
  try clear hfz6_2
  try clear hfz6_3
  try clear hfz6_4
  obtain ⟨kq, x12_1, rfl, HA, HJ1, BK286, HB⟩ := hcut
  cases kq with
  | zero => exact absurd HA.out (by simp [zfk.j0])
  | succ kj1 =>
   have H := HA.out
   clear HA
   simp only [zfk.j0] at H
   by_cases c7 : x12_1 = true
   ·
    subst c7
    have H1 : (some false) = some r := by rw [if_pos rfl] at H; exact H
    clear H
    have H := H1
    clear H1
    obtain rfl := Option.some.inj H
    go_wp2
    all_goals first | (go_ret; exact ⟨by first | rfl | (simp [zen, zes]; done) | (simp [zen, zes]; rfl) | (simp [*, zen, zes]; done) | (simp [*, zen, zes]; rfl), by repeat (first | (with_reducible first | exact HB.out | apply zba | apply zbn | apply zbd | refine zbs ?_ GE286.out) | exact HB.out)⟩) | (exfalso; simp_all; done)
   replace c7 := Bool.eq_false_iff.mpr c7
   subst c7
   have H1 : (if a0_1 = 116 then (if a0_2 = 0 then (if a0_3.toList = ([] : List UInt8) then (some ((l0_4.length : Int) == 0)) else (some false)) else (if a0_2 = 1 then (if a0_3.toList = ([] : List UInt8) then (some ((l0_4.length : Int) == 0)) else (some false)) else (some false))) else (if a0_1 = 73 then (if a0_2 ≥ (-2147483648) then (if a0_2 < 2147483648 then (if a0_3.toList = ([] : List UInt8) then (some ((l0_4.length : Int) == 0)) else (some false)) else (some false)) else (some false)) else (if a0_1 = 108 then (if a0_3.toList = ([] : List UInt8) then (some ((l0_4.length : Int) == 0)) else (some false)) else (if a0_1 = 83 then (if a0_2 = 0 then (some ((l0_4.length : Int) == 0)) else (some false)) else (if a0_1 = 70 then (if a0_2 = 0 then (some a0_3.toList.isEmpty) else (some false)) else (if a0_1 = 86 then (if a0_2 = 0 then (if a0_3.toList = ([] : List UInt8) then (some ((l0_4.length : Int) == 0)) else (some false)) else (some false)) else (some false))))))) = some r := by rw [if_neg (show ¬ (false = true) by decide)] at H; exact H
   clear H
   have H := H1
   clear H1
   by_cases c8 : a0_1 = 116
   ·
    rw [if_pos c8] at H
    have c8b0 : (a0_1 == 116) = true := beq_iff_eq.mpr c8
    have c8b1 : (a0_1 != 116) = false := bne_eq_false_iff_eq.mpr c8
    clear c8
    by_cases c9 : a0_2 = 0
    ·
     rw [if_pos c9] at H
     have c9b0 : (a0_2 == 0) = true := beq_iff_eq.mpr c9
     have c9b1 : (a0_2 != 0) = false := bne_eq_false_iff_eq.mpr c9
     clear c9
     by_cases c10 : a0_3.toList = ([] : List UInt8)
     ·
      rw [if_pos c10] at H
      have c10b0 : (a0_3.toList == ([] : List UInt8)) = true := beq_iff_eq.mpr c10
      have c10b1 : (a0_3.toList != ([] : List UInt8)) = false := bne_eq_false_iff_eq.mpr c10
      (try (have c10b2 : a0_3.toList.isEmpty = true := by simpa using c10))
      (try (have c10b3 : (!a0_3.toList.isEmpty) = false := by simpa using c10))
      clear c10
      obtain rfl := Option.some.inj H
      have hcz11_0 : wc.cell? ⟨gb286, 0, none⟩ = some (.string a0_0) := (zbc BK286.out 0).trans rfl
      have hcz11_1 : wc.cell? ⟨gb286, 1, none⟩ = some (.int .u8 a0_1) := (zbc BK286.out 1).trans rfl
      have hcz11_2 : wc.cell? ⟨gb286, 2, none⟩ = some (.int .i64 a0_2) := (zbc BK286.out 2).trans rfl
      have hcz11_3 : wc.cell? ⟨gb286, 3, none⟩ = some (.string a0_3) := (zbc BK286.out 3).trans rfl
      have hcz11_4 : wc.cell? ⟨gb286, 4, none⟩ = some (.slice A0_4 l0_4.length c0_4) := (zbc BK286.out 4).trans rfl
      have hfz11_0 := zbf BK286.out 0
      have hfz11_1 := zbf BK286.out 1
      have hfz11_2 := zbf BK286.out 2
      have hfz11_3 := zbf BK286.out 3
      have hfz11_4 := zbf BK286.out 4
      go_wp2
      all_goals first | (go_ret; exact ⟨by first | rfl | (simp [zen, zes]; done) | (simp [zen, zes]; rfl) | (simp [*, zen, zes]; done) | (simp [*, zen, zes]; rfl), by repeat (first | (with_reducible first | exact HB.out | apply zba | apply zbn | apply zbd | refine zbs ?_ GE286.out) | exact HB.out)⟩) | (exfalso; simp_all; done)
     rw [if_neg c10] at H
     have c10b0 : (a0_3.toList == ([] : List UInt8)) = false := beq_eq_false_iff_ne.mpr c10
     have c10b1 : (a0_3.toList != ([] : List UInt8)) = true := bne_iff_ne.mpr c10
     (try (have c10b2 : a0_3.toList.isEmpty = false := by simpa using c10))
     (try (have c10b3 : (!a0_3.toList.isEmpty) = true := by simpa using c10))
     obtain rfl := Option.some.inj H
     have hcz12_0 : wc.cell? ⟨gb286, 0, none⟩ = some (.string a0_0) := (zbc BK286.out 0).trans rfl
     have hcz12_1 : wc.cell? ⟨gb286, 1, none⟩ = some (.int .u8 a0_1) := (zbc BK286.out 1).trans rfl
     have hcz12_2 : wc.cell? ⟨gb286, 2, none⟩ = some (.int .i64 a0_2) := (zbc BK286.out 2).trans rfl
     have hcz12_3 : wc.cell? ⟨gb286, 3, none⟩ = some (.string a0_3) := (zbc BK286.out 3).trans rfl
     have hcz12_4 : wc.cell? ⟨gb286, 4, none⟩ = some (.slice A0_4 l0_4.length c0_4) := (zbc BK286.out 4).trans rfl
     have hfz12_0 := zbf BK286.out 0
     have hfz12_1 := zbf BK286.out 1
     have hfz12_2 := zbf BK286.out 2
     have hfz12_3 := zbf BK286.out 3
     have hfz12_4 := zbf BK286.out 4
     go_wp2
     all_goals first | (go_ret; exact ⟨by first | rfl | (simp [zen, zes]; done) | (simp [zen, zes]; rfl) | (simp [*, zen, zes]; done) | (simp [*, zen, zes]; rfl), by repeat (first | (with_reducible first | exact HB.out | apply zba | apply zbn | apply zbd | refine zbs ?_ GE286.out) | exact HB.out)⟩) | (exfalso; simp_all; done)
    rw [if_neg c9] at H
    have c9b0 : (a0_2 == 0) = false := beq_eq_false_iff_ne.mpr c9
    have c9b1 : (a0_2 != 0) = true := bne_iff_ne.mpr c9
    by_cases c13 : a0_2 = 1
    ·
     rw [if_pos c13] at H
     have c13b0 : (a0_2 == 1) = true := beq_iff_eq.mpr c13
     have c13b1 : (a0_2 != 1) = false := bne_eq_false_iff_eq.mpr c13
     clear c13
     by_cases c14 : a0_3.toList = ([] : List UInt8)
     ·
      rw [if_pos c14] at H
      have c14b0 : (a0_3.toList == ([] : List UInt8)) = true := beq_iff_eq.mpr c14
      have c14b1 : (a0_3.toList != ([] : List UInt8)) = false := bne_eq_false_iff_eq.mpr c14
      (try (have c14b2 : a0_3.toList.isEmpty = true := by simpa using c14))
      (try (have c14b3 : (!a0_3.toList.isEmpty) = false := by simpa using c14))
      clear c14
      obtain rfl := Option.some.inj H
      have hcz15_0 : wc.cell? ⟨gb286, 0, none⟩ = some (.string a0_0) := (zbc BK286.out 0).trans rfl
      have hcz15_1 : wc.cell? ⟨gb286, 1, none⟩ = some (.int .u8 a0_1) := (zbc BK286.out 1).trans rfl
      have hcz15_2 : wc.cell? ⟨gb286, 2, none⟩ = some (.int .i64 a0_2) := (zbc BK286.out 2).trans rfl
      have hcz15_3 : wc.cell? ⟨gb286, 3, none⟩ = some (.string a0_3) := (zbc BK286.out 3).trans rfl
      have hcz15_4 : wc.cell? ⟨gb286, 4, none⟩ = some (.slice A0_4 l0_4.length c0_4) := (zbc BK286.out 4).trans rfl
      have hfz15_0 := zbf BK286.out 0
      have hfz15_1 := zbf BK286.out 1
      have hfz15_2 := zbf BK286.out 2
      have hfz15_3 := zbf BK286.out 3
      have hfz15_4 := zbf BK286.out 4
      go_wp2
      all_goals first | (go_ret; exact ⟨by first | rfl | (simp [zen, zes]; done) | (simp [zen, zes]; rfl) | (simp [*, zen, zes]; done) | (simp [*, zen, zes]; rfl), by repeat (first | (with_reducible first | exact HB.out | apply zba | apply zbn | apply zbd | refine zbs ?_ GE286.out) | exact HB.out)⟩) | (exfalso; simp_all; done)
     rw [if_neg c14] at H
     have c14b0 : (a0_3.toList == ([] : List UInt8)) = false := beq_eq_false_iff_ne.mpr c14
     have c14b1 : (a0_3.toList != ([] : List UInt8)) = true := bne_iff_ne.mpr c14
     (try (have c14b2 : a0_3.toList.isEmpty = false := by simpa using c14))
     (try (have c14b3 : (!a0_3.toList.isEmpty) = true := by simpa using c14))
     obtain rfl := Option.some.inj H
     have hcz16_0 : wc.cell? ⟨gb286, 0, none⟩ = some (.string a0_0) := (zbc BK286.out 0).trans rfl
     have hcz16_1 : wc.cell? ⟨gb286, 1, none⟩ = some (.int .u8 a0_1) := (zbc BK286.out 1).trans rfl
     have hcz16_2 : wc.cell? ⟨gb286, 2, none⟩ = some (.int .i64 a0_2) := (zbc BK286.out 2).trans rfl
     have hcz16_3 : wc.cell? ⟨gb286, 3, none⟩ = some (.string a0_3) := (zbc BK286.out 3).trans rfl
     have hcz16_4 : wc.cell? ⟨gb286, 4, none⟩ = some (.slice A0_4 l0_4.length c0_4) := (zbc BK286.out 4).trans rfl
     have hfz16_0 := zbf BK286.out 0
     have hfz16_1 := zbf BK286.out 1
     have hfz16_2 := zbf BK286.out 2
     have hfz16_3 := zbf BK286.out 3
     have hfz16_4 := zbf BK286.out 4
     go_wp2
     all_goals first | (go_ret; exact ⟨by first | rfl | (simp [zen, zes]; done) | (simp [zen, zes]; rfl) | (simp [*, zen, zes]; done) | (simp [*, zen, zes]; rfl), by repeat (first | (with_reducible first | exact HB.out | apply zba | apply zbn | apply zbd | refine zbs ?_ GE286.out) | exact HB.out)⟩) | (exfalso; simp_all; done)
    rw [if_neg c13] at H
    have c13b0 : (a0_2 == 1) = false := beq_eq_false_iff_ne.mpr c13
    have c13b1 : (a0_2 != 1) = true := bne_iff_ne.mpr c13
    obtain rfl := Option.some.inj H
    have hcz17_0 : wc.cell? ⟨gb286, 0, none⟩ = some (.string a0_0) := (zbc BK286.out 0).trans rfl
    have hcz17_1 : wc.cell? ⟨gb286, 1, none⟩ = some (.int .u8 a0_1) := (zbc BK286.out 1).trans rfl
    have hcz17_2 : wc.cell? ⟨gb286, 2, none⟩ = some (.int .i64 a0_2) := (zbc BK286.out 2).trans rfl
    have hcz17_3 : wc.cell? ⟨gb286, 3, none⟩ = some (.string a0_3) := (zbc BK286.out 3).trans rfl
    have hcz17_4 : wc.cell? ⟨gb286, 4, none⟩ = some (.slice A0_4 l0_4.length c0_4) := (zbc BK286.out 4).trans rfl
    have hfz17_0 := zbf BK286.out 0
    have hfz17_1 := zbf BK286.out 1
    have hfz17_2 := zbf BK286.out 2
    have hfz17_3 := zbf BK286.out 3
    have hfz17_4 := zbf BK286.out 4
    go_wp2
    all_goals first | (go_ret; exact ⟨by first | rfl | (simp [zen, zes]; done) | (simp [zen, zes]; rfl) | (simp [*, zen, zes]; done) | (simp [*, zen, zes]; rfl), by repeat (first | (with_reducible first | exact HB.out | apply zba | apply zbn | apply zbd | refine zbs ?_ GE286.out) | exact HB.out)⟩) | (exfalso; simp_all; done)
   rw [if_neg c8] at H
   have c8b0 : (a0_1 == 116) = false := beq_eq_false_iff_ne.mpr c8
   have c8b1 : (a0_1 != 116) = true := bne_iff_ne.mpr c8
   by_cases c18 : a0_1 = 73
   ·
    rw [if_pos c18] at H
    have c18b0 : (a0_1 == 73) = true := beq_iff_eq.mpr c18
    have c18b1 : (a0_1 != 73) = false := bne_eq_false_iff_eq.mpr c18
    clear c18
    by_cases c19 : a0_2 ≥ (-2147483648)
    ·
     rw [if_pos c19] at H
     have c19b0 : decide ((-2147483648) ≤ a0_2) = true := decide_eq_true c19
     clear c19
     by_cases c20 : a0_2 < 2147483648
     ·
      rw [if_pos c20] at H
      have c20b0 : decide (a0_2 < 2147483648) = true := decide_eq_true c20
      clear c20
      by_cases c21 : a0_3.toList = ([] : List UInt8)
      ·
       rw [if_pos c21] at H
       have c21b0 : (a0_3.toList == ([] : List UInt8)) = true := beq_iff_eq.mpr c21
       have c21b1 : (a0_3.toList != ([] : List UInt8)) = false := bne_eq_false_iff_eq.mpr c21
       (try (have c21b2 : a0_3.toList.isEmpty = true := by simpa using c21))
       (try (have c21b3 : (!a0_3.toList.isEmpty) = false := by simpa using c21))
       clear c21
       obtain rfl := Option.some.inj H
       have hcz22_0 : wc.cell? ⟨gb286, 0, none⟩ = some (.string a0_0) := (zbc BK286.out 0).trans rfl
       have hcz22_1 : wc.cell? ⟨gb286, 1, none⟩ = some (.int .u8 a0_1) := (zbc BK286.out 1).trans rfl
       have hcz22_2 : wc.cell? ⟨gb286, 2, none⟩ = some (.int .i64 a0_2) := (zbc BK286.out 2).trans rfl
       have hcz22_3 : wc.cell? ⟨gb286, 3, none⟩ = some (.string a0_3) := (zbc BK286.out 3).trans rfl
       have hcz22_4 : wc.cell? ⟨gb286, 4, none⟩ = some (.slice A0_4 l0_4.length c0_4) := (zbc BK286.out 4).trans rfl
       have hfz22_0 := zbf BK286.out 0
       have hfz22_1 := zbf BK286.out 1
       have hfz22_2 := zbf BK286.out 2
       have hfz22_3 := zbf BK286.out 3
       have hfz22_4 := zbf BK286.out 4
       go_wp2
       all_goals first | (go_ret; exact ⟨by first | rfl | (simp [zen, zes]; done) | (simp [zen, zes]; rfl) | (simp [*, zen, zes]; done) | (simp [*, zen, zes]; rfl), by repeat (first | (with_reducible first | exact HB.out | apply zba | apply zbn | apply zbd | refine zbs ?_ GE286.out) | exact HB.out)⟩) | (exfalso; simp_all; done)
      rw [if_neg c21] at H
      have c21b0 : (a0_3.toList == ([] : List UInt8)) = false := beq_eq_false_iff_ne.mpr c21
      have c21b1 : (a0_3.toList != ([] : List UInt8)) = true := bne_iff_ne.mpr c21
      (try (have c21b2 : a0_3.toList.isEmpty = false := by simpa using c21))
      (try (have c21b3 : (!a0_3.toList.isEmpty) = true := by simpa using c21))
      obtain rfl := Option.some.inj H
      have hcz23_0 : wc.cell? ⟨gb286, 0, none⟩ = some (.string a0_0) := (zbc BK286.out 0).trans rfl
      have hcz23_1 : wc.cell? ⟨gb286, 1, none⟩ = some (.int .u8 a0_1) := (zbc BK286.out 1).trans rfl
      have hcz23_2 : wc.cell? ⟨gb286, 2, none⟩ = some (.int .i64 a0_2) := (zbc BK286.out 2).trans rfl
      have hcz23_3 : wc.cell? ⟨gb286, 3, none⟩ = some (.string a0_3) := (zbc BK286.out 3).trans rfl
      have hcz23_4 : wc.cell? ⟨gb286, 4, none⟩ = some (.slice A0_4 l0_4.length c0_4) := (zbc BK286.out 4).trans rfl
      have hfz23_0 := zbf BK286.out 0
      have hfz23_1 := zbf BK286.out 1
      have hfz23_2 := zbf BK286.out 2
      have hfz23_3 := zbf BK286.out 3
      have hfz23_4 := zbf BK286.out 4
      go_wp2
      all_goals first | (go_ret; exact ⟨by first | rfl | (simp [zen, zes]; done) | (simp [zen, zes]; rfl) | (simp [*, zen, zes]; done) | (simp [*, zen, zes]; rfl), by repeat (first | (with_reducible first | exact HB.out | apply zba | apply zbn | apply zbd | refine zbs ?_ GE286.out) | exact HB.out)⟩) | (exfalso; simp_all; done)
     rw [if_neg c20] at H
     have c20b0 : decide (a0_2 < 2147483648) = false := decide_eq_false c20
     clear c20
     obtain rfl := Option.some.inj H
     have hcz24_0 : wc.cell? ⟨gb286, 0, none⟩ = some (.string a0_0) := (zbc BK286.out 0).trans rfl
     have hcz24_1 : wc.cell? ⟨gb286, 1, none⟩ = some (.int .u8 a0_1) := (zbc BK286.out 1).trans rfl
     have hcz24_2 : wc.cell? ⟨gb286, 2, none⟩ = some (.int .i64 a0_2) := (zbc BK286.out 2).trans rfl
     have hcz24_3 : wc.cell? ⟨gb286, 3, none⟩ = some (.string a0_3) := (zbc BK286.out 3).trans rfl
     have hcz24_4 : wc.cell? ⟨gb286, 4, none⟩ = some (.slice A0_4 l0_4.length c0_4) := (zbc BK286.out 4).trans rfl
     have hfz24_0 := zbf BK286.out 0
     have hfz24_1 := zbf BK286.out 1
     have hfz24_2 := zbf BK286.out 2
     have hfz24_3 := zbf BK286.out 3
     have hfz24_4 := zbf BK286.out 4
     go_wp2
     all_goals first | (go_ret; exact ⟨by first | rfl | (simp [zen, zes]; done) | (simp [zen, zes]; rfl) | (simp [*, zen, zes]; done) | (simp [*, zen, zes]; rfl), by repeat (first | (with_reducible first | exact HB.out | apply zba | apply zbn | apply zbd | refine zbs ?_ GE286.out) | exact HB.out)⟩) | (exfalso; simp_all; done)
    rw [if_neg c19] at H
    have c19b0 : decide ((-2147483648) ≤ a0_2) = false := decide_eq_false c19
    clear c19
    obtain rfl := Option.some.inj H
    have hcz25_0 : wc.cell? ⟨gb286, 0, none⟩ = some (.string a0_0) := (zbc BK286.out 0).trans rfl
    have hcz25_1 : wc.cell? ⟨gb286, 1, none⟩ = some (.int .u8 a0_1) := (zbc BK286.out 1).trans rfl
    have hcz25_2 : wc.cell? ⟨gb286, 2, none⟩ = some (.int .i64 a0_2) := (zbc BK286.out 2).trans rfl
    have hcz25_3 : wc.cell? ⟨gb286, 3, none⟩ = some (.string a0_3) := (zbc BK286.out 3).trans rfl
    have hcz25_4 : wc.cell? ⟨gb286, 4, none⟩ = some (.slice A0_4 l0_4.length c0_4) := (zbc BK286.out 4).trans rfl
    have hfz25_0 := zbf BK286.out 0
    have hfz25_1 := zbf BK286.out 1
    have hfz25_2 := zbf BK286.out 2
    have hfz25_3 := zbf BK286.out 3
    have hfz25_4 := zbf BK286.out 4
    go_wp2
    all_goals first | (go_ret; exact ⟨by first | rfl | (simp [zen, zes]; done) | (simp [zen, zes]; rfl) | (simp [*, zen, zes]; done) | (simp [*, zen, zes]; rfl), by repeat (first | (with_reducible first | exact HB.out | apply zba | apply zbn | apply zbd | refine zbs ?_ GE286.out) | exact HB.out)⟩) | (exfalso; simp_all; done)
   rw [if_neg c18] at H
   have c18b0 : (a0_1 == 73) = false := beq_eq_false_iff_ne.mpr c18
   have c18b1 : (a0_1 != 73) = true := bne_iff_ne.mpr c18
   by_cases c26 : a0_1 = 108
   ·
    rw [if_pos c26] at H
    have c26b0 : (a0_1 == 108) = true := beq_iff_eq.mpr c26
    have c26b1 : (a0_1 != 108) = false := bne_eq_false_iff_eq.mpr c26
    clear c26
    by_cases c27 : a0_3.toList = ([] : List UInt8)
    ·
     rw [if_pos c27] at H
     have c27b0 : (a0_3.toList == ([] : List UInt8)) = true := beq_iff_eq.mpr c27
     have c27b1 : (a0_3.toList != ([] : List UInt8)) = false := bne_eq_false_iff_eq.mpr c27
     (try (have c27b2 : a0_3.toList.isEmpty = true := by simpa using c27))
     (try (have c27b3 : (!a0_3.toList.isEmpty) = false := by simpa using c27))
     clear c27
     obtain rfl := Option.some.inj H
     have hcz28_0 : wc.cell? ⟨gb286, 0, none⟩ = some (.string a0_0) := (zbc BK286.out 0).trans rfl
     have hcz28_1 : wc.cell? ⟨gb286, 1, none⟩ = some (.int .u8 a0_1) := (zbc BK286.out 1).trans rfl
     have hcz28_2 : wc.cell? ⟨gb286, 2, none⟩ = some (.int .i64 a0_2) := (zbc BK286.out 2).trans rfl
     have hcz28_3 : wc.cell? ⟨gb286, 3, none⟩ = some (.string a0_3) := (zbc BK286.out 3).trans rfl
     have hcz28_4 : wc.cell? ⟨gb286, 4, none⟩ = some (.slice A0_4 l0_4.length c0_4) := (zbc BK286.out 4).trans rfl
     have hfz28_0 := zbf BK286.out 0
     have hfz28_1 := zbf BK286.out 1
     have hfz28_2 := zbf BK286.out 2
     have hfz28_3 := zbf BK286.out 3
     have hfz28_4 := zbf BK286.out 4
     go_wp2
     all_goals first | (go_ret; exact ⟨by first | rfl | (simp [zen, zes]; done) | (simp [zen, zes]; rfl) | (simp [*, zen, zes]; done) | (simp [*, zen, zes]; rfl), by repeat (first | (with_reducible first | exact HB.out | apply zba | apply zbn | apply zbd | refine zbs ?_ GE286.out) | exact HB.out)⟩) | (exfalso; simp_all; done)
    rw [if_neg c27] at H
    have c27b0 : (a0_3.toList == ([] : List UInt8)) = false := beq_eq_false_iff_ne.mpr c27
    have c27b1 : (a0_3.toList != ([] : List UInt8)) = true := bne_iff_ne.mpr c27
    (try (have c27b2 : a0_3.toList.isEmpty = false := by simpa using c27))
    (try (have c27b3 : (!a0_3.toList.isEmpty) = true := by simpa using c27))
    obtain rfl := Option.some.inj H
    have hcz29_0 : wc.cell? ⟨gb286, 0, none⟩ = some (.string a0_0) := (zbc BK286.out 0).trans rfl
    have hcz29_1 : wc.cell? ⟨gb286, 1, none⟩ = some (.int .u8 a0_1) := (zbc BK286.out 1).trans rfl
    have hcz29_2 : wc.cell? ⟨gb286, 2, none⟩ = some (.int .i64 a0_2) := (zbc BK286.out 2).trans rfl
    have hcz29_3 : wc.cell? ⟨gb286, 3, none⟩ = some (.string a0_3) := (zbc BK286.out 3).trans rfl
    have hcz29_4 : wc.cell? ⟨gb286, 4, none⟩ = some (.slice A0_4 l0_4.length c0_4) := (zbc BK286.out 4).trans rfl
    have hfz29_0 := zbf BK286.out 0
    have hfz29_1 := zbf BK286.out 1
    have hfz29_2 := zbf BK286.out 2
    have hfz29_3 := zbf BK286.out 3
    have hfz29_4 := zbf BK286.out 4
    go_wp2
    all_goals first | (go_ret; exact ⟨by first | rfl | (simp [zen, zes]; done) | (simp [zen, zes]; rfl) | (simp [*, zen, zes]; done) | (simp [*, zen, zes]; rfl), by repeat (first | (with_reducible first | exact HB.out | apply zba | apply zbn | apply zbd | refine zbs ?_ GE286.out) | exact HB.out)⟩) | (exfalso; simp_all; done)
   rw [if_neg c26] at H
   have c26b0 : (a0_1 == 108) = false := beq_eq_false_iff_ne.mpr c26
   have c26b1 : (a0_1 != 108) = true := bne_iff_ne.mpr c26
   by_cases c30 : a0_1 = 83
   ·
    rw [if_pos c30] at H
    have c30b0 : (a0_1 == 83) = true := beq_iff_eq.mpr c30
    have c30b1 : (a0_1 != 83) = false := bne_eq_false_iff_eq.mpr c30
    clear c30
    by_cases c31 : a0_2 = 0
    ·
     rw [if_pos c31] at H
     have c31b0 : (a0_2 == 0) = true := beq_iff_eq.mpr c31
     have c31b1 : (a0_2 != 0) = false := bne_eq_false_iff_eq.mpr c31
     clear c31
     obtain rfl := Option.some.inj H
     have hcz32_0 : wc.cell? ⟨gb286, 0, none⟩ = some (.string a0_0) := (zbc BK286.out 0).trans rfl
     have hcz32_1 : wc.cell? ⟨gb286, 1, none⟩ = some (.int .u8 a0_1) := (zbc BK286.out 1).trans rfl
     have hcz32_2 : wc.cell? ⟨gb286, 2, none⟩ = some (.int .i64 a0_2) := (zbc BK286.out 2).trans rfl
     have hcz32_3 : wc.cell? ⟨gb286, 3, none⟩ = some (.string a0_3) := (zbc BK286.out 3).trans rfl
     have hcz32_4 : wc.cell? ⟨gb286, 4, none⟩ = some (.slice A0_4 l0_4.length c0_4) := (zbc BK286.out 4).trans rfl
     have hfz32_0 := zbf BK286.out 0
     have hfz32_1 := zbf BK286.out 1
     have hfz32_2 := zbf BK286.out 2
     have hfz32_3 := zbf BK286.out 3
     have hfz32_4 := zbf BK286.out 4
     go_wp2
     all_goals first | (go_ret; exact ⟨by first | rfl | (simp [zen, zes]; done) | (simp [zen, zes]; rfl) | (simp [*, zen, zes]; done) | (simp [*, zen, zes]; rfl), by repeat (first | (with_reducible first | exact HB.out | apply zba | apply zbn | apply zbd | refine zbs ?_ GE286.out) | exact HB.out)⟩) | (exfalso; simp_all; done)
    rw [if_neg c31] at H
    have c31b0 : (a0_2 == 0) = false := beq_eq_false_iff_ne.mpr c31
    have c31b1 : (a0_2 != 0) = true := bne_iff_ne.mpr c31
    obtain rfl := Option.some.inj H
    have hcz33_0 : wc.cell? ⟨gb286, 0, none⟩ = some (.string a0_0) := (zbc BK286.out 0).trans rfl
    have hcz33_1 : wc.cell? ⟨gb286, 1, none⟩ = some (.int .u8 a0_1) := (zbc BK286.out 1).trans rfl
    have hcz33_2 : wc.cell? ⟨gb286, 2, none⟩ = some (.int .i64 a0_2) := (zbc BK286.out 2).trans rfl
    have hcz33_3 : wc.cell? ⟨gb286, 3, none⟩ = some (.string a0_3) := (zbc BK286.out 3).trans rfl
    have hcz33_4 : wc.cell? ⟨gb286, 4, none⟩ = some (.slice A0_4 l0_4.length c0_4) := (zbc BK286.out 4).trans rfl
    have hfz33_0 := zbf BK286.out 0
    have hfz33_1 := zbf BK286.out 1
    have hfz33_2 := zbf BK286.out 2
    have hfz33_3 := zbf BK286.out 3
    have hfz33_4 := zbf BK286.out 4
    go_wp2
    all_goals first | (go_ret; exact ⟨by first | rfl | (simp [zen, zes]; done) | (simp [zen, zes]; rfl) | (simp [*, zen, zes]; done) | (simp [*, zen, zes]; rfl), by repeat (first | (with_reducible first | exact HB.out | apply zba | apply zbn | apply zbd | refine zbs ?_ GE286.out) | exact HB.out)⟩) | (exfalso; simp_all; done)
   rw [if_neg c30] at H
   have c30b0 : (a0_1 == 83) = false := beq_eq_false_iff_ne.mpr c30
   have c30b1 : (a0_1 != 83) = true := bne_iff_ne.mpr c30
   by_cases c34 : a0_1 = 70
   ·
    rw [if_pos c34] at H
    have c34b0 : (a0_1 == 70) = true := beq_iff_eq.mpr c34
    have c34b1 : (a0_1 != 70) = false := bne_eq_false_iff_eq.mpr c34
    clear c34
    by_cases c35 : a0_2 = 0
    ·
     rw [if_pos c35] at H
     have c35b0 : (a0_2 == 0) = true := beq_iff_eq.mpr c35
     have c35b1 : (a0_2 != 0) = false := bne_eq_false_iff_eq.mpr c35
     clear c35
     obtain rfl := Option.some.inj H
     have hcz36_0 : wc.cell? ⟨gb286, 0, none⟩ = some (.string a0_0) := (zbc BK286.out 0).trans rfl
     have hcz36_1 : wc.cell? ⟨gb286, 1, none⟩ = some (.int .u8 a0_1) := (zbc BK286.out 1).trans rfl
     have hcz36_2 : wc.cell? ⟨gb286, 2, none⟩ = some (.int .i64 a0_2) := (zbc BK286.out 2).trans rfl
     have hcz36_3 : wc.cell? ⟨gb286, 3, none⟩ = some (.string a0_3) := (zbc BK286.out 3).trans rfl
     have hcz36_4 : wc.cell? ⟨gb286, 4, none⟩ = some (.slice A0_4 l0_4.length c0_4) := (zbc BK286.out 4).trans rfl
     have hfz36_0 := zbf BK286.out 0
     have hfz36_1 := zbf BK286.out 1
     have hfz36_2 := zbf BK286.out 2
     have hfz36_3 := zbf BK286.out 3
     have hfz36_4 := zbf BK286.out 4
     go_wp2
     all_goals first | (go_ret; exact ⟨by first | rfl | (simp [zen, zes]; done) | (simp [zen, zes]; rfl) | (simp [*, zen, zes]; done) | (simp [*, zen, zes]; rfl), by repeat (first | (with_reducible first | exact HB.out | apply zba | apply zbn | apply zbd | refine zbs ?_ GE286.out) | exact HB.out)⟩) | (exfalso; simp_all; done)
    rw [if_neg c35] at H
    have c35b0 : (a0_2 == 0) = false := beq_eq_false_iff_ne.mpr c35
    have c35b1 : (a0_2 != 0) = true := bne_iff_ne.mpr c35
    obtain rfl := Option.some.inj H
    have hcz37_0 : wc.cell? ⟨gb286, 0, none⟩ = some (.string a0_0) := (zbc BK286.out 0).trans rfl
    have hcz37_1 : wc.cell? ⟨gb286, 1, none⟩ = some (.int .u8 a0_1) := (zbc BK286.out 1).trans rfl
    have hcz37_2 : wc.cell? ⟨gb286, 2, none⟩ = some (.int .i64 a0_2) := (zbc BK286.out 2).trans rfl
    have hcz37_3 : wc.cell? ⟨gb286, 3, none⟩ = some (.string a0_3) := (zbc BK286.out 3).trans rfl
    have hcz37_4 : wc.cell? ⟨gb286, 4, none⟩ = some (.slice A0_4 l0_4.length c0_4) := (zbc BK286.out 4).trans rfl
    have hfz37_0 := zbf BK286.out 0
    have hfz37_1 := zbf BK286.out 1
    have hfz37_2 := zbf BK286.out 2
    have hfz37_3 := zbf BK286.out 3
    have hfz37_4 := zbf BK286.out 4
    go_wp2
    all_goals first | (go_ret; exact ⟨by first | rfl | (simp [zen, zes]; done) | (simp [zen, zes]; rfl) | (simp [*, zen, zes]; done) | (simp [*, zen, zes]; rfl), by repeat (first | (with_reducible first | exact HB.out | apply zba | apply zbn | apply zbd | refine zbs ?_ GE286.out) | exact HB.out)⟩) | (exfalso; simp_all; done)
   rw [if_neg c34] at H
   have c34b0 : (a0_1 == 70) = false := beq_eq_false_iff_ne.mpr c34
   have c34b1 : (a0_1 != 70) = true := bne_iff_ne.mpr c34
   by_cases c38 : a0_1 = 86
   ·
    rw [if_pos c38] at H
    have c38b0 : (a0_1 == 86) = true := beq_iff_eq.mpr c38
    have c38b1 : (a0_1 != 86) = false := bne_eq_false_iff_eq.mpr c38
    clear c38
    by_cases c39 : a0_2 = 0
    ·
     rw [if_pos c39] at H
     have c39b0 : (a0_2 == 0) = true := beq_iff_eq.mpr c39
     have c39b1 : (a0_2 != 0) = false := bne_eq_false_iff_eq.mpr c39
     clear c39
     by_cases c40 : a0_3.toList = ([] : List UInt8)
     ·
      rw [if_pos c40] at H
      have c40b0 : (a0_3.toList == ([] : List UInt8)) = true := beq_iff_eq.mpr c40
      have c40b1 : (a0_3.toList != ([] : List UInt8)) = false := bne_eq_false_iff_eq.mpr c40
      (try (have c40b2 : a0_3.toList.isEmpty = true := by simpa using c40))
      (try (have c40b3 : (!a0_3.toList.isEmpty) = false := by simpa using c40))
      clear c40
      obtain rfl := Option.some.inj H
      have hcz41_0 : wc.cell? ⟨gb286, 0, none⟩ = some (.string a0_0) := (zbc BK286.out 0).trans rfl
      have hcz41_1 : wc.cell? ⟨gb286, 1, none⟩ = some (.int .u8 a0_1) := (zbc BK286.out 1).trans rfl
      have hcz41_2 : wc.cell? ⟨gb286, 2, none⟩ = some (.int .i64 a0_2) := (zbc BK286.out 2).trans rfl
      have hcz41_3 : wc.cell? ⟨gb286, 3, none⟩ = some (.string a0_3) := (zbc BK286.out 3).trans rfl
      have hcz41_4 : wc.cell? ⟨gb286, 4, none⟩ = some (.slice A0_4 l0_4.length c0_4) := (zbc BK286.out 4).trans rfl
      have hfz41_0 := zbf BK286.out 0
      have hfz41_1 := zbf BK286.out 1
      have hfz41_2 := zbf BK286.out 2
      have hfz41_3 := zbf BK286.out 3
      have hfz41_4 := zbf BK286.out 4
      go_wp2
      all_goals first | (go_ret; exact ⟨by first | rfl | (simp [zen, zes]; done) | (simp [zen, zes]; rfl) | (simp [*, zen, zes]; done) | (simp [*, zen, zes]; rfl), by repeat (first | (with_reducible first | exact HB.out | apply zba | apply zbn | apply zbd | refine zbs ?_ GE286.out) | exact HB.out)⟩) | (exfalso; simp_all; done)
     rw [if_neg c40] at H
     have c40b0 : (a0_3.toList == ([] : List UInt8)) = false := beq_eq_false_iff_ne.mpr c40
     have c40b1 : (a0_3.toList != ([] : List UInt8)) = true := bne_iff_ne.mpr c40
     (try (have c40b2 : a0_3.toList.isEmpty = false := by simpa using c40))
     (try (have c40b3 : (!a0_3.toList.isEmpty) = true := by simpa using c40))
     obtain rfl := Option.some.inj H
     have hcz42_0 : wc.cell? ⟨gb286, 0, none⟩ = some (.string a0_0) := (zbc BK286.out 0).trans rfl
     have hcz42_1 : wc.cell? ⟨gb286, 1, none⟩ = some (.int .u8 a0_1) := (zbc BK286.out 1).trans rfl
     have hcz42_2 : wc.cell? ⟨gb286, 2, none⟩ = some (.int .i64 a0_2) := (zbc BK286.out 2).trans rfl
     have hcz42_3 : wc.cell? ⟨gb286, 3, none⟩ = some (.string a0_3) := (zbc BK286.out 3).trans rfl
     have hcz42_4 : wc.cell? ⟨gb286, 4, none⟩ = some (.slice A0_4 l0_4.length c0_4) := (zbc BK286.out 4).trans rfl
     have hfz42_0 := zbf BK286.out 0
     have hfz42_1 := zbf BK286.out 1
     have hfz42_2 := zbf BK286.out 2
     have hfz42_3 := zbf BK286.out 3
     have hfz42_4 := zbf BK286.out 4
     go_wp2
     all_goals first | (go_ret; exact ⟨by first | rfl | (simp [zen, zes]; done) | (simp [zen, zes]; rfl) | (simp [*, zen, zes]; done) | (simp [*, zen, zes]; rfl), by repeat (first | (with_reducible first | exact HB.out | apply zba | apply zbn | apply zbd | refine zbs ?_ GE286.out) | exact HB.out)⟩) | (exfalso; simp_all; done)
    rw [if_neg c39] at H
    have c39b0 : (a0_2 == 0) = false := beq_eq_false_iff_ne.mpr c39
    have c39b1 : (a0_2 != 0) = true := bne_iff_ne.mpr c39
    obtain rfl := Option.some.inj H
    have hcz43_0 : wc.cell? ⟨gb286, 0, none⟩ = some (.string a0_0) := (zbc BK286.out 0).trans rfl
    have hcz43_1 : wc.cell? ⟨gb286, 1, none⟩ = some (.int .u8 a0_1) := (zbc BK286.out 1).trans rfl
    have hcz43_2 : wc.cell? ⟨gb286, 2, none⟩ = some (.int .i64 a0_2) := (zbc BK286.out 2).trans rfl
    have hcz43_3 : wc.cell? ⟨gb286, 3, none⟩ = some (.string a0_3) := (zbc BK286.out 3).trans rfl
    have hcz43_4 : wc.cell? ⟨gb286, 4, none⟩ = some (.slice A0_4 l0_4.length c0_4) := (zbc BK286.out 4).trans rfl
    have hfz43_0 := zbf BK286.out 0
    have hfz43_1 := zbf BK286.out 1
    have hfz43_2 := zbf BK286.out 2
    have hfz43_3 := zbf BK286.out 3
    have hfz43_4 := zbf BK286.out 4
    go_wp2
    all_goals first | (go_ret; exact ⟨by first | rfl | (simp [zen, zes]; done) | (simp [zen, zes]; rfl) | (simp [*, zen, zes]; done) | (simp [*, zen, zes]; rfl), by repeat (first | (with_reducible first | exact HB.out | apply zba | apply zbn | apply zbd | refine zbs ?_ GE286.out) | exact HB.out)⟩) | (exfalso; simp_all; done)
   rw [if_neg c38] at H
   have c38b0 : (a0_1 == 86) = false := beq_eq_false_iff_ne.mpr c38
   have c38b1 : (a0_1 != 86) = true := bne_iff_ne.mpr c38
   obtain rfl := Option.some.inj H
   have hcz44_0 : wc.cell? ⟨gb286, 0, none⟩ = some (.string a0_0) := (zbc BK286.out 0).trans rfl
   have hcz44_1 : wc.cell? ⟨gb286, 1, none⟩ = some (.int .u8 a0_1) := (zbc BK286.out 1).trans rfl
   have hcz44_2 : wc.cell? ⟨gb286, 2, none⟩ = some (.int .i64 a0_2) := (zbc BK286.out 2).trans rfl
   have hcz44_3 : wc.cell? ⟨gb286, 3, none⟩ = some (.string a0_3) := (zbc BK286.out 3).trans rfl
   have hcz44_4 : wc.cell? ⟨gb286, 4, none⟩ = some (.slice A0_4 l0_4.length c0_4) := (zbc BK286.out 4).trans rfl
   have hfz44_0 := zbf BK286.out 0
   have hfz44_1 := zbf BK286.out 1
   have hfz44_2 := zbf BK286.out 2
   have hfz44_3 := zbf BK286.out 3
   have hfz44_4 := zbf BK286.out 4
   go_wp2
   all_goals first | (go_ret; exact ⟨by first | rfl | (simp [zen, zes]; done) | (simp [zen, zes]; rfl) | (simp [*, zen, zes]; done) | (simp [*, zen, zes]; rfl), by repeat (first | (with_reducible first | exact HB.out | apply zba | apply zbn | apply zbd | refine zbs ?_ GE286.out) | exact HB.out)⟩) | (exfalso; simp_all; done)

end Go.Proofs.Ytfhaffpegncdiaa.PT
