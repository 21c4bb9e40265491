/- What functions of the given program come to, and that they do: written out of the translation by a program of this session; Lean checks it. -/
import Derived.Test.YtfhaffpegncdiaaShort
import Derived.Test.YtfhaffpegncdiaaPTx0
import Derived.Test.YtfhaffpegncdiaaPTx7
import Derived.Test.YtfhaffpegncdiaaPTx8
namespace Go.Proofs.Ytfhaffpegncdiaa.PT
open Go.RowKit Go.Proofs.YtfhaffpegncdiaaW.PrintWords Go.Proofs.YtfhaffpegncdiaaW.PrintLast Go.Proofs.YtfhaffpegncdiaaW.PrintMore
attribute [local go_sem] max2_int min2_int max_two min_two max_three min_three max_four min_four   -- for this text's walks alone
set_option linter.unusedVariables false
set_option linter.unusedSimpArgs false

/-! ### zfw: function 36 -/
mutual
def zfw.l0 : Nat → List (S24) → List Int → Int → Option (List Int)
 | 0, _, _, _ => none
 | k + 1, x0, x3, x4 => if x4 < (x0.length : Int) then (if 0 ≤ x4 then ((waybillref1_Short.f k x3 ((rd_T24 x0 x4).f0)).bind fun t249 => ((some (([(rd_T24 x0 x4).f1] : List Int) : List Int)).bind fun y253 => (if t249.length + y253.length < 140737488355328 then ((some (t249 ++ y253 : List Int)).bind fun y256 => (if ((rd_T24 x0 x4).f1) = 116 then ((zfP.f k y256 1 (IntKind.u64.wrap ((rd_T24 x0 x4).f2))).bind fun t261 => (zfw.l0 k x0 t261 (wrap64 (x4 + 1)))) else (if ((rd_T24 x0 x4).f1) = 73 then ((zfP.f k y256 4 (IntKind.u64.wrap ((rd_T24 x0 x4).f2))).bind fun t265 => (zfw.l0 k x0 t265 (wrap64 (x4 + 1)))) else (if ((rd_T24 x0 x4).f1) = 108 then ((zfP.f k y256 8 (IntKind.u64.wrap ((rd_T24 x0 x4).f2))).bind fun t269 => (zfw.l0 k x0 t269 (wrap64 (x4 + 1)))) else (if ((rd_T24 x0 x4).f1) = 83 then (if ((rd_T24 x0 x4).f3).size ≤ 9223372036854775807 then ((waybillref1_Long.f k y256 (bytesOf ((rd_T24 x0 x4).f3))).bind fun t276 => (zfw.l0 k x0 t276 (wrap64 (x4 + 1)))) else (none)) else (if ((rd_T24 x0 x4).f1) = 70 then ((zfw.f k ((rd_T24 x0 x4).f4)).bind fun t280 => ((waybillref1_Long.f k y256 t280).bind fun t283 => (zfw.l0 k x0 t283 (wrap64 (x4 + 1))))) else (zfw.l0 k x0 y256 (wrap64 (x4 + 1))))))))) else (none)))) else (none)) else (some x3)
def zfw.f : Nat → List (S24) → Option (List Int)
 | 0, _ => none
 | k + 1, l0 => zfw.l0 k l0 ([] : List Int) 0
end
theorem zfw.mono_l : ∀ k, (∀ y0, LeO (zfw.f k y0) (zfw.f (k + 1) y0)) ∧ (∀ y0 y1 y2, LeO (zfw.l0 k y0 y1 y2) (zfw.l0 (k + 1) y0 y1 y2))
 | 0 => ⟨fun _ r h => by simp [zfw.f] at h, fun _ _ _ r h => by simp [zfw.l0] at h⟩
 | k + 1 => by
  obtain ⟨ih0, ih1⟩ := zfw.mono_l k
  refine ⟨?_, ?_⟩
  ·
   intro y0
   unfold zfw.f
   repeat' first
   | (with_reducible exact ih0 _)
   | (with_reducible exact ih1 _ _ _)
   | (with_reducible exact waybillref1_Long.mono _ _ _)
   | (with_reducible exact zfP.mono _ _ _ _)
   | (with_reducible exact waybillref1_Short.mono _ _ _)
   | (with_reducible exact LeO.refl _)
   | (with_reducible exact LeO.none _)
   | (with_reducible refine LeO.ite ?_ ?_)
   | (with_reducible refine LeO.bind ?_ (fun _ => ?_))
   | exact ih0 _
   | exact ih1 _ _ _
   | exact waybillref1_Long.mono _ _ _
   | exact zfP.mono _ _ _ _
   | exact waybillref1_Short.mono _ _ _
   | exact LeO.none _
   | refine LeO.ite ?_ ?_
   | refine LeO.bind ?_ (fun _ => ?_)
  intro y0 y1 y2
  unfold zfw.l0
  repeat' first
  | (with_reducible exact ih0 _)
  | (with_reducible exact ih1 _ _ _)
  | (with_reducible exact waybillref1_Long.mono _ _ _)
  | (with_reducible exact zfP.mono _ _ _ _)
  | (with_reducible exact waybillref1_Short.mono _ _ _)
  | (with_reducible exact LeO.refl _)
  | (with_reducible exact LeO.none _)
  | (with_reducible refine LeO.ite ?_ ?_)
  | (with_reducible refine LeO.bind ?_ (fun _ => ?_))
  | exact ih0 _
  | exact ih1 _ _ _
  | exact waybillref1_Long.mono _ _ _
  | exact zfP.mono _ _ _ _
  | exact waybillref1_Short.mono _ _ _
  | exact LeO.none _
  | refine LeO.ite ?_ ?_
  | refine LeO.bind ?_ (fun _ => ?_)
theorem zfw.mono : ∀ a0 k, LeO (zfw.f k a0) (zfw.f (k + 1) a0) := by
 intro a0 k
 obtain ⟨ih0, ih1⟩ := zfw.mono_l k
 exact ih0 a0
def zfw.T5 : Bool × List (List Nat × List Nat) := (true, [([], []), ([], []), ([], []), ([1, 2], [1, 2]), ([3], [3]), ([4], [4]), ([0, 5], [0, 5]), ([], []), ([], []), ([7, 8], [7, 8]), ([9], [9]), ([10], [10]), ([11], [11]), ([6, 12, 6], [6, 12]), ([13, 13, 0, 1, 2, 3, 4, 5, 6, 7, 8, 9, 10, 11, 12, 13], [0, 13])])
def zfw.B5 : List Nat := [0, 0, 0, 6, 14, 30, 63, 0, 0, 384, 896, 1920, 3968, 8191, 16383]
theorem zfw.tab5 : rtab .any (opsOf Try.f36 5) = zfw.T5 := by kernel_rfl
theorem zfw.bits5 : waitsOk zfw.T5.2 zfw.B5 = true := by kernel_rfl
set_option maxHeartbeats 8000000 in
set_option maxRecDepth 100000 in
theorem zfw.calls (k : Nat) : ∀ (A0 : Option Addr) (c0 : Nat) (l0 : List (S24)) (r : List Int) (w : World) (hr0 : Kd.C k24 w A0 l0.length l0) (hc0 : l0.length ≤ c0) (h : zfw.f k l0 = some r),
  Calls Try.prog 36 #[.slice A0 l0.length c0] w fun e w' => ∃ v0_ : Value, e = .returned (v0_) ∧ Kd.R (Kd.int .u8) 5 w' w.heap.size (fun _ => True) v0_ r ∧ Below w.heap.size w w' := by
 induction k using Nat.strongRecOn with
 | _ k ih =>
 intro A0 c0 l0 r w hr0 hc0 h
 cases k with
 | zero => exact absurd h (by simp [zfw.f])
 | succ k =>
 simp only [zfw.f] at h
 have HR0 := Zs.mk hr0
 have HC0 := Zs.mk hc0
 clear hr0 hc0
 have HB := Zs.mk (Below.refl w.heap.size w)
 have H : (zfw.l0 k l0 ([] : List Int) 0) = some r := h
 clear h
 have H' := Zs.mk H
 clear H
 go_enter Try.func36, Try.ntmps36
 go_wp2
 go_loopg [3, 4] k (fun kq v3 v4 w' => ∃ (x3_1 : List Int) (x4_1 : Int), v4 = .int .i64 x4_1 ∧ Zs (zfw.l0 kq l0 x3_1 x4_1 = some r) ∧ Zs (kq ≤ k) ∧ Zs (Kd.R (Kd.int .u8) 5 w' w.heap.size (fun _ => True) v3 x3_1) ∧ Zs (Below w.heap.size w w'))
 case atStart => exact ⟨(([] : List Int)), (0), (by first | rfl | (simp; done) | (simp [*]; done)), H', ⟨Nat.le_refl _⟩, ⟨by first | exact Kd.R_nil _ _ _ _ _ | exact Kd.N_nil _ _ _ _ _ | exact Kd.V_nil _ _ _ _ _ | exact Kd.Q_nil _ _ _ _ _ | exact Kd.S_nil _ _ _ _ _⟩, ⟨by repeat (first | (with_reducible first | exact HB.out | apply zba | apply zbn | apply zbd) | exact HB.out)⟩⟩
 case round =>
  clear H'
  obtain ⟨x3_1, x4_1, rfl, HA, HK1, HO_3, HB⟩ := hrel
  cases gk with
  | zero => exact absurd HA.out (by simp [zfw.l0])
  | succ k1 =>
   have H := HA.out
   clear HA
   simp only [zfw.l0] at H
   by_cases c2 : x4_1 < (l0.length : Int)
   ·
    rw [if_pos c2] at H
    have c2b0 : decide (x4_1 < (l0.length : Int)) = true := decide_eq_true c2
    clear c2
    by_cases c3 : 0 ≤ x4_1
    ·
     rw [if_pos c3] at H
     have c3b0 : decide (0 ≤ x4_1) = true := decide_eq_true c3
     clear c3
     replace H := Option.bind_eq_some_iff.mp H
     obtain ⟨t249, A40, H⟩ := H
     replace H : ((some (([(rd_T24 l0 x4_1).f1] : List Int) : List Int)).bind fun y253 => (if t249.length + y253.length < 140737488355328 then ((some (t249 ++ y253 : List Int)).bind fun y256 => (if ((rd_T24 l0 x4_1).f1) = 116 then ((zfP.f k1 y256 1 (IntKind.u64.wrap ((rd_T24 l0 x4_1).f2))).bind fun t261 => (zfw.l0 k1 l0 t261 (wrap64 (x4_1 + 1)))) else (if ((rd_T24 l0 x4_1).f1) = 73 then ((zfP.f k1 y256 4 (IntKind.u64.wrap ((rd_T24 l0 x4_1).f2))).bind fun t265 => (zfw.l0 k1 l0 t265 (wrap64 (x4_1 + 1)))) else (if ((rd_T24 l0 x4_1).f1) = 108 then ((zfP.f k1 y256 8 (IntKind.u64.wrap ((rd_T24 l0 x4_1).f2))).bind fun t269 => (zfw.l0 k1 l0 t269 (wrap64 (x4_1 + 1)))) else (if ((rd_T24 l0 x4_1).f1) = 83 then (if ((rd_T24 l0 x4_1).f3).size ≤ 9223372036854775807 then ((waybillref1_Long.f k1 y256 (bytesOf ((rd_T24 l0 x4_1).f3))).bind fun t276 => (zfw.l0 k1 l0 t276 (wrap64 (x4_1 + 1)))) else (none)) else (if ((rd_T24 l0 x4_1).f1) = 70 then ((zfw.f k1 ((rd_T24 l0 x4_1).f4)).bind fun t280 => ((waybillref1_Long.f k1 y256 t280).bind fun t283 => (zfw.l0 k1 l0 t283 (wrap64 (x4_1 + 1))))) else (zfw.l0 k1 l0 y256 (wrap64 (x4_1 + 1))))))))) else (none))) = some r := H
     have A4 := Zs.mk A40
     clear A40
     obtain ⟨y253, hy253⟩ : ∃ y_ : List Int, y_ = (([(rd_T24 l0 x4_1).f1] : List Int)) := ⟨_, rfl⟩
     replace H : (if t249.length + y253.length < 140737488355328 then ((some (t249 ++ y253 : List Int)).bind fun y256 => (if ((rd_T24 l0 x4_1).f1) = 116 then ((zfP.f k1 y256 1 (IntKind.u64.wrap ((rd_T24 l0 x4_1).f2))).bind fun t261 => (zfw.l0 k1 l0 t261 (wrap64 (x4_1 + 1)))) else (if ((rd_T24 l0 x4_1).f1) = 73 then ((zfP.f k1 y256 4 (IntKind.u64.wrap ((rd_T24 l0 x4_1).f2))).bind fun t265 => (zfw.l0 k1 l0 t265 (wrap64 (x4_1 + 1)))) else (if ((rd_T24 l0 x4_1).f1) = 108 then ((zfP.f k1 y256 8 (IntKind.u64.wrap ((rd_T24 l0 x4_1).f2))).bind fun t269 => (zfw.l0 k1 l0 t269 (wrap64 (x4_1 + 1)))) else (if ((rd_T24 l0 x4_1).f1) = 83 then (if ((rd_T24 l0 x4_1).f3).size ≤ 9223372036854775807 then ((waybillref1_Long.f k1 y256 (bytesOf ((rd_T24 l0 x4_1).f3))).bind fun t276 => (zfw.l0 k1 l0 t276 (wrap64 (x4_1 + 1)))) else (none)) else (if ((rd_T24 l0 x4_1).f1) = 70 then ((zfw.f k1 ((rd_T24 l0 x4_1).f4)).bind fun t280 => ((waybillref1_Long.f k1 y256 t280).bind fun t283 => (zfw.l0 k1 l0 t283 (wrap64 (x4_1 + 1))))) else (zfw.l0 k1 l0 y256 (wrap64 (x4_1 + 1))))))))) else (none)) = some r := by first | (rw [hy253]; with_reducible exact H) | (have H2_ := (Option.bind_some _ _).symm.trans H; rw [hy253]; with_reducible exact H2_) | (have H2_ := (Option.bind_some _ _).symm.trans H; with_reducible exact H2_) | with_reducible exact H | (rw [hy253]; exact H) | exact H
     have Ny253 := Zs.mk hy253
     clear hy253
     by_cases c5 : t249.length + y253.length < 140737488355328
     ·
      rw [if_pos c5] at H
      have LMc5 := Zs.mk c5
      clear c5
      obtain ⟨y256, hy256⟩ : ∃ y_ : List Int, y_ = (t249 ++ y253) := ⟨_, rfl⟩
      replace H : (if ((rd_T24 l0 x4_1).f1) = 116 then ((zfP.f k1 y256 1 (IntKind.u64.wrap ((rd_T24 l0 x4_1).f2))).bind fun t261 => (zfw.l0 k1 l0 t261 (wrap64 (x4_1 + 1)))) else (if ((rd_T24 l0 x4_1).f1) = 73 then ((zfP.f k1 y256 4 (IntKind.u64.wrap ((rd_T24 l0 x4_1).f2))).bind fun t265 => (zfw.l0 k1 l0 t265 (wrap64 (x4_1 + 1)))) else (if ((rd_T24 l0 x4_1).f1) = 108 then ((zfP.f k1 y256 8 (IntKind.u64.wrap ((rd_T24 l0 x4_1).f2))).bind fun t269 => (zfw.l0 k1 l0 t269 (wrap64 (x4_1 + 1)))) else (if ((rd_T24 l0 x4_1).f1) = 83 then (if ((rd_T24 l0 x4_1).f3).size ≤ 9223372036854775807 then ((waybillref1_Long.f k1 y256 (bytesOf ((rd_T24 l0 x4_1).f3))).bind fun t276 => (zfw.l0 k1 l0 t276 (wrap64 (x4_1 + 1)))) else (none)) else (if ((rd_T24 l0 x4_1).f1) = 70 then ((zfw.f k1 ((rd_T24 l0 x4_1).f4)).bind fun t280 => ((waybillref1_Long.f k1 y256 t280).bind fun t283 => (zfw.l0 k1 l0 t283 (wrap64 (x4_1 + 1))))) else (zfw.l0 k1 l0 y256 (wrap64 (x4_1 + 1)))))))) = some r := by first | (rw [hy256]; with_reducible exact H) | (have H2_ := (Option.bind_some _ _).symm.trans H; rw [hy256]; with_reducible exact H2_) | (have H2_ := (Option.bind_some _ _).symm.trans H; with_reducible exact H2_) | with_reducible exact H | (rw [hy256]; exact H) | exact H
      have Ny256 := Zs.mk hy256
      clear hy256
      by_cases c6 : ((rd_T24 l0 x4_1).f1) = 116
      ·
       rw [if_pos c6] at H
       have c6b0 : (((rd_T24 l0 x4_1).f1) == 116) = true := beq_iff_eq.mpr c6
       have c6b1 : (((rd_T24 l0 x4_1).f1) != 116) = false := bne_eq_false_iff_eq.mpr c6
       clear c6
       replace H := Option.bind_eq_some_iff.mp H
       obtain ⟨t261, A70, H⟩ := H
       replace H : (zfw.l0 k1 l0 t261 (wrap64 (x4_1 + 1))) = some r := H
       have A7 := Zs.mk A70
       clear A70
       have H' := Zs.mk H
       clear H
       obtain ⟨Ao8, co8, eo8⟩ := Kd.R_slice HO_3.out
       subst eo8
       try go_wp2
       have n0_ := Zs.mk (Kd.R_drew HO_3.out)
       have n1_ := Zs.mk (zbd HB.out)
       clear HO_3
       clear HB
       have HO_3 := n0_
       have HB := n1_
       clear n0_ n1_
       have p248 : 0 ≤ (x4_1 : Int) := of_decide_eq_true (by first | (with_reducible assumption) | assumption)
       have q248 : x4_1 < (l0.length : Int) := of_decide_eq_true (by first | (with_reducible assumption) | assumption)
       obtain ⟨ad248, A248_4, c248_4, e248, hx248_0, hx248_1, hx248_2, hx248_3, hx248_4, hl248_4, hi248_4⟩ := at_T24 HR0.out x4_1 p248 q248
       have hw248_4 := hx248_4
       have hw248_3 := hx248_3
       have hw248_2 := hx248_2
       have hw248_1 := hx248_1
       have hw248_0 := hx248_0
       cases e248
       replace hx248_0 := (HB.out.cell (zq4 w _ hx248_0)).trans hx248_0
       replace hx248_1 := (HB.out.cell (zq4 w _ hx248_1)).trans hx248_1
       replace hx248_2 := (HB.out.cell (zq4 w _ hx248_2)).trans hx248_2
       replace hx248_3 := (HB.out.cell (zq4 w _ hx248_3)).trans hx248_3
       replace hx248_4 := (HB.out.cell (zq4 w _ hx248_4)).trans hx248_4
       have HR248_4 := Zs.mk hi248_4
       have HC248_4 := Zs.mk hl248_4
       clear hi248_4 hl248_4
       replace p248 := eq_true p248
       replace q248 := eq_true q248
       have p252 : 0 ≤ (x4_1 : Int) := of_decide_eq_true (by first | (with_reducible assumption) | assumption)
       have q252 : x4_1 < (l0.length : Int) := of_decide_eq_true (by first | (with_reducible assumption) | assumption)
       obtain ⟨ad252, A252_4, c252_4, e252, hx252_0, hx252_1, hx252_2, hx252_3, hx252_4, hl252_4, hi252_4⟩ := at_T24 HR0.out x4_1 p252 q252
       have hw252_4 := hx252_4
       have hw252_3 := hx252_3
       have hw252_2 := hx252_2
       have hw252_1 := hx252_1
       have hw252_0 := hx252_0
       obtain rfl : ad248 = ad252 := (by injection e252)
       replace hx252_0 := (HB.out.cell (zq4 w _ hx252_0)).trans hx252_0
       replace hx252_1 := (HB.out.cell (zq4 w _ hx252_1)).trans hx252_1
       replace hx252_2 := (HB.out.cell (zq4 w _ hx252_2)).trans hx252_2
       replace hx252_3 := (HB.out.cell (zq4 w _ hx252_3)).trans hx252_3
       replace hx252_4 := (HB.out.cell (zq4 w _ hx252_4)).trans hx252_4
       have HR252_4 := Zs.mk hi252_4
       have HC252_4 := Zs.mk hl252_4
       clear hi252_4 hl252_4
       replace p252 := eq_true p252
       replace q252 := eq_true q252
       have ea_ := Option.some.inj (hx248_4.symm.trans hx252_4)
       injection ea_ with ea_ en_ ec_
       subst ea_
       subst ec_
       clear en_
       refine start_ (n := 15) (S := fun w' => w'.cell? (ad248.add ((x4_1).toNat * 5)) = some (.string ((rd_T24 l0 x4_1).f0)) ∧ w'.cell? ⟨(ad248.add ((x4_1).toNat * 5)).block, (ad248.add ((x4_1).toNat * 5)).off + 1, none⟩ = some (.int .u8 ((rd_T24 l0 x4_1).f1)) ∧ w'.cell? ⟨(ad248.add ((x4_1).toNat * 5)).block, (ad248.add ((x4_1).toNat * 5)).off + 2, none⟩ = some (.int .i64 ((rd_T24 l0 x4_1).f2)) ∧ w'.cell? ⟨(ad248.add ((x4_1).toNat * 5)).block, (ad248.add ((x4_1).toNat * 5)).off + 3, none⟩ = some (.string ((rd_T24 l0 x4_1).f3)) ∧ w'.cell? ⟨(ad248.add ((x4_1).toNat * 5)).block, (ad248.add ((x4_1).toNat * 5)).off + 4, none⟩ = some (.slice A248_4 ((rd_T24 l0 x4_1).f4).length c248_4) ∧ w'.cell? (ad248.add ((x4_1).toNat * 5)) = some (.string ((rd_T24 l0 x4_1).f0)) ∧ w'.cell? ⟨(ad248.add ((x4_1).toNat * 5)).block, (ad248.add ((x4_1).toNat * 5)).off + 1, none⟩ = some (.int .u8 ((rd_T24 l0 x4_1).f1)) ∧ w'.cell? ⟨(ad248.add ((x4_1).toNat * 5)).block, (ad248.add ((x4_1).toNat * 5)).off + 2, none⟩ = some (.int .i64 ((rd_T24 l0 x4_1).f2)) ∧ w'.cell? ⟨(ad248.add ((x4_1).toNat * 5)).block, (ad248.add ((x4_1).toNat * 5)).off + 3, none⟩ = some (.string ((rd_T24 l0 x4_1).f3)) ∧ w'.cell? ⟨(ad248.add ((x4_1).toNat * 5)).block, (ad248.add ((x4_1).toNat * 5)).off + 4, none⟩ = some (.slice A248_4 ((rd_T24 l0 x4_1).f4).length c248_4)) (ds := []) #[false, false, false, false, false, false, false, false, false, false, false, false, false, false, false] (by kernel_rfl) rfl rfl ⟨((HB.out.cell (zq4 w _ hw248_0)).trans hw248_0), ((HB.out.cell (zq4 w _ hw248_1)).trans hw248_1), ((HB.out.cell (zq4 w _ hw248_2)).trans hw248_2), ((HB.out.cell (zq4 w _ hw248_3)).trans hw248_3), ((HB.out.cell (zq4 w _ hw248_4)).trans hw248_4), ((HB.out.cell (zq4 w _ hw252_0)).trans hw252_0), ((HB.out.cell (zq4 w _ hw252_1)).trans hw252_1), ((HB.out.cell (zq4 w _ hw252_2)).trans hw252_2), ((HB.out.cell (zq4 w _ hw252_3)).trans hw252_3), ((HB.out.cell (zq4 w _ hw252_4)).trans hw252_4)⟩ (fun hHeld => ?_); refine with_tabW zfw.tab5 zfw.bits5 (fun HT_ HW_ => ?_)
       generalize wr.drew = w9 at HO_3 HB HR248_4 HR252_4 hx248_0 hx248_1 hx248_2 hx248_3 hx248_4 hx252_0 hx252_1 hx252_2 hx252_3 hx252_4 hHeld ⊢
       refine pure_ (i := 0) (N := some 11) (v := ?_) (a' := ?_) #[true, false, false, false, false, false, false, false, false, false, false, false, false, false, false] rfl rfl (any_of HT_.out (by kernel_rfl)) (fun _ _ _ h => h) (Or.inl ⟨by rfl, ?_⟩) ?_ ?_
       rotate_left
       ·
        intro w'
        go_simp
        with_reducible rfl
       rotate_left
       ·
        simp only [Act.put, zq1, zq2, zq3, i64_w, i32_w]
        rfl
       refine pure_ (i := 1) (N := some 12) (v := ?_) (a' := ?_) #[true, true, false, false, false, false, false, false, false, false, false, false, false, false, false] rfl rfl (any_of HT_.out (by kernel_rfl)) (fun _ _ _ h => h) (Or.inl ⟨by rfl, ?_⟩) ?_ ?_
       rotate_left
       ·
        intro w'
        go_simp
        with_reducible rfl
       rotate_left
       ·
        simp only [Act.put, zq1, zq2, zq3, i64_w, i32_w]
        rfl
       refine pure_ (i := 2) (N := some 13) (v := ?_) (a' := ?_) #[true, true, true, false, false, false, false, false, false, false, false, false, false, false, false] rfl rfl (any_of HT_.out (by kernel_rfl)) (fun _ _ _ h => h) (Or.inl ⟨by rfl, ?_⟩) ?_ ?_
       rotate_left
       ·
        intro w'
        go_simp
        with_reducible rfl
       rotate_left
       ·
        simp only [Act.put, zq1, zq2, zq3, i64_w, i32_w]
        rfl
       refine pure_ (i := 3) (N := some 14) (v := ?_) (a' := ?_) #[true, true, true, true, false, false, false, false, false, false, false, false, false, false, false] rfl rfl (any_of HT_.out (by kernel_rfl)) (fun _ _ _ h => h) (Or.inl ⟨by rfl, ?_⟩) ?_ ?_
       rotate_left
       ·
        intro w'
        go_simp
        with_reducible rfl
       rotate_left
       ·
        simp only [Act.put, zq1, zq2, zq3, i64_w, i32_w]
        rfl
       refine pure_ (i := 4) (N := some 15) (v := ?_) (a' := ?_) #[true, true, true, true, true, false, false, false, false, false, false, false, false, false, false] rfl rfl (any_of HT_.out (by kernel_rfl)) (fun _ _ _ h => h) (Or.inl ⟨by rfl, ?_⟩) ?_ ?_
       rotate_left
       ·
        intro w'
        go_simp
        with_reducible rfl
       rotate_left
       ·
        simp only [Act.put, zq1, zq2, zq3, i64_w, i32_w]
        rfl
       refine pure_ (i := 7) (N := some 18) (v := ?_) (a' := ?_) #[true, true, true, true, true, false, false, true, false, false, false, false, false, false, false] rfl rfl (any_of HT_.out (by kernel_rfl)) (fun _ _ _ h => h) (Or.inl ⟨by rfl, ?_⟩) ?_ ?_
       rotate_left
       ·
        intro w'
        go_simp
        with_reducible rfl
       rotate_left
       ·
        simp only [Act.put, zq1, zq2, zq3, i64_w, i32_w]
        rfl
       refine pure_ (i := 8) (N := some 19) (v := ?_) (a' := ?_) #[true, true, true, true, true, false, false, true, true, false, false, false, false, false, false] rfl rfl (any_of HT_.out (by kernel_rfl)) (fun _ _ _ h => h) (Or.inl ⟨by rfl, ?_⟩) ?_ ?_
       rotate_left
       ·
        intro w'
        go_simp
        with_reducible rfl
       rotate_left
       ·
        simp only [Act.put, zq1, zq2, zq3, i64_w, i32_w]
        rfl
       refine pure_ (i := 9) (N := some 20) (v := ?_) (a' := ?_) #[true, true, true, true, true, false, false, true, true, true, false, false, false, false, false] rfl rfl (any_of HT_.out (by kernel_rfl)) (fun _ _ _ h => h) (Or.inl ⟨by rfl, ?_⟩) ?_ ?_
       rotate_left
       ·
        intro w'
        go_simp
        with_reducible rfl
       rotate_left
       ·
        simp only [Act.put, zq1, zq2, zq3, i64_w, i32_w]
        rfl
       refine pure_ (i := 10) (N := some 21) (v := ?_) (a' := ?_) #[true, true, true, true, true, false, false, true, true, true, true, false, false, false, false] rfl rfl (any_of HT_.out (by kernel_rfl)) (fun _ _ _ h => h) (Or.inl ⟨by rfl, ?_⟩) ?_ ?_
       rotate_left
       ·
        intro w'
        go_simp
        with_reducible rfl
       rotate_left
       ·
        simp only [Act.put, zq1, zq2, zq3, i64_w, i32_w]
        rfl
       refine take_ (i := 5) (N := some 16) (v := ?_) (a' := ?_) #[true, true, true, true, true, true, false, true, true, true, true, false, false, false, false] rfl rfl (take_ofW HT_.out HW_.out (by kernel_rfl)) (fun _ _ _ h => h) (Or.inl ⟨by rfl, ?_⟩) hHeld ?_ ?_
       rotate_left
       ·
        rintro w' ⟨s0, s1, s2, s3, s4, s5, s6, s7, s8, s9⟩
        go_simp
        with_reducible rfl
       rotate_left
       ·
        simp only [Act.put, zq1, zq2, zq3, i64_w, i32_w]
        rfl
       refine take_ (i := 11) (N := some 22) (v := ?_) (a' := ?_) #[true, true, true, true, true, true, false, true, true, true, true, true, false, false, false] rfl rfl (take_ofW HT_.out HW_.out (by kernel_rfl)) (fun _ _ _ h => h) (Or.inl ⟨by rfl, ?_⟩) hHeld ?_ ?_
       rotate_left
       ·
        rintro w' ⟨s0, s1, s2, s3, s4, s5, s6, s7, s8, s9⟩
        go_simp
        with_reducible rfl
       rotate_left
       ·
        simp only [Act.put, zq1, zq2, zq3, i64_w, i32_w]
        rfl
       refine join_ (σ := Value × Value) 2 #[true, true, true, true, true, true, true, true, true, true, true, true, true, false, false] (fun s_ => [(17, s_.1), (23, s_.2)]) (fun s_ w' => (w'.cell? (ad248.add ((x4_1).toNat * 5)) = some (.string ((rd_T24 l0 x4_1).f0)) ∧ w'.cell? ⟨(ad248.add ((x4_1).toNat * 5)).block, (ad248.add ((x4_1).toNat * 5)).off + 1, none⟩ = some (.int .u8 ((rd_T24 l0 x4_1).f1)) ∧ w'.cell? ⟨(ad248.add ((x4_1).toNat * 5)).block, (ad248.add ((x4_1).toNat * 5)).off + 2, none⟩ = some (.int .i64 ((rd_T24 l0 x4_1).f2)) ∧ w'.cell? ⟨(ad248.add ((x4_1).toNat * 5)).block, (ad248.add ((x4_1).toNat * 5)).off + 3, none⟩ = some (.string ((rd_T24 l0 x4_1).f3)) ∧ w'.cell? ⟨(ad248.add ((x4_1).toNat * 5)).block, (ad248.add ((x4_1).toNat * 5)).off + 4, none⟩ = some (.slice A248_4 ((rd_T24 l0 x4_1).f4).length c248_4) ∧ w'.cell? (ad248.add ((x4_1).toNat * 5)) = some (.string ((rd_T24 l0 x4_1).f0)) ∧ w'.cell? ⟨(ad248.add ((x4_1).toNat * 5)).block, (ad248.add ((x4_1).toNat * 5)).off + 1, none⟩ = some (.int .u8 ((rd_T24 l0 x4_1).f1)) ∧ w'.cell? ⟨(ad248.add ((x4_1).toNat * 5)).block, (ad248.add ((x4_1).toNat * 5)).off + 2, none⟩ = some (.int .i64 ((rd_T24 l0 x4_1).f2)) ∧ w'.cell? ⟨(ad248.add ((x4_1).toNat * 5)).block, (ad248.add ((x4_1).toNat * 5)).off + 3, none⟩ = some (.string ((rd_T24 l0 x4_1).f3)) ∧ w'.cell? ⟨(ad248.add ((x4_1).toNat * 5)).block, (ad248.add ((x4_1).toNat * 5)).off + 4, none⟩ = some (.slice A248_4 ((rd_T24 l0 x4_1).f4).length c248_4)) ∧ (Kd.R (Kd.int .u8) 5 w' w.heap.size (fun k_ => some k_ ≠ (s_.2 : Value).ownBlock ∧ some k_ ≠ (.slice Ao8 x3_1.length co8 : Value).ownBlock) s_.1 t249) ∧ (Kd.R (Kd.int .u8) 5 w' w.heap.size (fun k_ => some k_ ≠ (s_.1 : Value).ownBlock ∧ some k_ ≠ (.slice Ao8 x3_1.length co8 : Value).ownBlock) s_.2 y253) ∧ (Kd.R (Kd.int .u8) 5 w' w.heap.size (fun k_ => some k_ ≠ (s_.1 : Value).ownBlock ∧ some k_ ≠ (s_.2 : Value).ownBlock) (.slice Ao8 x3_1.length co8) x3_1) ∧ (Below w.heap.size w w')) ?_ ?_
       rotate_left
       ·
        intro hCont
        refine two_ (i := 6) (j := 12) (Ni := some 17) (Nj := some 23) #[true, true, true, true, true, true, true, true, true, true, true, true, false, false, false] #[true, true, true, true, true, true, false, true, true, true, true, true, true, false, false] rfl rfl rfl rfl (two_of HT_.out (by kernel_rfl)) (by decide) (by decide) (fun K hK => ?_) (fun K hK => ?_)
        ·
         skip
         refine goes_ Try.func43 (by kernel_rfl) rfl #[.slice Ao8 x3_1.length co8, .string ((rd_T24 l0 x4_1).f0)] (by rfl) rfl rfl (by (try simp only [List.map_toArray, List.map_cons, List.map_nil]); first | done | rfl | (simp only [List.length_drop, List.length_take]; rfl)) ?_
         with_reducible refine (waybillref1_Short.calls k1 _ _ x3_1 ((rd_T24 l0 x4_1).f0) t249 _ ?side1 ?side2 A4.out).mono ?_
         (case side1 => repeat (first | exact (Kd.R_reads' HO_3.out).2.2 | (with_reducible refine Kd.C_alloc ?_ _) | (with_reducible refine Kd.C_drewN ?_ _) | (with_reducible refine Kd.C_drew ?_)))
         (case side2 => exact (Kd.R_reads' HO_3.out).2.1)
         rintro e w10 ⟨v250, rfl, ho0, hb⟩
         refine ⟨_, rfl, ?_⟩
         have n0_ := Zs.mk (Kd.R_elder' (by (with_reducible repeat (first | apply Kd.R_alloc | apply Kd.R_drewN | apply Kd.R_drew)); exact HO_3.out) (Kd.R_base ho0) hb)
         have n1_ := Zs.mk (Kd.R_lower (Kd.R_new' ho0 (Kd.R_lt (by (with_reducible repeat (first | apply Kd.R_alloc | apply Kd.R_drewN | apply Kd.R_drew)); exact HO_3.out))) (zbz (by repeat (first | (with_reducible first | exact HB.out | apply zba | apply zbn | apply zbd) | exact HB.out))))
         have n2_ := Zs.mk (zbt (by repeat (first | (with_reducible first | exact HB.out | apply zba | apply zbn | apply zbd) | exact HB.out)) hb)
         clear HO_3
         clear HB
         have HO_3 := n0_
         have HO251 := n1_
         have HB := n2_
         clear n0_ n1_ n2_
         (try clear hb)
         (try clear hb2)
         (try clear hk)
         (try clear hi)
         (try clear hge)
         (try clear ho0)
         refine hK.out _ _ ⟨((HB.out.cell (zq4 w _ hw248_0)).trans hw248_0), ((HB.out.cell (zq4 w _ hw248_1)).trans hw248_1), ((HB.out.cell (zq4 w _ hw248_2)).trans hw248_2), ((HB.out.cell (zq4 w _ hw248_3)).trans hw248_3), ((HB.out.cell (zq4 w _ hw248_4)).trans hw248_4), ((HB.out.cell (zq4 w _ hw252_0)).trans hw252_0), ((HB.out.cell (zq4 w _ hw252_1)).trans hw252_1), ((HB.out.cell (zq4 w _ hw252_2)).trans hw252_2), ((HB.out.cell (zq4 w _ hw252_3)).trans hw252_3), ((HB.out.cell (zq4 w _ hw252_4)).trans hw252_4)⟩ (fun hHeld => ?_)
         clear hK K
         refine norm_ (a' := ?_) ?_ ?_
         rotate_left
         ·
          show Act.put _ (some 17) _ = _
          simp only [Act.put, zq1, zq2, zq3, i64_w, i32_w]
          rfl
         refine one_ (i := 12) (N := some 23) #[true, true, true, true, true, true, true, true, true, true, true, true, true, false, false] rfl rfl (one_of HT_.out (by kernel_rfl)) (by decide) (fun K hK => ?_)
         refine Kd.R_lit_step (Kd.int .u8) _ 5 ?hg (N := 23) ?hd (xs := ([(rd_T24 l0 x4_1).f1] : List Int)) (inner := [.int .u8 ((rd_T24 l0 x4_1).f1)]) (ok := fun _ => True) (okp := fun _ => True) ?hr ?hp (fun _ hk => hk) trivial (Below.refl _ _) (Nat.le_refl _) (by simp) ?_; (case hd => rfl); (case hg => rfl); (case hr => first | (go_simp; done) | (go_simp; rfl)); (case hp => exact (Reps.one (show Kd.M (Kd.int .u8) _ _ _ ((rd_T24 l0 x4_1).f1) [.int .u8 ((rd_T24 l0 x4_1).f1)] from rfl) (Reps.none _ _)))
         intro v254 w11 ho12 hb hg_ hnew_
         clear hg_ hnew_
         (first | rw [← Ny253.out] at ho12 | (simp only [Int.reduceToNat] at ho12; rw [← Ny253.out] at ho12))
         have n0_ := Zs.mk (Kd.R_elder' (by (with_reducible repeat (first | apply Kd.R_alloc | apply Kd.R_drewN | apply Kd.R_drew)); exact HO_3.out) (Kd.R_base ho12) hb)
         have n1_ := Zs.mk (Kd.R_elder' (by (with_reducible repeat (first | apply Kd.R_alloc | apply Kd.R_drewN | apply Kd.R_drew)); exact HO251.out) (Kd.R_base ho12) hb)
         have n2_ := Zs.mk (Kd.R_lower (Kd.R_new' (Kd.R_new' ho12 (Kd.R_lt (by (with_reducible repeat (first | apply Kd.R_alloc | apply Kd.R_drewN | apply Kd.R_drew)); exact HO_3.out))) (Kd.R_lt (by (with_reducible repeat (first | apply Kd.R_alloc | apply Kd.R_drewN | apply Kd.R_drew)); exact HO251.out))) (zbz (by repeat (first | (with_reducible first | exact HB.out | apply zba | apply zbn | apply zbd) | exact HB.out))))
         have n3_ := Zs.mk (zbt (by repeat (first | (with_reducible first | exact HB.out | apply zba | apply zbn | apply zbd) | exact HB.out)) hb)
         clear HO_3
         clear HO251
         clear HB
         have HO_3 := n0_
         have HO251 := n1_
         have HO255 := n2_
         have HB := n3_
         clear n0_ n1_ n2_ n3_
         clear hb ho12
         refine hK.out _ _ ⟨((HB.out.cell (zq4 w _ hw248_0)).trans hw248_0), ((HB.out.cell (zq4 w _ hw248_1)).trans hw248_1), ((HB.out.cell (zq4 w _ hw248_2)).trans hw248_2), ((HB.out.cell (zq4 w _ hw248_3)).trans hw248_3), ((HB.out.cell (zq4 w _ hw248_4)).trans hw248_4), ((HB.out.cell (zq4 w _ hw252_0)).trans hw252_0), ((HB.out.cell (zq4 w _ hw252_1)).trans hw252_1), ((HB.out.cell (zq4 w _ hw252_2)).trans hw252_2), ((HB.out.cell (zq4 w _ hw252_3)).trans hw252_3), ((HB.out.cell (zq4 w _ hw252_4)).trans hw252_4)⟩ (fun hHeld => ?_)
         clear hK K
         refine norm_ (a' := ?_) ?_ ?_
         rotate_left
         ·
          show Act.put _ (some 23) _ = _
          simp only [Act.put, zq1, zq2, zq3, i64_w, i32_w]
          rfl
         exact norm_ (by simp only [putAll, Act.put, zq1, zq2, zq3]) (hCont (v250, v254) _ ⟨hHeld, (by (with_reducible repeat (first | apply Kd.R_alloc | apply Kd.R_drewN | apply Kd.R_drew)); exact Kd.R_mono HO251.out (fun _ hk => ⟨hk.2, hk.1.2⟩)), (by (with_reducible repeat (first | apply Kd.R_alloc | apply Kd.R_drewN | apply Kd.R_drew)); exact Kd.R_mono HO255.out (fun _ hk => ⟨hk.2, hk.1.2⟩)), (by (with_reducible repeat (first | apply Kd.R_alloc | apply Kd.R_drewN | apply Kd.R_drew)); exact Kd.R_mono HO_3.out (fun _ hk => ⟨hk.1.2, hk.2⟩)), (by repeat (first | (with_reducible first | exact HB.out | apply zba | apply zbn | apply zbd) | exact HB.out))⟩)
        skip
        refine Kd.R_lit_step (Kd.int .u8) _ 5 ?hg (N := 23) ?hd (xs := ([(rd_T24 l0 x4_1).f1] : List Int)) (inner := [.int .u8 ((rd_T24 l0 x4_1).f1)]) (ok := fun _ => True) (okp := fun _ => True) ?hr ?hp (fun _ hk => hk) trivial (Below.refl _ _) (Nat.le_refl _) (by simp) ?_; (case hd => rfl); (case hg => rfl); (case hr => first | (go_simp; done) | (go_simp; rfl)); (case hp => exact (Reps.one (show Kd.M (Kd.int .u8) _ _ _ ((rd_T24 l0 x4_1).f1) [.int .u8 ((rd_T24 l0 x4_1).f1)] from rfl) (Reps.none _ _)))
        intro v254 w10 ho11 hb hg_ hnew_
        clear hg_ hnew_
        (first | rw [← Ny253.out] at ho11 | (simp only [Int.reduceToNat] at ho11; rw [← Ny253.out] at ho11))
        have n0_ := Zs.mk (Kd.R_elder' (by (with_reducible repeat (first | apply Kd.R_alloc | apply Kd.R_drewN | apply Kd.R_drew)); exact HO_3.out) (Kd.R_base ho11) hb)
        have n1_ := Zs.mk (Kd.R_lower (Kd.R_new' ho11 (Kd.R_lt (by (with_reducible repeat (first | apply Kd.R_alloc | apply Kd.R_drewN | apply Kd.R_drew)); exact HO_3.out))) (zbz (by repeat (first | (with_reducible first | exact HB.out | apply zba | apply zbn | apply zbd) | exact HB.out))))
        have n2_ := Zs.mk (zbt (by repeat (first | (with_reducible first | exact HB.out | apply zba | apply zbn | apply zbd) | exact HB.out)) hb)
        clear HO_3
        clear HB
        have HO_3 := n0_
        have HO255 := n1_
        have HB := n2_
        clear n0_ n1_ n2_
        clear hb ho11
        refine hK.out _ _ ⟨((HB.out.cell (zq4 w _ hw248_0)).trans hw248_0), ((HB.out.cell (zq4 w _ hw248_1)).trans hw248_1), ((HB.out.cell (zq4 w _ hw248_2)).trans hw248_2), ((HB.out.cell (zq4 w _ hw248_3)).trans hw248_3), ((HB.out.cell (zq4 w _ hw248_4)).trans hw248_4), ((HB.out.cell (zq4 w _ hw252_0)).trans hw252_0), ((HB.out.cell (zq4 w _ hw252_1)).trans hw252_1), ((HB.out.cell (zq4 w _ hw252_2)).trans hw252_2), ((HB.out.cell (zq4 w _ hw252_3)).trans hw252_3), ((HB.out.cell (zq4 w _ hw252_4)).trans hw252_4)⟩ (fun hHeld => ?_)
        clear hK K
        refine norm_ (a' := ?_) ?_ ?_
        rotate_left
        ·
         show Act.put _ (some 23) _ = _
         simp only [Act.put, zq1, zq2, zq3, i64_w, i32_w]
         rfl
        refine one_ (i := 6) (N := some 17) #[true, true, true, true, true, true, true, true, true, true, true, true, true, false, false] rfl rfl (one_of HT_.out (by kernel_rfl)) (by decide) (fun K hK => ?_)
        refine goes_ Try.func43 (by kernel_rfl) rfl #[.slice Ao8 x3_1.length co8, .string ((rd_T24 l0 x4_1).f0)] (by rfl) rfl rfl (by (try simp only [List.map_toArray, List.map_cons, List.map_nil]); first | done | rfl | (simp only [List.length_drop, List.length_take]; rfl)) ?_
        with_reducible refine (waybillref1_Short.calls k1 _ _ x3_1 ((rd_T24 l0 x4_1).f0) t249 _ ?side1 ?side2 A4.out).mono ?_
        (case side1 => repeat (first | exact (Kd.R_reads' HO_3.out).2.2 | (with_reducible refine Kd.C_alloc ?_ _) | (with_reducible refine Kd.C_drewN ?_ _) | (with_reducible refine Kd.C_drew ?_)))
        (case side2 => exact (Kd.R_reads' HO_3.out).2.1)
        rintro e w12 ⟨v250, rfl, ho0, hb⟩
        refine ⟨_, rfl, ?_⟩
        have n0_ := Zs.mk (Kd.R_elder' (by (with_reducible repeat (first | apply Kd.R_alloc | apply Kd.R_drewN | apply Kd.R_drew)); exact HO_3.out) (Kd.R_base ho0) hb)
        have n1_ := Zs.mk (Kd.R_elder' (by (with_reducible repeat (first | apply Kd.R_alloc | apply Kd.R_drewN | apply Kd.R_drew)); exact HO255.out) (Kd.R_base ho0) hb)
        have n2_ := Zs.mk (Kd.R_lower (Kd.R_new' (Kd.R_new' ho0 (Kd.R_lt (by (with_reducible repeat (first | apply Kd.R_alloc | apply Kd.R_drewN | apply Kd.R_drew)); exact HO_3.out))) (Kd.R_lt (by (with_reducible repeat (first | apply Kd.R_alloc | apply Kd.R_drewN | apply Kd.R_drew)); exact HO255.out))) (zbz (by repeat (first | (with_reducible first | exact HB.out | apply zba | apply zbn | apply zbd) | exact HB.out))))
        have n3_ := Zs.mk (zbt (by repeat (first | (with_reducible first | exact HB.out | apply zba | apply zbn | apply zbd) | exact HB.out)) hb)
        clear HO_3
        clear HO255
        clear HB
        have HO_3 := n0_
        have HO255 := n1_
        have HO251 := n2_
        have HB := n3_
        clear n0_ n1_ n2_ n3_
        (try clear hb)
        (try clear hb2)
        (try clear hk)
        (try clear hi)
        (try clear hge)
        (try clear ho0)
        refine hK.out _ _ ⟨((HB.out.cell (zq4 w _ hw248_0)).trans hw248_0), ((HB.out.cell (zq4 w _ hw248_1)).trans hw248_1), ((HB.out.cell (zq4 w _ hw248_2)).trans hw248_2), ((HB.out.cell (zq4 w _ hw248_3)).trans hw248_3), ((HB.out.cell (zq4 w _ hw248_4)).trans hw248_4), ((HB.out.cell (zq4 w _ hw252_0)).trans hw252_0), ((HB.out.cell (zq4 w _ hw252_1)).trans hw252_1), ((HB.out.cell (zq4 w _ hw252_2)).trans hw252_2), ((HB.out.cell (zq4 w _ hw252_3)).trans hw252_3), ((HB.out.cell (zq4 w _ hw252_4)).trans hw252_4)⟩ (fun hHeld => ?_)
        clear hK K
        refine norm_ (a' := ?_) ?_ ?_
        rotate_left
        ·
         show Act.put _ (some 17) _ = _
         simp only [Act.put, zq1, zq2, zq3, i64_w, i32_w]
         rfl
        exact norm_ (by simp only [putAll, Act.put, zq1, zq2, zq3]) (hCont (v250, v254) _ ⟨hHeld, (by (with_reducible repeat (first | apply Kd.R_alloc | apply Kd.R_drewN | apply Kd.R_drew)); exact Kd.R_mono HO251.out (fun _ hk => ⟨hk.2, hk.1.2⟩)), (by (with_reducible repeat (first | apply Kd.R_alloc | apply Kd.R_drewN | apply Kd.R_drew)); exact Kd.R_mono HO255.out (fun _ hk => ⟨hk.2, hk.1.2⟩)), (by (with_reducible repeat (first | apply Kd.R_alloc | apply Kd.R_drewN | apply Kd.R_drew)); exact Kd.R_mono HO_3.out (fun _ hk => ⟨hk.2, hk.1.2⟩)), (by repeat (first | (with_reducible first | exact HB.out | apply zba | apply zbn | apply zbd) | exact HB.out))⟩)
       rintro ⟨v250, v254⟩ w13 ⟨hS_, h0_, h1_, h2_, h3_⟩
       have n0_ : Zs (Kd.R (Kd.int .u8) 5 w13 w.heap.size (fun k_ => some k_ ≠ (v254 : Value).ownBlock ∧ some k_ ≠ (.slice Ao8 x3_1.length co8 : Value).ownBlock) v250 t249) := ⟨h0_⟩
       have n1_ : Zs (Kd.R (Kd.int .u8) 5 w13 w.heap.size (fun k_ => some k_ ≠ (v250 : Value).ownBlock ∧ some k_ ≠ (.slice Ao8 x3_1.length co8 : Value).ownBlock) v254 y253) := ⟨h1_⟩
       have n2_ : Zs (Kd.R (Kd.int .u8) 5 w13 w.heap.size (fun k_ => some k_ ≠ (v250 : Value).ownBlock ∧ some k_ ≠ (v254 : Value).ownBlock) (.slice Ao8 x3_1.length co8) x3_1) := ⟨h2_⟩
       have n3_ : Zs (Below w.heap.size w w13) := ⟨h3_⟩
       clear HO_3
       clear HB
       clear h0_ h1_ h2_ h3_
       have HO251 := n0_
       have HO255 := n1_
       have HO_3 := n2_
       have HB := n3_
       clear n0_ n1_ n2_ n3_
       have hHeld : w13.cell? (ad248.add ((x4_1).toNat * 5)) = some (.string ((rd_T24 l0 x4_1).f0)) ∧ w13.cell? ⟨(ad248.add ((x4_1).toNat * 5)).block, (ad248.add ((x4_1).toNat * 5)).off + 1, none⟩ = some (.int .u8 ((rd_T24 l0 x4_1).f1)) ∧ w13.cell? ⟨(ad248.add ((x4_1).toNat * 5)).block, (ad248.add ((x4_1).toNat * 5)).off + 2, none⟩ = some (.int .i64 ((rd_T24 l0 x4_1).f2)) ∧ w13.cell? ⟨(ad248.add ((x4_1).toNat * 5)).block, (ad248.add ((x4_1).toNat * 5)).off + 3, none⟩ = some (.string ((rd_T24 l0 x4_1).f3)) ∧ w13.cell? ⟨(ad248.add ((x4_1).toNat * 5)).block, (ad248.add ((x4_1).toNat * 5)).off + 4, none⟩ = some (.slice A248_4 ((rd_T24 l0 x4_1).f4).length c248_4) ∧ w13.cell? (ad248.add ((x4_1).toNat * 5)) = some (.string ((rd_T24 l0 x4_1).f0)) ∧ w13.cell? ⟨(ad248.add ((x4_1).toNat * 5)).block, (ad248.add ((x4_1).toNat * 5)).off + 1, none⟩ = some (.int .u8 ((rd_T24 l0 x4_1).f1)) ∧ w13.cell? ⟨(ad248.add ((x4_1).toNat * 5)).block, (ad248.add ((x4_1).toNat * 5)).off + 2, none⟩ = some (.int .i64 ((rd_T24 l0 x4_1).f2)) ∧ w13.cell? ⟨(ad248.add ((x4_1).toNat * 5)).block, (ad248.add ((x4_1).toNat * 5)).off + 3, none⟩ = some (.string ((rd_T24 l0 x4_1).f3)) ∧ w13.cell? ⟨(ad248.add ((x4_1).toNat * 5)).block, (ad248.add ((x4_1).toNat * 5)).off + 4, none⟩ = some (.slice A248_4 ((rd_T24 l0 x4_1).f4).length c248_4) := hS_
       obtain ⟨Ao15, co15, eo15⟩ := Kd.R_slice HO255.out
       (first | subst eo15 | (injection eo15 with f1_ f2_ f3_; have f4_ := f1_.symm; have f5_ := f3_.symm; clear f1_ f2_ f3_; subst f4_; subst f5_))
       refine norm_ (a' := ?_) ?_ ?_
       rotate_left
       ·
        simp only [putAll, Act.put, zq1, zq2, zq3]
        rfl
       refine one_ (i := 13) (N := some 24) #[true, true, true, true, true, true, true, true, true, true, true, true, true, true, false] rfl rfl (one_of HT_.out (by kernel_rfl)) (by decide) (fun K hK => ?_)
       refine Kd.R_append_rows_step (Kd.int .u8) (w0 := w) w.heap.size (by rfl) (.tmp 17) (.tmp 23) 25 5 (.int .u8 0) 1 rfl Try.underlying25 info5 rfl (by decide) (by omega) v250 t249 y253 _ _ _ (fun k_ => some k_ ≠ (.slice Ao8 x3_1.length co8 : Value).ownBlock ∧ some k_ ≠ (.slice Ao15 y253.length co15 : Value).ownBlock) (fun _ => False) rfl rfl ?aO ?aR (fun _ _ h => h) (fun _ h => h.elim) ?aF ?aB ?aS ?aL ?_
       (case aR => repeat (first | exact (Kd.R_reads' HO255.out).2.2 | (with_reducible refine Kd.C_alloc ?_ _) | (with_reducible refine Kd.C_drewN ?_ _) | (with_reducible refine Kd.C_drew ?_)))
       (case aB => exact (by repeat (first | (with_reducible first | exact HB.out | apply zba | apply zbn | apply zbd) | exact HB.out)))
       (case aF => exact (fun k_ hk => ⟨Kd.fresh' (Kd.R_lt (by (with_reducible repeat (first | apply Kd.R_alloc | apply Kd.R_drewN | apply Kd.R_drew)); exact HO_3.out)) k_ hk, Kd.fresh' (Kd.R_lt (by (with_reducible repeat (first | apply Kd.R_alloc | apply Kd.R_drewN | apply Kd.R_drew)); exact HO255.out)) k_ hk⟩))
       (case aO => exact (by (with_reducible repeat (first | apply Kd.R_alloc | apply Kd.R_drewN | apply Kd.R_drew)); exact Kd.R_mono HO251.out (fun _ hk => ⟨hk.2, hk.1⟩)))
       (case aS => exact (zbz (by repeat (first | (with_reducible first | exact HB.out | apply zba | apply zbn | apply zbd) | exact HB.out))))
       (case aL => have := LMc5.out; omega)
       intro v257 w14 ho hb hg hat
       rw [← Ny256.out] at ho
       have n0_ := Zs.mk (Kd.R_after (ok := (fun k_ => some k_ ≠ (.slice Ao15 y253.length co15 : Value).ownBlock)) (by (with_reducible repeat (first | apply Kd.R_alloc | apply Kd.R_drewN | apply Kd.R_drew)); exact Kd.R_mono HO_3.out (fun _ hk => ⟨hk.2, hk.1⟩)) hg hat)
       have n1_ := Zs.mk (Kd.R_after (ok := (fun k_ => some k_ ≠ (.slice Ao8 x3_1.length co8 : Value).ownBlock)) (by (with_reducible repeat (first | apply Kd.R_alloc | apply Kd.R_drewN | apply Kd.R_drew)); exact Kd.R_mono HO255.out (fun _ hk => ⟨hk.2, hk.1⟩)) hg hat)
       have n2_ := Zs.mk (hb)
       have n3_ := Zs.mk (ho)
       clear HO_3
       clear HO255
       clear HB
       clear HO251
       have HO_3 := n0_
       have HO255 := n1_
       have HB := n2_
       have HO258 := n3_
       clear n0_ n1_ n2_ n3_
       clear ho hb hg hat
       refine hK.out _ _ ⟨((HB.out.cell (zq4 w _ hw248_0)).trans hw248_0), ((HB.out.cell (zq4 w _ hw248_1)).trans hw248_1), ((HB.out.cell (zq4 w _ hw248_2)).trans hw248_2), ((HB.out.cell (zq4 w _ hw248_3)).trans hw248_3), ((HB.out.cell (zq4 w _ hw248_4)).trans hw248_4), ((HB.out.cell (zq4 w _ hw252_0)).trans hw252_0), ((HB.out.cell (zq4 w _ hw252_1)).trans hw252_1), ((HB.out.cell (zq4 w _ hw252_2)).trans hw252_2), ((HB.out.cell (zq4 w _ hw252_3)).trans hw252_3), ((HB.out.cell (zq4 w _ hw252_4)).trans hw252_4)⟩ (fun hHeld => ?_)
       clear hK K
       refine norm_ (a' := ?_) ?_ ?_
       rotate_left
       ·
        show Act.put _ (some 24) _ = _
        simp only [Act.put, zq1, zq2, zq3, i64_w, i32_w]
        rfl
       refine pure_ (i := 14) (N := some 3) (v := ?_) (a' := ?_) #[true, true, true, true, true, true, true, true, true, true, true, true, true, true, true] rfl rfl (any_of HT_.out (by kernel_rfl)) (fun _ _ _ h => h) (Or.inl ⟨by rfl, ?_⟩) ?_ ?_
       rotate_left
       ·
        intro w'
        go_simp
        with_reducible rfl
       rotate_left
       ·
        simp only [Act.put, zq1, zq2, zq3, i64_w, i32_w]
        rfl
       refine done_ (done_of HT_.out (by kernel_rfl)) ?_
       have p259 : 0 ≤ (x4_1 : Int) := of_decide_eq_true (by first | (with_reducible assumption) | assumption)
       have q259 : x4_1 < (l0.length : Int) := of_decide_eq_true (by first | (with_reducible assumption) | assumption)
       obtain ⟨ad259, A259_4, c259_4, e259, hx259_0, hx259_1, hx259_2, hx259_3, hx259_4, hl259_4, hi259_4⟩ := at_T24 HR0.out x4_1 p259 q259
       obtain rfl : ad248 = ad259 := (by injection e259)
       replace hx259_0 := (HB.out.cell (zq4 w _ hx259_0)).trans hx259_0
       replace hx259_1 := (HB.out.cell (zq4 w _ hx259_1)).trans hx259_1
       replace hx259_2 := (HB.out.cell (zq4 w _ hx259_2)).trans hx259_2
       replace hx259_3 := (HB.out.cell (zq4 w _ hx259_3)).trans hx259_3
       replace hx259_4 := (HB.out.cell (zq4 w _ hx259_4)).trans hx259_4
       have HR259_4 := Zs.mk hi259_4
       have HC259_4 := Zs.mk hl259_4
       clear hi259_4 hl259_4
       replace p259 := eq_true p259
       replace q259 := eq_true q259
       have p260 : 0 ≤ (x4_1 : Int) := of_decide_eq_true (by first | (with_reducible assumption) | assumption)
       have q260 : x4_1 < (l0.length : Int) := of_decide_eq_true (by first | (with_reducible assumption) | assumption)
       obtain ⟨ad260, A260_4, c260_4, e260, hx260_0, hx260_1, hx260_2, hx260_3, hx260_4, hl260_4, hi260_4⟩ := at_T24 HR0.out x4_1 p260 q260
       obtain rfl : ad248 = ad260 := (by injection e260)
       replace hx260_0 := (HB.out.cell (zq4 w _ hx260_0)).trans hx260_0
       replace hx260_1 := (HB.out.cell (zq4 w _ hx260_1)).trans hx260_1
       replace hx260_2 := (HB.out.cell (zq4 w _ hx260_2)).trans hx260_2
       replace hx260_3 := (HB.out.cell (zq4 w _ hx260_3)).trans hx260_3
       replace hx260_4 := (HB.out.cell (zq4 w _ hx260_4)).trans hx260_4
       have HR260_4 := Zs.mk hi260_4
       have HC260_4 := Zs.mk hl260_4
       clear hi260_4 hl260_4
       replace p260 := eq_true p260
       replace q260 := eq_true q260
       have ea_ := Option.some.inj (hx259_4.symm.trans hx260_4)
       injection ea_ with ea_ en_ ec_
       subst ea_
       subst ec_
       clear en_
       obtain ⟨Ao16, co16, eo16⟩ := Kd.R_slice HO258.out
       subst eo16
       try go_wp2_with (first | ((with_reducible refine gate_callee (f := 42) rfl ?_); refine goesL_ (some 39) rfl rfl Try.func42 (by kernel_rfl) rfl #[.slice Ao16 y256.length co16, .int .i64 1, .int .u64 (IntKind.u64.wrap ((rd_T24 l0 x4_1).f2))] rfl (by (try simp only [List.map_toArray, List.map_cons, List.map_nil]); first | done | rfl | (simp only [List.length_drop, List.length_take]; rfl)) ?_; (with_reducible refine (zfP.calls k1 _ _ y256 1 (IntKind.u64.wrap ((rd_T24 l0 x4_1).f2)) t261 _ ?side1 ?side2 A7.out).mono ?_); (case side1 => repeat (first | exact (Kd.R_reads' HO258.out).2.2 | (with_reducible refine Kd.C_alloc ?_ _) | (with_reducible refine Kd.C_drewN ?_ _) | (with_reducible refine Kd.C_drew ?_))); (case side2 => exact (Kd.R_reads' HO258.out).2.1); rintro e w17 ⟨v262, rfl, ho0, hb⟩; refine ⟨_, rfl, ?_⟩; have n0_ := Zs.mk (Kd.R_elder' (by (with_reducible repeat (first | apply Kd.R_alloc | apply Kd.R_drewN | apply Kd.R_drew)); exact HO_3.out) (Kd.R_base ho0) hb); have n1_ := Zs.mk (Kd.R_elder' (by (with_reducible repeat (first | apply Kd.R_alloc | apply Kd.R_drewN | apply Kd.R_drew)); exact HO255.out) (Kd.R_base ho0) hb); have n2_ := Zs.mk (Kd.R_elder' (by (with_reducible repeat (first | apply Kd.R_alloc | apply Kd.R_drewN | apply Kd.R_drew)); exact HO258.out) (Kd.R_base ho0) hb); have n3_ := Zs.mk (Kd.R_lower (Kd.R_new' (Kd.R_new' (Kd.R_new' ho0 (Kd.R_lt (by (with_reducible repeat (first | apply Kd.R_alloc | apply Kd.R_drewN | apply Kd.R_drew)); exact HO_3.out))) (Kd.R_lt (by (with_reducible repeat (first | apply Kd.R_alloc | apply Kd.R_drewN | apply Kd.R_drew)); exact HO255.out))) (Kd.R_lt (by (with_reducible repeat (first | apply Kd.R_alloc | apply Kd.R_drewN | apply Kd.R_drew)); exact HO258.out))) (zbz (by repeat (first | (with_reducible first | exact HB.out | apply zba | apply zbn | apply zbd) | exact HB.out)))); have n4_ := Zs.mk (zbt (by repeat (first | (with_reducible first | exact HB.out | apply zba | apply zbn | apply zbd) | exact HB.out)) hb); clear HO_3; clear HO255; clear HO258; clear HB; have HO_3 := n0_; have HO255 := n1_; have HO258 := n2_; have HO263 := n3_; have HB := n4_; clear n0_ n1_ n2_ n3_ n4_; (try clear hb); (try clear hb2); (try clear hk); (try clear hi); (try clear hge); (try clear ho0)))
       go_roundg k1
       case measure => have := HK1.out; omega
       case rel => exact ⟨(t261), (wrap64 (x4_1 + 1)), (by first | rfl | (simp; done) | (simp [*]; done)), H', ⟨by have := HK1.out; omega⟩, ⟨by (with_reducible repeat (first | apply Kd.R_alloc | apply Kd.R_drewN | apply Kd.R_drew)); exact Kd.R_mono HO263.out (fun _ hk => trivial)⟩, ⟨by repeat (first | (with_reducible first | exact HB.out | apply zba | apply zbn | apply zbd) | exact HB.out)⟩⟩
      rw [if_neg c6] at H
      have c6b0 : (((rd_T24 l0 x4_1).f1) == 116) = false := beq_eq_false_iff_ne.mpr c6
      have c6b1 : (((rd_T24 l0 x4_1).f1) != 116) = true := bne_iff_ne.mpr c6
      by_cases c18 : ((rd_T24 l0 x4_1).f1) = 73
      ·
       rw [if_pos c18] at H
       have c18b0 : (((rd_T24 l0 x4_1).f1) == 73) = true := beq_iff_eq.mpr c18
       have c18b1 : (((rd_T24 l0 x4_1).f1) != 73) = false := bne_eq_false_iff_eq.mpr c18
       clear c18
       replace H := Option.bind_eq_some_iff.mp H
       obtain ⟨t265, A190, H⟩ := H
       replace H : (zfw.l0 k1 l0 t265 (wrap64 (x4_1 + 1))) = some r := H
       have A19 := Zs.mk A190
       clear A190
       have H' := Zs.mk H
       clear H
       obtain ⟨Ao20, co20, eo20⟩ := Kd.R_slice HO_3.out
       subst eo20
       try go_wp2
       have n0_ := Zs.mk (Kd.R_drew HO_3.out)
       have n1_ := Zs.mk (zbd HB.out)
       clear HO_3
       clear HB
       have HO_3 := n0_
       have HB := n1_
       clear n0_ n1_
       have p248 : 0 ≤ (x4_1 : Int) := of_decide_eq_true (by first | (with_reducible assumption) | assumption)
       have q248 : x4_1 < (l0.length : Int) := of_decide_eq_true (by first | (with_reducible assumption) | assumption)
       obtain ⟨ad248, A248_4, c248_4, e248, hx248_0, hx248_1, hx248_2, hx248_3, hx248_4, hl248_4, hi248_4⟩ := at_T24 HR0.out x4_1 p248 q248
       have hw248_4 := hx248_4
       have hw248_3 := hx248_3
       have hw248_2 := hx248_2
       have hw248_1 := hx248_1
       have hw248_0 := hx248_0
       cases e248
       replace hx248_0 := (HB.out.cell (zq4 w _ hx248_0)).trans hx248_0
       replace hx248_1 := (HB.out.cell (zq4 w _ hx248_1)).trans hx248_1
       replace hx248_2 := (HB.out.cell (zq4 w _ hx248_2)).trans hx248_2
       replace hx248_3 := (HB.out.cell (zq4 w _ hx248_3)).trans hx248_3
       replace hx248_4 := (HB.out.cell (zq4 w _ hx248_4)).trans hx248_4
       have HR248_4 := Zs.mk hi248_4
       have HC248_4 := Zs.mk hl248_4
       clear hi248_4 hl248_4
       replace p248 := eq_true p248
       replace q248 := eq_true q248
       have p252 : 0 ≤ (x4_1 : Int) := of_decide_eq_true (by first | (with_reducible assumption) | assumption)
       have q252 : x4_1 < (l0.length : Int) := of_decide_eq_true (by first | (with_reducible assumption) | assumption)
       obtain ⟨ad252, A252_4, c252_4, e252, hx252_0, hx252_1, hx252_2, hx252_3, hx252_4, hl252_4, hi252_4⟩ := at_T24 HR0.out x4_1 p252 q252
       have hw252_4 := hx252_4
       have hw252_3 := hx252_3
       have hw252_2 := hx252_2
       have hw252_1 := hx252_1
       have hw252_0 := hx252_0
       obtain rfl : ad248 = ad252 := (by injection e252)
       replace hx252_0 := (HB.out.cell (zq4 w _ hx252_0)).trans hx252_0
       replace hx252_1 := (HB.out.cell (zq4 w _ hx252_1)).trans hx252_1
       replace hx252_2 := (HB.out.cell (zq4 w _ hx252_2)).trans hx252_2
       replace hx252_3 := (HB.out.cell (zq4 w _ hx252_3)).trans hx252_3
       replace hx252_4 := (HB.out.cell (zq4 w _ hx252_4)).trans hx252_4
       have HR252_4 := Zs.mk hi252_4
       have HC252_4 := Zs.mk hl252_4
       clear hi252_4 hl252_4
       replace p252 := eq_true p252
       replace q252 := eq_true q252
       have ea_ := Option.some.inj (hx248_4.symm.trans hx252_4)
       injection ea_ with ea_ en_ ec_
       subst ea_
       subst ec_
       clear en_
       refine start_ (n := 15) (S := fun w' => w'.cell? (ad248.add ((x4_1).toNat * 5)) = some (.string ((rd_T24 l0 x4_1).f0)) ∧ w'.cell? ⟨(ad248.add ((x4_1).toNat * 5)).block, (ad248.add ((x4_1).toNat * 5)).off + 1, none⟩ = some (.int .u8 ((rd_T24 l0 x4_1).f1)) ∧ w'.cell? ⟨(ad248.add ((x4_1).toNat * 5)).block, (ad248.add ((x4_1).toNat * 5)).off + 2, none⟩ = some (.int .i64 ((rd_T24 l0 x4_1).f2)) ∧ w'.cell? ⟨(ad248.add ((x4_1).toNat * 5)).block, (ad248.add ((x4_1).toNat * 5)).off + 3, none⟩ = some (.string ((rd_T24 l0 x4_1).f3)) ∧ w'.cell? ⟨(ad248.add ((x4_1).toNat * 5)).block, (ad248.add ((x4_1).toNat * 5)).off + 4, none⟩ = some (.slice A248_4 ((rd_T24 l0 x4_1).f4).length c248_4) ∧ w'.cell? (ad248.add ((x4_1).toNat * 5)) = some (.string ((rd_T24 l0 x4_1).f0)) ∧ w'.cell? ⟨(ad248.add ((x4_1).toNat * 5)).block, (ad248.add ((x4_1).toNat * 5)).off + 1, none⟩ = some (.int .u8 ((rd_T24 l0 x4_1).f1)) ∧ w'.cell? ⟨(ad248.add ((x4_1).toNat * 5)).block, (ad248.add ((x4_1).toNat * 5)).off + 2, none⟩ = some (.int .i64 ((rd_T24 l0 x4_1).f2)) ∧ w'.cell? ⟨(ad248.add ((x4_1).toNat * 5)).block, (ad248.add ((x4_1).toNat * 5)).off + 3, none⟩ = some (.string ((rd_T24 l0 x4_1).f3)) ∧ w'.cell? ⟨(ad248.add ((x4_1).toNat * 5)).block, (ad248.add ((x4_1).toNat * 5)).off + 4, none⟩ = some (.slice A248_4 ((rd_T24 l0 x4_1).f4).length c248_4)) (ds := []) #[false, false, false, false, false, false, false, false, false, false, false, false, false, false, false] (by kernel_rfl) rfl rfl ⟨((HB.out.cell (zq4 w _ hw248_0)).trans hw248_0), ((HB.out.cell (zq4 w _ hw248_1)).trans hw248_1), ((HB.out.cell (zq4 w _ hw248_2)).trans hw248_2), ((HB.out.cell (zq4 w _ hw248_3)).trans hw248_3), ((HB.out.cell (zq4 w _ hw248_4)).trans hw248_4), ((HB.out.cell (zq4 w _ hw252_0)).trans hw252_0), ((HB.out.cell (zq4 w _ hw252_1)).trans hw252_1), ((HB.out.cell (zq4 w _ hw252_2)).trans hw252_2), ((HB.out.cell (zq4 w _ hw252_3)).trans hw252_3), ((HB.out.cell (zq4 w _ hw252_4)).trans hw252_4)⟩ (fun hHeld => ?_); refine with_tabW zfw.tab5 zfw.bits5 (fun HT_ HW_ => ?_)
       generalize wr.drew = w21 at HO_3 HB HR248_4 HR252_4 hx248_0 hx248_1 hx248_2 hx248_3 hx248_4 hx252_0 hx252_1 hx252_2 hx252_3 hx252_4 hHeld ⊢
       refine pure_ (i := 0) (N := some 11) (v := ?_) (a' := ?_) #[true, false, false, false, false, false, false, false, false, false, false, false, false, false, false] rfl rfl (any_of HT_.out (by kernel_rfl)) (fun _ _ _ h => h) (Or.inl ⟨by rfl, ?_⟩) ?_ ?_
       rotate_left
       ·
        intro w'
        go_simp
        with_reducible rfl
       rotate_left
       ·
        simp only [Act.put, zq1, zq2, zq3, i64_w, i32_w]
        rfl
       refine pure_ (i := 1) (N := some 12) (v := ?_) (a' := ?_) #[true, true, false, false, false, false, false, false, false, false, false, false, false, false, false] rfl rfl (any_of HT_.out (by kernel_rfl)) (fun _ _ _ h => h) (Or.inl ⟨by rfl, ?_⟩) ?_ ?_
       rotate_left
       ·
        intro w'
        go_simp
        with_reducible rfl
       rotate_left
       ·
        simp only [Act.put, zq1, zq2, zq3, i64_w, i32_w]
        rfl
       refine pure_ (i := 2) (N := some 13) (v := ?_) (a' := ?_) #[true, true, true, false, false, false, false, false, false, false, false, false, false, false, false] rfl rfl (any_of HT_.out (by kernel_rfl)) (fun _ _ _ h => h) (Or.inl ⟨by rfl, ?_⟩) ?_ ?_
       rotate_left
       ·
        intro w'
        go_simp
        with_reducible rfl
       rotate_left
       ·
        simp only [Act.put, zq1, zq2, zq3, i64_w, i32_w]
        rfl
       refine pure_ (i := 3) (N := some 14) (v := ?_) (a' := ?_) #[true, true, true, true, false, false, false, false, false, false, false, false, false, false, false] rfl rfl (any_of HT_.out (by kernel_rfl)) (fun _ _ _ h => h) (Or.inl ⟨by rfl, ?_⟩) ?_ ?_
       rotate_left
       ·
        intro w'
        go_simp
        with_reducible rfl
       rotate_left
       ·
        simp only [Act.put, zq1, zq2, zq3, i64_w, i32_w]
        rfl
       refine pure_ (i := 4) (N := some 15) (v := ?_) (a' := ?_) #[true, true, true, true, true, false, false, false, false, false, false, false, false, false, false] rfl rfl (any_of HT_.out (by kernel_rfl)) (fun _ _ _ h => h) (Or.inl ⟨by rfl, ?_⟩) ?_ ?_
       rotate_left
       ·
        intro w'
        go_simp
        with_reducible rfl
       rotate_left
       ·
        simp only [Act.put, zq1, zq2, zq3, i64_w, i32_w]
        rfl
       refine pure_ (i := 7) (N := some 18) (v := ?_) (a' := ?_) #[true, true, true, true, true, false, false, true, false, false, false, false, false, false, false] rfl rfl (any_of HT_.out (by kernel_rfl)) (fun _ _ _ h => h) (Or.inl ⟨by rfl, ?_⟩) ?_ ?_
       rotate_left
       ·
        intro w'
        go_simp
        with_reducible rfl
       rotate_left
       ·
        simp only [Act.put, zq1, zq2, zq3, i64_w, i32_w]
        rfl
       refine pure_ (i := 8) (N := some 19) (v := ?_) (a' := ?_) #[true, true, true, true, true, false, false, true, true, false, false, false, false, false, false] rfl rfl (any_of HT_.out (by kernel_rfl)) (fun _ _ _ h => h) (Or.inl ⟨by rfl, ?_⟩) ?_ ?_
       rotate_left
       ·
        intro w'
        go_simp
        with_reducible rfl
       rotate_left
       ·
        simp only [Act.put, zq1, zq2, zq3, i64_w, i32_w]
        rfl
       refine pure_ (i := 9) (N := some 20) (v := ?_) (a' := ?_) #[true, true, true, true, true, false, false, true, true, true, false, false, false, false, false] rfl rfl (any_of HT_.out (by kernel_rfl)) (fun _ _ _ h => h) (Or.inl ⟨by rfl, ?_⟩) ?_ ?_
       rotate_left
       ·
        intro w'
        go_simp
        with_reducible rfl
       rotate_left
       ·
        simp only [Act.put, zq1, zq2, zq3, i64_w, i32_w]
        rfl
       refine pure_ (i := 10) (N := some 21) (v := ?_) (a' := ?_) #[true, true, true, true, true, false, false, true, true, true, true, false, false, false, false] rfl rfl (any_of HT_.out (by kernel_rfl)) (fun _ _ _ h => h) (Or.inl ⟨by rfl, ?_⟩) ?_ ?_
       rotate_left
       ·
        intro w'
        go_simp
        with_reducible rfl
       rotate_left
       ·
        simp only [Act.put, zq1, zq2, zq3, i64_w, i32_w]
        rfl
       refine take_ (i := 5) (N := some 16) (v := ?_) (a' := ?_) #[true, true, true, true, true, true, false, true, true, true, true, false, false, false, false] rfl rfl (take_ofW HT_.out HW_.out (by kernel_rfl)) (fun _ _ _ h => h) (Or.inl ⟨by rfl, ?_⟩) hHeld ?_ ?_
       rotate_left
       ·
        rintro w' ⟨s0, s1, s2, s3, s4, s5, s6, s7, s8, s9⟩
        go_simp
        with_reducible rfl
       rotate_left
       ·
        simp only [Act.put, zq1, zq2, zq3, i64_w, i32_w]
        rfl
       refine take_ (i := 11) (N := some 22) (v := ?_) (a' := ?_) #[true, true, true, true, true, true, false, true, true, true, true, true, false, false, false] rfl rfl (take_ofW HT_.out HW_.out (by kernel_rfl)) (fun _ _ _ h => h) (Or.inl ⟨by rfl, ?_⟩) hHeld ?_ ?_
       rotate_left
       ·
        rintro w' ⟨s0, s1, s2, s3, s4, s5, s6, s7, s8, s9⟩
        go_simp
        with_reducible rfl
       rotate_left
       ·
        simp only [Act.put, zq1, zq2, zq3, i64_w, i32_w]
        rfl
       refine join_ (σ := Value × Value) 2 #[true, true, true, true, true, true, true, true, true, true, true, true, true, false, false] (fun s_ => [(17, s_.1), (23, s_.2)]) (fun s_ w' => (w'.cell? (ad248.add ((x4_1).toNat * 5)) = some (.string ((rd_T24 l0 x4_1).f0)) ∧ w'.cell? ⟨(ad248.add ((x4_1).toNat * 5)).block, (ad248.add ((x4_1).toNat * 5)).off + 1, none⟩ = some (.int .u8 ((rd_T24 l0 x4_1).f1)) ∧ w'.cell? ⟨(ad248.add ((x4_1).toNat * 5)).block, (ad248.add ((x4_1).toNat * 5)).off + 2, none⟩ = some (.int .i64 ((rd_T24 l0 x4_1).f2)) ∧ w'.cell? ⟨(ad248.add ((x4_1).toNat * 5)).block, (ad248.add ((x4_1).toNat * 5)).off + 3, none⟩ = some (.string ((rd_T24 l0 x4_1).f3)) ∧ w'.cell? ⟨(ad248.add ((x4_1).toNat * 5)).block, (ad248.add ((x4_1).toNat * 5)).off + 4, none⟩ = some (.slice A248_4 ((rd_T24 l0 x4_1).f4).length c248_4) ∧ w'.cell? (ad248.add ((x4_1).toNat * 5)) = some (.string ((rd_T24 l0 x4_1).f0)) ∧ w'.cell? ⟨(ad248.add ((x4_1).toNat * 5)).block, (ad248.add ((x4_1).toNat * 5)).off + 1, none⟩ = some (.int .u8 ((rd_T24 l0 x4_1).f1)) ∧ w'.cell? ⟨(ad248.add ((x4_1).toNat * 5)).block, (ad248.add ((x4_1).toNat * 5)).off + 2, none⟩ = some (.int .i64 ((rd_T24 l0 x4_1).f2)) ∧ w'.cell? ⟨(ad248.add ((x4_1).toNat * 5)).block, (ad248.add ((x4_1).toNat * 5)).off + 3, none⟩ = some (.string ((rd_T24 l0 x4_1).f3)) ∧ w'.cell? ⟨(ad248.add ((x4_1).toNat * 5)).block, (ad248.add ((x4_1).toNat * 5)).off + 4, none⟩ = some (.slice A248_4 ((rd_T24 l0 x4_1).f4).length c248_4)) ∧ (Kd.R (Kd.int .u8) 5 w' w.heap.size (fun k_ => some k_ ≠ (s_.2 : Value).ownBlock ∧ some k_ ≠ (.slice Ao20 x3_1.length co20 : Value).ownBlock) s_.1 t249) ∧ (Kd.R (Kd.int .u8) 5 w' w.heap.size (fun k_ => some k_ ≠ (s_.1 : Value).ownBlock ∧ some k_ ≠ (.slice Ao20 x3_1.length co20 : Value).ownBlock) s_.2 y253) ∧ (Kd.R (Kd.int .u8) 5 w' w.heap.size (fun k_ => some k_ ≠ (s_.1 : Value).ownBlock ∧ some k_ ≠ (s_.2 : Value).ownBlock) (.slice Ao20 x3_1.length co20) x3_1) ∧ (Below w.heap.size w w')) ?_ ?_
       rotate_left
       ·
        intro hCont
        refine two_ (i := 6) (j := 12) (Ni := some 17) (Nj := some 23) #[true, true, true, true, true, true, true, true, true, true, true, true, false, false, false] #[true, true, true, true, true, true, false, true, true, true, true, true, true, false, false] rfl rfl rfl rfl (two_of HT_.out (by kernel_rfl)) (by decide) (by decide) (fun K hK => ?_) (fun K hK => ?_)
        ·
         skip
         refine goes_ Try.func43 (by kernel_rfl) rfl #[.slice Ao20 x3_1.length co20, .string ((rd_T24 l0 x4_1).f0)] (by rfl) rfl rfl (by (try simp only [List.map_toArray, List.map_cons, List.map_nil]); first | done | rfl | (simp only [List.length_drop, List.length_take]; rfl)) ?_
         with_reducible refine (waybillref1_Short.calls k1 _ _ x3_1 ((rd_T24 l0 x4_1).f0) t249 _ ?side1 ?side2 A4.out).mono ?_
         (case side1 => repeat (first | exact (Kd.R_reads' HO_3.out).2.2 | (with_reducible refine Kd.C_alloc ?_ _) | (with_reducible refine Kd.C_drewN ?_ _) | (with_reducible refine Kd.C_drew ?_)))
         (case side2 => exact (Kd.R_reads' HO_3.out).2.1)
         rintro e w22 ⟨v250, rfl, ho0, hb⟩
         refine ⟨_, rfl, ?_⟩
         have n0_ := Zs.mk (Kd.R_elder' (by (with_reducible repeat (first | apply Kd.R_alloc | apply Kd.R_drewN | apply Kd.R_drew)); exact HO_3.out) (Kd.R_base ho0) hb)
         have n1_ := Zs.mk (Kd.R_lower (Kd.R_new' ho0 (Kd.R_lt (by (with_reducible repeat (first | apply Kd.R_alloc | apply Kd.R_drewN | apply Kd.R_drew)); exact HO_3.out))) (zbz (by repeat (first | (with_reducible first | exact HB.out | apply zba | apply zbn | apply zbd) | exact HB.out))))
         have n2_ := Zs.mk (zbt (by repeat (first | (with_reducible first | exact HB.out | apply zba | apply zbn | apply zbd) | exact HB.out)) hb)
         clear HO_3
         clear HB
         have HO_3 := n0_
         have HO251 := n1_
         have HB := n2_
         clear n0_ n1_ n2_
         (try clear hb)
         (try clear hb2)
         (try clear hk)
         (try clear hi)
         (try clear hge)
         (try clear ho0)
         refine hK.out _ _ ⟨((HB.out.cell (zq4 w _ hw248_0)).trans hw248_0), ((HB.out.cell (zq4 w _ hw248_1)).trans hw248_1), ((HB.out.cell (zq4 w _ hw248_2)).trans hw248_2), ((HB.out.cell (zq4 w _ hw248_3)).trans hw248_3), ((HB.out.cell (zq4 w _ hw248_4)).trans hw248_4), ((HB.out.cell (zq4 w _ hw252_0)).trans hw252_0), ((HB.out.cell (zq4 w _ hw252_1)).trans hw252_1), ((HB.out.cell (zq4 w _ hw252_2)).trans hw252_2), ((HB.out.cell (zq4 w _ hw252_3)).trans hw252_3), ((HB.out.cell (zq4 w _ hw252_4)).trans hw252_4)⟩ (fun hHeld => ?_)
         clear hK K
         refine norm_ (a' := ?_) ?_ ?_
         rotate_left
         ·
          show Act.put _ (some 17) _ = _
          simp only [Act.put, zq1, zq2, zq3, i64_w, i32_w]
          rfl
         refine one_ (i := 12) (N := some 23) #[true, true, true, true, true, true, true, true, true, true, true, true, true, false, false] rfl rfl (one_of HT_.out (by kernel_rfl)) (by decide) (fun K hK => ?_)
         refine Kd.R_lit_step (Kd.int .u8) _ 5 ?hg (N := 23) ?hd (xs := ([(rd_T24 l0 x4_1).f1] : List Int)) (inner := [.int .u8 ((rd_T24 l0 x4_1).f1)]) (ok := fun _ => True) (okp := fun _ => True) ?hr ?hp (fun _ hk => hk) trivial (Below.refl _ _) (Nat.le_refl _) (by simp) ?_; (case hd => rfl); (case hg => rfl); (case hr => first | (go_simp; done) | (go_simp; rfl)); (case hp => exact (Reps.one (show Kd.M (Kd.int .u8) _ _ _ ((rd_T24 l0 x4_1).f1) [.int .u8 ((rd_T24 l0 x4_1).f1)] from rfl) (Reps.none _ _)))
         intro v254 w23 ho24 hb hg_ hnew_
         clear hg_ hnew_
         (first | rw [← Ny253.out] at ho24 | (simp only [Int.reduceToNat] at ho24; rw [← Ny253.out] at ho24))
         have n0_ := Zs.mk (Kd.R_elder' (by (with_reducible repeat (first | apply Kd.R_alloc | apply Kd.R_drewN | apply Kd.R_drew)); exact HO_3.out) (Kd.R_base ho24) hb)
         have n1_ := Zs.mk (Kd.R_elder' (by (with_reducible repeat (first | apply Kd.R_alloc | apply Kd.R_drewN | apply Kd.R_drew)); exact HO251.out) (Kd.R_base ho24) hb)
         have n2_ := Zs.mk (Kd.R_lower (Kd.R_new' (Kd.R_new' ho24 (Kd.R_lt (by (with_reducible repeat (first | apply Kd.R_alloc | apply Kd.R_drewN | apply Kd.R_drew)); exact HO_3.out))) (Kd.R_lt (by (with_reducible repeat (first | apply Kd.R_alloc | apply Kd.R_drewN | apply Kd.R_drew)); exact HO251.out))) (zbz (by repeat (first | (with_reducible first | exact HB.out | apply zba | apply zbn | apply zbd) | exact HB.out))))
         have n3_ := Zs.mk (zbt (by repeat (first | (with_reducible first | exact HB.out | apply zba | apply zbn | apply zbd) | exact HB.out)) hb)
         clear HO_3
         clear HO251
         clear HB
         have HO_3 := n0_
         have HO251 := n1_
         have HO255 := n2_
         have HB := n3_
         clear n0_ n1_ n2_ n3_
         clear hb ho24
         refine hK.out _ _ ⟨((HB.out.cell (zq4 w _ hw248_0)).trans hw248_0), ((HB.out.cell (zq4 w _ hw248_1)).trans hw248_1), ((HB.out.cell (zq4 w _ hw248_2)).trans hw248_2), ((HB.out.cell (zq4 w _ hw248_3)).trans hw248_3), ((HB.out.cell (zq4 w _ hw248_4)).trans hw248_4), ((HB.out.cell (zq4 w _ hw252_0)).trans hw252_0), ((HB.out.cell (zq4 w _ hw252_1)).trans hw252_1), ((HB.out.cell (zq4 w _ hw252_2)).trans hw252_2), ((HB.out.cell (zq4 w _ hw252_3)).trans hw252_3), ((HB.out.cell (zq4 w _ hw252_4)).trans hw252_4)⟩ (fun hHeld => ?_)
         clear hK K
         refine norm_ (a' := ?_) ?_ ?_
         rotate_left
         ·
          show Act.put _ (some 23) _ = _
          simp only [Act.put, zq1, zq2, zq3, i64_w, i32_w]
          rfl
         exact norm_ (by simp only [putAll, Act.put, zq1, zq2, zq3]) (hCont (v250, v254) _ ⟨hHeld, (by (with_reducible repeat (first | apply Kd.R_alloc | apply Kd.R_drewN | apply Kd.R_drew)); exact Kd.R_mono HO251.out (fun _ hk => ⟨hk.2, hk.1.2⟩)), (by (with_reducible repeat (first | apply Kd.R_alloc | apply Kd.R_drewN | apply Kd.R_drew)); exact Kd.R_mono HO255.out (fun _ hk => ⟨hk.2, hk.1.2⟩)), (by (with_reducible repeat (first | apply Kd.R_alloc | apply Kd.R_drewN | apply Kd.R_drew)); exact Kd.R_mono HO_3.out (fun _ hk => ⟨hk.1.2, hk.2⟩)), (by repeat (first | (with_reducible first | exact HB.out | apply zba | apply zbn | apply zbd) | exact HB.out))⟩)
        skip
        refine Kd.R_lit_step (Kd.int .u8) _ 5 ?hg (N := 23) ?hd (xs := ([(rd_T24 l0 x4_1).f1] : List Int)) (inner := [.int .u8 ((rd_T24 l0 x4_1).f1)]) (ok := fun _ => True) (okp := fun _ => True) ?hr ?hp (fun _ hk => hk) trivial (Below.refl _ _) (Nat.le_refl _) (by simp) ?_; (case hd => rfl); (case hg => rfl); (case hr => first | (go_simp; done) | (go_simp; rfl)); (case hp => exact (Reps.one (show Kd.M (Kd.int .u8) _ _ _ ((rd_T24 l0 x4_1).f1) [.int .u8 ((rd_T24 l0 x4_1).f1)] from rfl) (Reps.none _ _)))
        intro v254 w22 ho23 hb hg_ hnew_
        clear hg_ hnew_
        (first | rw [← Ny253.out] at ho23 | (simp only [Int.reduceToNat] at ho23; rw [← Ny253.out] at ho23))
        have n0_ := Zs.mk (Kd.R_elder' (by (with_reducible repeat (first | apply Kd.R_alloc | apply Kd.R_drewN | apply Kd.R_drew)); exact HO_3.out) (Kd.R_base ho23) hb)
        have n1_ := Zs.mk (Kd.R_lower (Kd.R_new' ho23 (Kd.R_lt (by (with_reducible repeat (first | apply Kd.R_alloc | apply Kd.R_drewN | apply Kd.R_drew)); exact HO_3.out))) (zbz (by repeat (first | (with_reducible first | exact HB.out | apply zba | apply zbn | apply zbd) | exact HB.out))))
        have n2_ := Zs.mk (zbt (by repeat (first | (with_reducible first | exact HB.out | apply zba | apply zbn | apply zbd) | exact HB.out)) hb)
        clear HO_3
        clear HB
        have HO_3 := n0_
        have HO255 := n1_
        have HB := n2_
        clear n0_ n1_ n2_
        clear hb ho23
        refine hK.out _ _ ⟨((HB.out.cell (zq4 w _ hw248_0)).trans hw248_0), ((HB.out.cell (zq4 w _ hw248_1)).trans hw248_1), ((HB.out.cell (zq4 w _ hw248_2)).trans hw248_2), ((HB.out.cell (zq4 w _ hw248_3)).trans hw248_3), ((HB.out.cell (zq4 w _ hw248_4)).trans hw248_4), ((HB.out.cell (zq4 w _ hw252_0)).trans hw252_0), ((HB.out.cell (zq4 w _ hw252_1)).trans hw252_1), ((HB.out.cell (zq4 w _ hw252_2)).trans hw252_2), ((HB.out.cell (zq4 w _ hw252_3)).trans hw252_3), ((HB.out.cell (zq4 w _ hw252_4)).trans hw252_4)⟩ (fun hHeld => ?_)
        clear hK K
        refine norm_ (a' := ?_) ?_ ?_
        rotate_left
        ·
         show Act.put _ (some 23) _ = _
         simp only [Act.put, zq1, zq2, zq3, i64_w, i32_w]
         rfl
        refine one_ (i := 6) (N := some 17) #[true, true, true, true, true, true, true, true, true, true, true, true, true, false, false] rfl rfl (one_of HT_.out (by kernel_rfl)) (by decide) (fun K hK => ?_)
        refine goes_ Try.func43 (by kernel_rfl) rfl #[.slice Ao20 x3_1.length co20, .string ((rd_T24 l0 x4_1).f0)] (by rfl) rfl rfl (by (try simp only [List.map_toArray, List.map_cons, List.map_nil]); first | done | rfl | (simp only [List.length_drop, List.length_take]; rfl)) ?_
        with_reducible refine (waybillref1_Short.calls k1 _ _ x3_1 ((rd_T24 l0 x4_1).f0) t249 _ ?side1 ?side2 A4.out).mono ?_
        (case side1 => repeat (first | exact (Kd.R_reads' HO_3.out).2.2 | (with_reducible refine Kd.C_alloc ?_ _) | (with_reducible refine Kd.C_drewN ?_ _) | (with_reducible refine Kd.C_drew ?_)))
        (case side2 => exact (Kd.R_reads' HO_3.out).2.1)
        rintro e w24 ⟨v250, rfl, ho0, hb⟩
        refine ⟨_, rfl, ?_⟩
        have n0_ := Zs.mk (Kd.R_elder' (by (with_reducible repeat (first | apply Kd.R_alloc | apply Kd.R_drewN | apply Kd.R_drew)); exact HO_3.out) (Kd.R_base ho0) hb)
        have n1_ := Zs.mk (Kd.R_elder' (by (with_reducible repeat (first | apply Kd.R_alloc | apply Kd.R_drewN | apply Kd.R_drew)); exact HO255.out) (Kd.R_base ho0) hb)
        have n2_ := Zs.mk (Kd.R_lower (Kd.R_new' (Kd.R_new' ho0 (Kd.R_lt (by (with_reducible repeat (first | apply Kd.R_alloc | apply Kd.R_drewN | apply Kd.R_drew)); exact HO_3.out))) (Kd.R_lt (by (with_reducible repeat (first | apply Kd.R_alloc | apply Kd.R_drewN | apply Kd.R_drew)); exact HO255.out))) (zbz (by repeat (first | (with_reducible first | exact HB.out | apply zba | apply zbn | apply zbd) | exact HB.out))))
        have n3_ := Zs.mk (zbt (by repeat (first | (with_reducible first | exact HB.out | apply zba | apply zbn | apply zbd) | exact HB.out)) hb)
        clear HO_3
        clear HO255
        clear HB
        have HO_3 := n0_
        have HO255 := n1_
        have HO251 := n2_
        have HB := n3_
        clear n0_ n1_ n2_ n3_
        (try clear hb)
        (try clear hb2)
        (try clear hk)
        (try clear hi)
        (try clear hge)
        (try clear ho0)
        refine hK.out _ _ ⟨((HB.out.cell (zq4 w _ hw248_0)).trans hw248_0), ((HB.out.cell (zq4 w _ hw248_1)).trans hw248_1), ((HB.out.cell (zq4 w _ hw248_2)).trans hw248_2), ((HB.out.cell (zq4 w _ hw248_3)).trans hw248_3), ((HB.out.cell (zq4 w _ hw248_4)).trans hw248_4), ((HB.out.cell (zq4 w _ hw252_0)).trans hw252_0), ((HB.out.cell (zq4 w _ hw252_1)).trans hw252_1), ((HB.out.cell (zq4 w _ hw252_2)).trans hw252_2), ((HB.out.cell (zq4 w _ hw252_3)).trans hw252_3), ((HB.out.cell (zq4 w _ hw252_4)).trans hw252_4)⟩ (fun hHeld => ?_)
        clear hK K
        refine norm_ (a' := ?_) ?_ ?_
        rotate_left
        ·
         show Act.put _ (some 17) _ = _
         simp only [Act.put, zq1, zq2, zq3, i64_w, i32_w]
         rfl
        exact norm_ (by simp only [putAll, Act.put, zq1, zq2, zq3]) (hCont (v250, v254) _ ⟨hHeld, (by (with_reducible repeat (first | apply Kd.R_alloc | apply Kd.R_drewN | apply Kd.R_drew)); exact Kd.R_mono HO251.out (fun _ hk => ⟨hk.2, hk.1.2⟩)), (by (with_reducible repeat (first | apply Kd.R_alloc | apply Kd.R_drewN | apply Kd.R_drew)); exact Kd.R_mono HO255.out (fun _ hk => ⟨hk.2, hk.1.2⟩)), (by (with_reducible repeat (first | apply Kd.R_alloc | apply Kd.R_drewN | apply Kd.R_drew)); exact Kd.R_mono HO_3.out (fun _ hk => ⟨hk.2, hk.1.2⟩)), (by repeat (first | (with_reducible first | exact HB.out | apply zba | apply zbn | apply zbd) | exact HB.out))⟩)
       rintro ⟨v250, v254⟩ w25 ⟨hS_, h0_, h1_, h2_, h3_⟩
       have n0_ : Zs (Kd.R (Kd.int .u8) 5 w25 w.heap.size (fun k_ => some k_ ≠ (v254 : Value).ownBlock ∧ some k_ ≠ (.slice Ao20 x3_1.length co20 : Value).ownBlock) v250 t249) := ⟨h0_⟩
       have n1_ : Zs (Kd.R (Kd.int .u8) 5 w25 w.heap.size (fun k_ => some k_ ≠ (v250 : Value).ownBlock ∧ some k_ ≠ (.slice Ao20 x3_1.length co20 : Value).ownBlock) v254 y253) := ⟨h1_⟩
       have n2_ : Zs (Kd.R (Kd.int .u8) 5 w25 w.heap.size (fun k_ => some k_ ≠ (v250 : Value).ownBlock ∧ some k_ ≠ (v254 : Value).ownBlock) (.slice Ao20 x3_1.length co20) x3_1) := ⟨h2_⟩
       have n3_ : Zs (Below w.heap.size w w25) := ⟨h3_⟩
       clear HO_3
       clear HB
       clear h0_ h1_ h2_ h3_
       have HO251 := n0_
       have HO255 := n1_
       have HO_3 := n2_
       have HB := n3_
       clear n0_ n1_ n2_ n3_
       have hHeld : w25.cell? (ad248.add ((x4_1).toNat * 5)) = some (.string ((rd_T24 l0 x4_1).f0)) ∧ w25.cell? ⟨(ad248.add ((x4_1).toNat * 5)).block, (ad248.add ((x4_1).toNat * 5)).off + 1, none⟩ = some (.int .u8 ((rd_T24 l0 x4_1).f1)) ∧ w25.cell? ⟨(ad248.add ((x4_1).toNat * 5)).block, (ad248.add ((x4_1).toNat * 5)).off + 2, none⟩ = some (.int .i64 ((rd_T24 l0 x4_1).f2)) ∧ w25.cell? ⟨(ad248.add ((x4_1).toNat * 5)).block, (ad248.add ((x4_1).toNat * 5)).off + 3, none⟩ = some (.string ((rd_T24 l0 x4_1).f3)) ∧ w25.cell? ⟨(ad248.add ((x4_1).toNat * 5)).block, (ad248.add ((x4_1).toNat * 5)).off + 4, none⟩ = some (.slice A248_4 ((rd_T24 l0 x4_1).f4).length c248_4) ∧ w25.cell? (ad248.add ((x4_1).toNat * 5)) = some (.string ((rd_T24 l0 x4_1).f0)) ∧ w25.cell? ⟨(ad248.add ((x4_1).toNat * 5)).block, (ad248.add ((x4_1).toNat * 5)).off + 1, none⟩ = some (.int .u8 ((rd_T24 l0 x4_1).f1)) ∧ w25.cell? ⟨(ad248.add ((x4_1).toNat * 5)).block, (ad248.add ((x4_1).toNat * 5)).off + 2, none⟩ = some (.int .i64 ((rd_T24 l0 x4_1).f2)) ∧ w25.cell? ⟨(ad248.add ((x4_1).toNat * 5)).block, (ad248.add ((x4_1).toNat * 5)).off + 3, none⟩ = some (.string ((rd_T24 l0 x4_1).f3)) ∧ w25.cell? ⟨(ad248.add ((x4_1).toNat * 5)).block, (ad248.add ((x4_1).toNat * 5)).off + 4, none⟩ = some (.slice A248_4 ((rd_T24 l0 x4_1).f4).length c248_4) := hS_
       obtain ⟨Ao27, co27, eo27⟩ := Kd.R_slice HO255.out
       (first | subst eo27 | (injection eo27 with f1_ f2_ f3_; have f4_ := f1_.symm; have f5_ := f3_.symm; clear f1_ f2_ f3_; subst f4_; subst f5_))
       refine norm_ (a' := ?_) ?_ ?_
       rotate_left
       ·
        simp only [putAll, Act.put, zq1, zq2, zq3]
        rfl
       refine one_ (i := 13) (N := some 24) #[true, true, true, true, true, true, true, true, true, true, true, true, true, true, false] rfl rfl (one_of HT_.out (by kernel_rfl)) (by decide) (fun K hK => ?_)
       refine Kd.R_append_rows_step (Kd.int .u8) (w0 := w) w.heap.size (by rfl) (.tmp 17) (.tmp 23) 25 5 (.int .u8 0) 1 rfl Try.underlying25 info5 rfl (by decide) (by omega) v250 t249 y253 _ _ _ (fun k_ => some k_ ≠ (.slice Ao20 x3_1.length co20 : Value).ownBlock ∧ some k_ ≠ (.slice Ao27 y253.length co27 : Value).ownBlock) (fun _ => False) rfl rfl ?aO ?aR (fun _ _ h => h) (fun _ h => h.elim) ?aF ?aB ?aS ?aL ?_
       (case aR => repeat (first | exact (Kd.R_reads' HO255.out).2.2 | (with_reducible refine Kd.C_alloc ?_ _) | (with_reducible refine Kd.C_drewN ?_ _) | (with_reducible refine Kd.C_drew ?_)))
       (case aB => exact (by repeat (first | (with_reducible first | exact HB.out | apply zba | apply zbn | apply zbd) | exact HB.out)))
       (case aF => exact (fun k_ hk => ⟨Kd.fresh' (Kd.R_lt (by (with_reducible repeat (first | apply Kd.R_alloc | apply Kd.R_drewN | apply Kd.R_drew)); exact HO_3.out)) k_ hk, Kd.fresh' (Kd.R_lt (by (with_reducible repeat (first | apply Kd.R_alloc | apply Kd.R_drewN | apply Kd.R_drew)); exact HO255.out)) k_ hk⟩))
       (case aO => exact (by (with_reducible repeat (first | apply Kd.R_alloc | apply Kd.R_drewN | apply Kd.R_drew)); exact Kd.R_mono HO251.out (fun _ hk => ⟨hk.2, hk.1⟩)))
       (case aS => exact (zbz (by repeat (first | (with_reducible first | exact HB.out | apply zba | apply zbn | apply zbd) | exact HB.out))))
       (case aL => have := LMc5.out; omega)
       intro v257 w26 ho hb hg hat
       rw [← Ny256.out] at ho
       have n0_ := Zs.mk (Kd.R_after (ok := (fun k_ => some k_ ≠ (.slice Ao27 y253.length co27 : Value).ownBlock)) (by (with_reducible repeat (first | apply Kd.R_alloc | apply Kd.R_drewN | apply Kd.R_drew)); exact Kd.R_mono HO_3.out (fun _ hk => ⟨hk.2, hk.1⟩)) hg hat)
       have n1_ := Zs.mk (Kd.R_after (ok := (fun k_ => some k_ ≠ (.slice Ao20 x3_1.length co20 : Value).ownBlock)) (by (with_reducible repeat (first | apply Kd.R_alloc | apply Kd.R_drewN | apply Kd.R_drew)); exact Kd.R_mono HO255.out (fun _ hk => ⟨hk.2, hk.1⟩)) hg hat)
       have n2_ := Zs.mk (hb)
       have n3_ := Zs.mk (ho)
       clear HO_3
       clear HO255
       clear HB
       clear HO251
       have HO_3 := n0_
       have HO255 := n1_
       have HB := n2_
       have HO258 := n3_
       clear n0_ n1_ n2_ n3_
       clear ho hb hg hat
       refine hK.out _ _ ⟨((HB.out.cell (zq4 w _ hw248_0)).trans hw248_0), ((HB.out.cell (zq4 w _ hw248_1)).trans hw248_1), ((HB.out.cell (zq4 w _ hw248_2)).trans hw248_2), ((HB.out.cell (zq4 w _ hw248_3)).trans hw248_3), ((HB.out.cell (zq4 w _ hw248_4)).trans hw248_4), ((HB.out.cell (zq4 w _ hw252_0)).trans hw252_0), ((HB.out.cell (zq4 w _ hw252_1)).trans hw252_1), ((HB.out.cell (zq4 w _ hw252_2)).trans hw252_2), ((HB.out.cell (zq4 w _ hw252_3)).trans hw252_3), ((HB.out.cell (zq4 w _ hw252_4)).trans hw252_4)⟩ (fun hHeld => ?_)
       clear hK K
       refine norm_ (a' := ?_) ?_ ?_
       rotate_left
       ·
        show Act.put _ (some 24) _ = _
        simp only [Act.put, zq1, zq2, zq3, i64_w, i32_w]
        rfl
       refine pure_ (i := 14) (N := some 3) (v := ?_) (a' := ?_) #[true, true, true, true, true, true, true, true, true, true, true, true, true, true, true] rfl rfl (any_of HT_.out (by kernel_rfl)) (fun _ _ _ h => h) (Or.inl ⟨by rfl, ?_⟩) ?_ ?_
       rotate_left
       ·
        intro w'
        go_simp
        with_reducible rfl
       rotate_left
       ·
        simp only [Act.put, zq1, zq2, zq3, i64_w, i32_w]
        rfl
       refine done_ (done_of HT_.out (by kernel_rfl)) ?_
       have p259 : 0 ≤ (x4_1 : Int) := of_decide_eq_true (by first | (with_reducible assumption) | assumption)
       have q259 : x4_1 < (l0.length : Int) := of_decide_eq_true (by first | (with_reducible assumption) | assumption)
       obtain ⟨ad259, A259_4, c259_4, e259, hx259_0, hx259_1, hx259_2, hx259_3, hx259_4, hl259_4, hi259_4⟩ := at_T24 HR0.out x4_1 p259 q259
       obtain rfl : ad248 = ad259 := (by injection e259)
       replace hx259_0 := (HB.out.cell (zq4 w _ hx259_0)).trans hx259_0
       replace hx259_1 := (HB.out.cell (zq4 w _ hx259_1)).trans hx259_1
       replace hx259_2 := (HB.out.cell (zq4 w _ hx259_2)).trans hx259_2
       replace hx259_3 := (HB.out.cell (zq4 w _ hx259_3)).trans hx259_3
       replace hx259_4 := (HB.out.cell (zq4 w _ hx259_4)).trans hx259_4
       have HR259_4 := Zs.mk hi259_4
       have HC259_4 := Zs.mk hl259_4
       clear hi259_4 hl259_4
       replace p259 := eq_true p259
       replace q259 := eq_true q259
       have p264 : 0 ≤ (x4_1 : Int) := of_decide_eq_true (by first | (with_reducible assumption) | assumption)
       have q264 : x4_1 < (l0.length : Int) := of_decide_eq_true (by first | (with_reducible assumption) | assumption)
       obtain ⟨ad264, A264_4, c264_4, e264, hx264_0, hx264_1, hx264_2, hx264_3, hx264_4, hl264_4, hi264_4⟩ := at_T24 HR0.out x4_1 p264 q264
       obtain rfl : ad248 = ad264 := (by injection e264)
       replace hx264_0 := (HB.out.cell (zq4 w _ hx264_0)).trans hx264_0
       replace hx264_1 := (HB.out.cell (zq4 w _ hx264_1)).trans hx264_1
       replace hx264_2 := (HB.out.cell (zq4 w _ hx264_2)).trans hx264_2
       replace hx264_3 := (HB.out.cell (zq4 w _ hx264_3)).trans hx264_3
       replace hx264_4 := (HB.out.cell (zq4 w _ hx264_4)).trans hx264_4
       have HR264_4 := Zs.mk hi264_4
       have HC264_4 := Zs.mk hl264_4
       clear hi264_4 hl264_4
       replace p264 := eq_true p264
       replace q264 := eq_true q264
       have ea_ := Option.some.inj (hx259_4.symm.trans hx264_4)
       injection ea_ with ea_ en_ ec_
       subst ea_
       subst ec_
       clear en_
       obtain ⟨Ao28, co28, eo28⟩ := Kd.R_slice HO258.out
       subst eo28
       try go_wp2_with (first | ((with_reducible refine gate_callee (f := 42) rfl ?_); refine goesL_ (some 49) rfl rfl Try.func42 (by kernel_rfl) rfl #[.slice Ao28 y256.length co28, .int .i64 4, .int .u64 (IntKind.u64.wrap ((rd_T24 l0 x4_1).f2))] rfl (by (try simp only [List.map_toArray, List.map_cons, List.map_nil]); first | done | rfl | (simp only [List.length_drop, List.length_take]; rfl)) ?_; (with_reducible refine (zfP.calls k1 _ _ y256 4 (IntKind.u64.wrap ((rd_T24 l0 x4_1).f2)) t265 _ ?side1 ?side2 A19.out).mono ?_); (case side1 => repeat (first | exact (Kd.R_reads' HO258.out).2.2 | (with_reducible refine Kd.C_alloc ?_ _) | (with_reducible refine Kd.C_drewN ?_ _) | (with_reducible refine Kd.C_drew ?_))); (case side2 => exact (Kd.R_reads' HO258.out).2.1); rintro e w29 ⟨v266, rfl, ho0, hb⟩; refine ⟨_, rfl, ?_⟩; have n0_ := Zs.mk (Kd.R_elder' (by (with_reducible repeat (first | apply Kd.R_alloc | apply Kd.R_drewN | apply Kd.R_drew)); exact HO_3.out) (Kd.R_base ho0) hb); have n1_ := Zs.mk (Kd.R_elder' (by (with_reducible repeat (first | apply Kd.R_alloc | apply Kd.R_drewN | apply Kd.R_drew)); exact HO255.out) (Kd.R_base ho0) hb); have n2_ := Zs.mk (Kd.R_elder' (by (with_reducible repeat (first | apply Kd.R_alloc | apply Kd.R_drewN | apply Kd.R_drew)); exact HO258.out) (Kd.R_base ho0) hb); have n3_ := Zs.mk (Kd.R_lower (Kd.R_new' (Kd.R_new' (Kd.R_new' ho0 (Kd.R_lt (by (with_reducible repeat (first | apply Kd.R_alloc | apply Kd.R_drewN | apply Kd.R_drew)); exact HO_3.out))) (Kd.R_lt (by (with_reducible repeat (first | apply Kd.R_alloc | apply Kd.R_drewN | apply Kd.R_drew)); exact HO255.out))) (Kd.R_lt (by (with_reducible repeat (first | apply Kd.R_alloc | apply Kd.R_drewN | apply Kd.R_drew)); exact HO258.out))) (zbz (by repeat (first | (with_reducible first | exact HB.out | apply zba | apply zbn | apply zbd) | exact HB.out)))); have n4_ := Zs.mk (zbt (by repeat (first | (with_reducible first | exact HB.out | apply zba | apply zbn | apply zbd) | exact HB.out)) hb); clear HO_3; clear HO255; clear HO258; clear HB; have HO_3 := n0_; have HO255 := n1_; have HO258 := n2_; have HO267 := n3_; have HB := n4_; clear n0_ n1_ n2_ n3_ n4_; (try clear hb); (try clear hb2); (try clear hk); (try clear hi); (try clear hge); (try clear ho0)))
       go_roundg k1
       case measure => have := HK1.out; omega
       case rel => exact ⟨(t265), (wrap64 (x4_1 + 1)), (by first | rfl | (simp; done) | (simp [*]; done)), H', ⟨by have := HK1.out; omega⟩, ⟨by (with_reducible repeat (first | apply Kd.R_alloc | apply Kd.R_drewN | apply Kd.R_drew)); exact Kd.R_mono HO267.out (fun _ hk => trivial)⟩, ⟨by repeat (first | (with_reducible first | exact HB.out | apply zba | apply zbn | apply zbd) | exact HB.out)⟩⟩
      rw [if_neg c18] at H
      have c18b0 : (((rd_T24 l0 x4_1).f1) == 73) = false := beq_eq_false_iff_ne.mpr c18
      have c18b1 : (((rd_T24 l0 x4_1).f1) != 73) = true := bne_iff_ne.mpr c18
      by_cases c30 : ((rd_T24 l0 x4_1).f1) = 108
      ·
       rw [if_pos c30] at H
       have c30b0 : (((rd_T24 l0 x4_1).f1) == 108) = true := beq_iff_eq.mpr c30
       have c30b1 : (((rd_T24 l0 x4_1).f1) != 108) = false := bne_eq_false_iff_eq.mpr c30
       clear c30
       replace H := Option.bind_eq_some_iff.mp H
       obtain ⟨t269, A310, H⟩ := H
       replace H : (zfw.l0 k1 l0 t269 (wrap64 (x4_1 + 1))) = some r := H
       have A31 := Zs.mk A310
       clear A310
       have H' := Zs.mk H
       clear H
       obtain ⟨Ao32, co32, eo32⟩ := Kd.R_slice HO_3.out
       subst eo32
       try go_wp2
       have n0_ := Zs.mk (Kd.R_drew HO_3.out)
       have n1_ := Zs.mk (zbd HB.out)
       clear HO_3
       clear HB
       have HO_3 := n0_
       have HB := n1_
       clear n0_ n1_
       have p248 : 0 ≤ (x4_1 : Int) := of_decide_eq_true (by first | (with_reducible assumption) | assumption)
       have q248 : x4_1 < (l0.length : Int) := of_decide_eq_true (by first | (with_reducible assumption) | assumption)
       obtain ⟨ad248, A248_4, c248_4, e248, hx248_0, hx248_1, hx248_2, hx248_3, hx248_4, hl248_4, hi248_4⟩ := at_T24 HR0.out x4_1 p248 q248
       have hw248_4 := hx248_4
       have hw248_3 := hx248_3
       have hw248_2 := hx248_2
       have hw248_1 := hx248_1
       have hw248_0 := hx248_0
       cases e248
       replace hx248_0 := (HB.out.cell (zq4 w _ hx248_0)).trans hx248_0
       replace hx248_1 := (HB.out.cell (zq4 w _ hx248_1)).trans hx248_1
       replace hx248_2 := (HB.out.cell (zq4 w _ hx248_2)).trans hx248_2
       replace hx248_3 := (HB.out.cell (zq4 w _ hx248_3)).trans hx248_3
       replace hx248_4 := (HB.out.cell (zq4 w _ hx248_4)).trans hx248_4
       have HR248_4 := Zs.mk hi248_4
       have HC248_4 := Zs.mk hl248_4
       clear hi248_4 hl248_4
       replace p248 := eq_true p248
       replace q248 := eq_true q248
       have p252 : 0 ≤ (x4_1 : Int) := of_decide_eq_true (by first | (with_reducible assumption) | assumption)
       have q252 : x4_1 < (l0.length : Int) := of_decide_eq_true (by first | (with_reducible assumption) | assumption)
       obtain ⟨ad252, A252_4, c252_4, e252, hx252_0, hx252_1, hx252_2, hx252_3, hx252_4, hl252_4, hi252_4⟩ := at_T24 HR0.out x4_1 p252 q252
       have hw252_4 := hx252_4
       have hw252_3 := hx252_3
       have hw252_2 := hx252_2
       have hw252_1 := hx252_1
       have hw252_0 := hx252_0
       obtain rfl : ad248 = ad252 := (by injection e252)
       replace hx252_0 := (HB.out.cell (zq4 w _ hx252_0)).trans hx252_0
       replace hx252_1 := (HB.out.cell (zq4 w _ hx252_1)).trans hx252_1
       replace hx252_2 := (HB.out.cell (zq4 w _ hx252_2)).trans hx252_2
       replace hx252_3 := (HB.out.cell (zq4 w _ hx252_3)).trans hx252_3
       replace hx252_4 := (HB.out.cell (zq4 w _ hx252_4)).trans hx252_4
       have HR252_4 := Zs.mk hi252_4
       have HC252_4 := Zs.mk hl252_4
       clear hi252_4 hl252_4
       replace p252 := eq_true p252
       replace q252 := eq_true q252
       have ea_ := Option.some.inj (hx248_4.symm.trans hx252_4)
       injection ea_ with ea_ en_ ec_
       subst ea_
       subst ec_
       clear en_
       refine start_ (n := 15) (S := fun w' => w'.cell? (ad248.add ((x4_1).toNat * 5)) = some (.string ((rd_T24 l0 x4_1).f0)) ∧ w'.cell? ⟨(ad248.add ((x4_1).toNat * 5)).block, (ad248.add ((x4_1).toNat * 5)).off + 1, none⟩ = some (.int .u8 ((rd_T24 l0 x4_1).f1)) ∧ w'.cell? ⟨(ad248.add ((x4_1).toNat * 5)).block, (ad248.add ((x4_1).toNat * 5)).off + 2, none⟩ = some (.int .i64 ((rd_T24 l0 x4_1).f2)) ∧ w'.cell? ⟨(ad248.add ((x4_1).toNat * 5)).block, (ad248.add ((x4_1).toNat * 5)).off + 3, none⟩ = some (.string ((rd_T24 l0 x4_1).f3)) ∧ w'.cell? ⟨(ad248.add ((x4_1).toNat * 5)).block, (ad248.add ((x4_1).toNat * 5)).off + 4, none⟩ = some (.slice A248_4 ((rd_T24 l0 x4_1).f4).length c248_4) ∧ w'.cell? (ad248.add ((x4_1).toNat * 5)) = some (.string ((rd_T24 l0 x4_1).f0)) ∧ w'.cell? ⟨(ad248.add ((x4_1).toNat * 5)).block, (ad248.add ((x4_1).toNat * 5)).off + 1, none⟩ = some (.int .u8 ((rd_T24 l0 x4_1).f1)) ∧ w'.cell? ⟨(ad248.add ((x4_1).toNat * 5)).block, (ad248.add ((x4_1).toNat * 5)).off + 2, none⟩ = some (.int .i64 ((rd_T24 l0 x4_1).f2)) ∧ w'.cell? ⟨(ad248.add ((x4_1).toNat * 5)).block, (ad248.add ((x4_1).toNat * 5)).off + 3, none⟩ = some (.string ((rd_T24 l0 x4_1).f3)) ∧ w'.cell? ⟨(ad248.add ((x4_1).toNat * 5)).block, (ad248.add ((x4_1).toNat * 5)).off + 4, none⟩ = some (.slice A248_4 ((rd_T24 l0 x4_1).f4).length c248_4)) (ds := []) #[false, false, false, false, false, false, false, false, false, false, false, false, false, false, false] (by kernel_rfl) rfl rfl ⟨((HB.out.cell (zq4 w _ hw248_0)).trans hw248_0), ((HB.out.cell (zq4 w _ hw248_1)).trans hw248_1), ((HB.out.cell (zq4 w _ hw248_2)).trans hw248_2), ((HB.out.cell (zq4 w _ hw248_3)).trans hw248_3), ((HB.out.cell (zq4 w _ hw248_4)).trans hw248_4), ((HB.out.cell (zq4 w _ hw252_0)).trans hw252_0), ((HB.out.cell (zq4 w _ hw252_1)).trans hw252_1), ((HB.out.cell (zq4 w _ hw252_2)).trans hw252_2), ((HB.out.cell (zq4 w _ hw252_3)).trans hw252_3), ((HB.out.cell (zq4 w _ hw252_4)).trans hw252_4)⟩ (fun hHeld => ?_); refine with_tabW zfw.tab5 zfw.bits5 (fun HT_ HW_ => ?_)
       generalize wr.drew = w33 at HO_3 HB HR248_4 HR252_4 hx248_0 hx248_1 hx248_2 hx248_3 hx248_4 hx252_0 hx252_1 hx252_2 hx252_3 hx252_4 hHeld ⊢
       refine pure_ (i := 0) (N := some 11) (v := ?_) (a' := ?_) #[true, false, false, false, false, false, false, false, false, false, false, false, false, false, false] rfl rfl (any_of HT_.out (by kernel_rfl)) (fun _ _ _ h => h) (Or.inl ⟨by rfl, ?_⟩) ?_ ?_
       rotate_left
       ·
        intro w'
        go_simp
        with_reducible rfl
       rotate_left
       ·
        simp only [Act.put, zq1, zq2, zq3, i64_w, i32_w]
        rfl
       refine pure_ (i := 1) (N := some 12) (v := ?_) (a' := ?_) #[true, true, false, false, false, false, false, false, false, false, false, false, false, false, false] rfl rfl (any_of HT_.out (by kernel_rfl)) (fun _ _ _ h => h) (Or.inl ⟨by rfl, ?_⟩) ?_ ?_
       rotate_left
       ·
        intro w'
        go_simp
        with_reducible rfl
       rotate_left
       ·
        simp only [Act.put, zq1, zq2, zq3, i64_w, i32_w]
        rfl
       refine pure_ (i := 2) (N := some 13) (v := ?_) (a' := ?_) #[true, true, true, false, false, false, false, false, false, false, false, false, false, false, false] rfl rfl (any_of HT_.out (by kernel_rfl)) (fun _ _ _ h => h) (Or.inl ⟨by rfl, ?_⟩) ?_ ?_
       rotate_left
       ·
        intro w'
        go_simp
        with_reducible rfl
       rotate_left
       ·
        simp only [Act.put, zq1, zq2, zq3, i64_w, i32_w]
        rfl
       refine pure_ (i := 3) (N := some 14) (v := ?_) (a' := ?_) #[true, true, true, true, false, false, false, false, false, false, false, false, false, false, false] rfl rfl (any_of HT_.out (by kernel_rfl)) (fun _ _ _ h => h) (Or.inl ⟨by rfl, ?_⟩) ?_ ?_
       rotate_left
       ·
        intro w'
        go_simp
        with_reducible rfl
       rotate_left
       ·
        simp only [Act.put, zq1, zq2, zq3, i64_w, i32_w]
        rfl
       refine pure_ (i := 4) (N := some 15) (v := ?_) (a' := ?_) #[true, true, true, true, true, false, false, false, false, false, false, false, false, false, false] rfl rfl (any_of HT_.out (by kernel_rfl)) (fun _ _ _ h => h) (Or.inl ⟨by rfl, ?_⟩) ?_ ?_
       rotate_left
       ·
        intro w'
        go_simp
        with_reducible rfl
       rotate_left
       ·
        simp only [Act.put, zq1, zq2, zq3, i64_w, i32_w]
        rfl
       refine pure_ (i := 7) (N := some 18) (v := ?_) (a' := ?_) #[true, true, true, true, true, false, false, true, false, false, false, false, false, false, false] rfl rfl (any_of HT_.out (by kernel_rfl)) (fun _ _ _ h => h) (Or.inl ⟨by rfl, ?_⟩) ?_ ?_
       rotate_left
       ·
        intro w'
        go_simp
        with_reducible rfl
       rotate_left
       ·
        simp only [Act.put, zq1, zq2, zq3, i64_w, i32_w]
        rfl
       refine pure_ (i := 8) (N := some 19) (v := ?_) (a' := ?_) #[true, true, true, true, true, false, false, true, true, false, false, false, false, false, false] rfl rfl (any_of HT_.out (by kernel_rfl)) (fun _ _ _ h => h) (Or.inl ⟨by rfl, ?_⟩) ?_ ?_
       rotate_left
       ·
        intro w'
        go_simp
        with_reducible rfl
       rotate_left
       ·
        simp only [Act.put, zq1, zq2, zq3, i64_w, i32_w]
        rfl
       refine pure_ (i := 9) (N := some 20) (v := ?_) (a' := ?_) #[true, true, true, true, true, false, false, true, true, true, false, false, false, false, false] rfl rfl (any_of HT_.out (by kernel_rfl)) (fun _ _ _ h => h) (Or.inl ⟨by rfl, ?_⟩) ?_ ?_
       rotate_left
       ·
        intro w'
        go_simp
        with_reducible rfl
       rotate_left
       ·
        simp only [Act.put, zq1, zq2, zq3, i64_w, i32_w]
        rfl
       refine pure_ (i := 10) (N := some 21) (v := ?_) (a' := ?_) #[true, true, true, true, true, false, false, true, true, true, true, false, false, false, false] rfl rfl (any_of HT_.out (by kernel_rfl)) (fun _ _ _ h => h) (Or.inl ⟨by rfl, ?_⟩) ?_ ?_
       rotate_left
       ·
        intro w'
        go_simp
        with_reducible rfl
       rotate_left
       ·
        simp only [Act.put, zq1, zq2, zq3, i64_w, i32_w]
        rfl
       refine take_ (i := 5) (N := some 16) (v := ?_) (a' := ?_) #[true, true, true, true, true, true, false, true, true, true, true, false, false, false, false] rfl rfl (take_ofW HT_.out HW_.out (by kernel_rfl)) (fun _ _ _ h => h) (Or.inl ⟨by rfl, ?_⟩) hHeld ?_ ?_
       rotate_left
       ·
        rintro w' ⟨s0, s1, s2, s3, s4, s5, s6, s7, s8, s9⟩
        go_simp
        with_reducible rfl
       rotate_left
       ·
        simp only [Act.put, zq1, zq2, zq3, i64_w, i32_w]
        rfl
       refine take_ (i := 11) (N := some 22) (v := ?_) (a' := ?_) #[true, true, true, true, true, true, false, true, true, true, true, true, false, false, false] rfl rfl (take_ofW HT_.out HW_.out (by kernel_rfl)) (fun _ _ _ h => h) (Or.inl ⟨by rfl, ?_⟩) hHeld ?_ ?_
       rotate_left
       ·
        rintro w' ⟨s0, s1, s2, s3, s4, s5, s6, s7, s8, s9⟩
        go_simp
        with_reducible rfl
       rotate_left
       ·
        simp only [Act.put, zq1, zq2, zq3, i64_w, i32_w]
        rfl
       refine join_ (σ := Value × Value) 2 #[true, true, true, true, true, true, true, true, true, true, true, true, true, false, false] (fun s_ => [(17, s_.1), (23, s_.2)]) (fun s_ w' => (w'.cell? (ad248.add ((x4_1).toNat * 5)) = some (.string ((rd_T24 l0 x4_1).f0)) ∧ w'.cell? ⟨(ad248.add ((x4_1).toNat * 5)).block, (ad248.add ((x4_1).toNat * 5)).off + 1, none⟩ = some (.int .u8 ((rd_T24 l0 x4_1).f1)) ∧ w'.cell? ⟨(ad248.add ((x4_1).toNat * 5)).block, (ad248.add ((x4_1).toNat * 5)).off + 2, none⟩ = some (.int .i64 ((rd_T24 l0 x4_1).f2)) ∧ w'.cell? ⟨(ad248.add ((x4_1).toNat * 5)).block, (ad248.add ((x4_1).toNat * 5)).off + 3, none⟩ = some (.string ((rd_T24 l0 x4_1).f3)) ∧ w'.cell? ⟨(ad248.add ((x4_1).toNat * 5)).block, (ad248.add ((x4_1).toNat * 5)).off + 4, none⟩ = some (.slice A248_4 ((rd_T24 l0 x4_1).f4).length c248_4) ∧ w'.cell? (ad248.add ((x4_1).toNat * 5)) = some (.string ((rd_T24 l0 x4_1).f0)) ∧ w'.cell? ⟨(ad248.add ((x4_1).toNat * 5)).block, (ad248.add ((x4_1).toNat * 5)).off + 1, none⟩ = some (.int .u8 ((rd_T24 l0 x4_1).f1)) ∧ w'.cell? ⟨(ad248.add ((x4_1).toNat * 5)).block, (ad248.add ((x4_1).toNat * 5)).off + 2, none⟩ = some (.int .i64 ((rd_T24 l0 x4_1).f2)) ∧ w'.cell? ⟨(ad248.add ((x4_1).toNat * 5)).block, (ad248.add ((x4_1).toNat * 5)).off + 3, none⟩ = some (.string ((rd_T24 l0 x4_1).f3)) ∧ w'.cell? ⟨(ad248.add ((x4_1).toNat * 5)).block, (ad248.add ((x4_1).toNat * 5)).off + 4, none⟩ = some (.slice A248_4 ((rd_T24 l0 x4_1).f4).length c248_4)) ∧ (Kd.R (Kd.int .u8) 5 w' w.heap.size (fun k_ => some k_ ≠ (s_.2 : Value).ownBlock ∧ some k_ ≠ (.slice Ao32 x3_1.length co32 : Value).ownBlock) s_.1 t249) ∧ (Kd.R (Kd.int .u8) 5 w' w.heap.size (fun k_ => some k_ ≠ (s_.1 : Value).ownBlock ∧ some k_ ≠ (.slice Ao32 x3_1.length co32 : Value).ownBlock) s_.2 y253) ∧ (Kd.R (Kd.int .u8) 5 w' w.heap.size (fun k_ => some k_ ≠ (s_.1 : Value).ownBlock ∧ some k_ ≠ (s_.2 : Value).ownBlock) (.slice Ao32 x3_1.length co32) x3_1) ∧ (Below w.heap.size w w')) ?_ ?_
       rotate_left
       ·
        intro hCont
        refine two_ (i := 6) (j := 12) (Ni := some 17) (Nj := some 23) #[true, true, true, true, true, true, true, true, true, true, true, true, false, false, false] #[true, true, true, true, true, true, false, true, true, true, true, true, true, false, false] rfl rfl rfl rfl (two_of HT_.out (by kernel_rfl)) (by decide) (by decide) (fun K hK => ?_) (fun K hK => ?_)
        ·
         skip
         refine goes_ Try.func43 (by kernel_rfl) rfl #[.slice Ao32 x3_1.length co32, .string ((rd_T24 l0 x4_1).f0)] (by rfl) rfl rfl (by (try simp only [List.map_toArray, List.map_cons, List.map_nil]); first | done | rfl | (simp only [List.length_drop, List.length_take]; rfl)) ?_
         with_reducible refine (waybillref1_Short.calls k1 _ _ x3_1 ((rd_T24 l0 x4_1).f0) t249 _ ?side1 ?side2 A4.out).mono ?_
         (case side1 => repeat (first | exact (Kd.R_reads' HO_3.out).2.2 | (with_reducible refine Kd.C_alloc ?_ _) | (with_reducible refine Kd.C_drewN ?_ _) | (with_reducible refine Kd.C_drew ?_)))
         (case side2 => exact (Kd.R_reads' HO_3.out).2.1)
         rintro e w34 ⟨v250, rfl, ho0, hb⟩
         refine ⟨_, rfl, ?_⟩
         have n0_ := Zs.mk (Kd.R_elder' (by (with_reducible repeat (first | apply Kd.R_alloc | apply Kd.R_drewN | apply Kd.R_drew)); exact HO_3.out) (Kd.R_base ho0) hb)
         have n1_ := Zs.mk (Kd.R_lower (Kd.R_new' ho0 (Kd.R_lt (by (with_reducible repeat (first | apply Kd.R_alloc | apply Kd.R_drewN | apply Kd.R_drew)); exact HO_3.out))) (zbz (by repeat (first | (with_reducible first | exact HB.out | apply zba | apply zbn | apply zbd) | exact HB.out))))
         have n2_ := Zs.mk (zbt (by repeat (first | (with_reducible first | exact HB.out | apply zba | apply zbn | apply zbd) | exact HB.out)) hb)
         clear HO_3
         clear HB
         have HO_3 := n0_
         have HO251 := n1_
         have HB := n2_
         clear n0_ n1_ n2_
         (try clear hb)
         (try clear hb2)
         (try clear hk)
         (try clear hi)
         (try clear hge)
         (try clear ho0)
         refine hK.out _ _ ⟨((HB.out.cell (zq4 w _ hw248_0)).trans hw248_0), ((HB.out.cell (zq4 w _ hw248_1)).trans hw248_1), ((HB.out.cell (zq4 w _ hw248_2)).trans hw248_2), ((HB.out.cell (zq4 w _ hw248_3)).trans hw248_3), ((HB.out.cell (zq4 w _ hw248_4)).trans hw248_4), ((HB.out.cell (zq4 w _ hw252_0)).trans hw252_0), ((HB.out.cell (zq4 w _ hw252_1)).trans hw252_1), ((HB.out.cell (zq4 w _ hw252_2)).trans hw252_2), ((HB.out.cell (zq4 w _ hw252_3)).trans hw252_3), ((HB.out.cell (zq4 w _ hw252_4)).trans hw252_4)⟩ (fun hHeld => ?_)
         clear hK K
         refine norm_ (a' := ?_) ?_ ?_
         rotate_left
         ·
          show Act.put _ (some 17) _ = _
          simp only [Act.put, zq1, zq2, zq3, i64_w, i32_w]
          rfl
         refine one_ (i := 12) (N := some 23) #[true, true, true, true, true, true, true, true, true, true, true, true, true, false, false] rfl rfl (one_of HT_.out (by kernel_rfl)) (by decide) (fun K hK => ?_)
         refine Kd.R_lit_step (Kd.int .u8) _ 5 ?hg (N := 23) ?hd (xs := ([(rd_T24 l0 x4_1).f1] : List Int)) (inner := [.int .u8 ((rd_T24 l0 x4_1).f1)]) (ok := fun _ => True) (okp := fun _ => True) ?hr ?hp (fun _ hk => hk) trivial (Below.refl _ _) (Nat.le_refl _) (by simp) ?_; (case hd => rfl); (case hg => rfl); (case hr => first | (go_simp; done) | (go_simp; rfl)); (case hp => exact (Reps.one (show Kd.M (Kd.int .u8) _ _ _ ((rd_T24 l0 x4_1).f1) [.int .u8 ((rd_T24 l0 x4_1).f1)] from rfl) (Reps.none _ _)))
         intro v254 w35 ho36 hb hg_ hnew_
         clear hg_ hnew_
         (first | rw [← Ny253.out] at ho36 | (simp only [Int.reduceToNat] at ho36; rw [← Ny253.out] at ho36))
         have n0_ := Zs.mk (Kd.R_elder' (by (with_reducible repeat (first | apply Kd.R_alloc | apply Kd.R_drewN | apply Kd.R_drew)); exact HO_3.out) (Kd.R_base ho36) hb)
         have n1_ := Zs.mk (Kd.R_elder' (by (with_reducible repeat (first | apply Kd.R_alloc | apply Kd.R_drewN | apply Kd.R_drew)); exact HO251.out) (Kd.R_base ho36) hb)
         have n2_ := Zs.mk (Kd.R_lower (Kd.R_new' (Kd.R_new' ho36 (Kd.R_lt (by (with_reducible repeat (first | apply Kd.R_alloc | apply Kd.R_drewN | apply Kd.R_drew)); exact HO_3.out))) (Kd.R_lt (by (with_reducible repeat (first | apply Kd.R_alloc | apply Kd.R_drewN | apply Kd.R_drew)); exact HO251.out))) (zbz (by repeat (first | (with_reducible first | exact HB.out | apply zba | apply zbn | apply zbd) | exact HB.out))))
         have n3_ := Zs.mk (zbt (by repeat (first | (with_reducible first | exact HB.out | apply zba | apply zbn | apply zbd) | exact HB.out)) hb)
         clear HO_3
         clear HO251
         clear HB
         have HO_3 := n0_
         have HO251 := n1_
         have HO255 := n2_
         have HB := n3_
         clear n0_ n1_ n2_ n3_
         clear hb ho36
         refine hK.out _ _ ⟨((HB.out.cell (zq4 w _ hw248_0)).trans hw248_0), ((HB.out.cell (zq4 w _ hw248_1)).trans hw248_1), ((HB.out.cell (zq4 w _ hw248_2)).trans hw248_2), ((HB.out.cell (zq4 w _ hw248_3)).trans hw248_3), ((HB.out.cell (zq4 w _ hw248_4)).trans hw248_4), ((HB.out.cell (zq4 w _ hw252_0)).trans hw252_0), ((HB.out.cell (zq4 w _ hw252_1)).trans hw252_1), ((HB.out.cell (zq4 w _ hw252_2)).trans hw252_2), ((HB.out.cell (zq4 w _ hw252_3)).trans hw252_3), ((HB.out.cell (zq4 w _ hw252_4)).trans hw252_4)⟩ (fun hHeld => ?_)
         clear hK K
         refine norm_ (a' := ?_) ?_ ?_
         rotate_left
         ·
          show Act.put _ (some 23) _ = _
          simp only [Act.put, zq1, zq2, zq3, i64_w, i32_w]
          rfl
         exact norm_ (by simp only [putAll, Act.put, zq1, zq2, zq3]) (hCont (v250, v254) _ ⟨hHeld, (by (with_reducible repeat (first | apply Kd.R_alloc | apply Kd.R_drewN | apply Kd.R_drew)); exact Kd.R_mono HO251.out (fun _ hk => ⟨hk.2, hk.1.2⟩)), (by (with_reducible repeat (first | apply Kd.R_alloc | apply Kd.R_drewN | apply Kd.R_drew)); exact Kd.R_mono HO255.out (fun _ hk => ⟨hk.2, hk.1.2⟩)), (by (with_reducible repeat (first | apply Kd.R_alloc | apply Kd.R_drewN | apply Kd.R_drew)); exact Kd.R_mono HO_3.out (fun _ hk => ⟨hk.1.2, hk.2⟩)), (by repeat (first | (with_reducible first | exact HB.out | apply zba | apply zbn | apply zbd) | exact HB.out))⟩)
        skip
        refine Kd.R_lit_step (Kd.int .u8) _ 5 ?hg (N := 23) ?hd (xs := ([(rd_T24 l0 x4_1).f1] : List Int)) (inner := [.int .u8 ((rd_T24 l0 x4_1).f1)]) (ok := fun _ => True) (okp := fun _ => True) ?hr ?hp (fun _ hk => hk) trivial (Below.refl _ _) (Nat.le_refl _) (by simp) ?_; (case hd => rfl); (case hg => rfl); (case hr => first | (go_simp; done) | (go_simp; rfl)); (case hp => exact (Reps.one (show Kd.M (Kd.int .u8) _ _ _ ((rd_T24 l0 x4_1).f1) [.int .u8 ((rd_T24 l0 x4_1).f1)] from rfl) (Reps.none _ _)))
        intro v254 w34 ho35 hb hg_ hnew_
        clear hg_ hnew_
        (first | rw [← Ny253.out] at ho35 | (simp only [Int.reduceToNat] at ho35; rw [← Ny253.out] at ho35))
        have n0_ := Zs.mk (Kd.R_elder' (by (with_reducible repeat (first | apply Kd.R_alloc | apply Kd.R_drewN | apply Kd.R_drew)); exact HO_3.out) (Kd.R_base ho35) hb)
        have n1_ := Zs.mk (Kd.R_lower (Kd.R_new' ho35 (Kd.R_lt (by (with_reducible repeat (first | apply Kd.R_alloc | apply Kd.R_drewN | apply Kd.R_drew)); exact HO_3.out))) (zbz (by repeat (first | (with_reducible first | exact HB.out | apply zba | apply zbn | apply zbd) | exact HB.out))))
        have n2_ := Zs.mk (zbt (by repeat (first | (with_reducible first | exact HB.out | apply zba | apply zbn | apply zbd) | exact HB.out)) hb)
        clear HO_3
        clear HB
        have HO_3 := n0_
        have HO255 := n1_
        have HB := n2_
        clear n0_ n1_ n2_
        clear hb ho35
        refine hK.out _ _ ⟨((HB.out.cell (zq4 w _ hw248_0)).trans hw248_0), ((HB.out.cell (zq4 w _ hw248_1)).trans hw248_1), ((HB.out.cell (zq4 w _ hw248_2)).trans hw248_2), ((HB.out.cell (zq4 w _ hw248_3)).trans hw248_3), ((HB.out.cell (zq4 w _ hw248_4)).trans hw248_4), ((HB.out.cell (zq4 w _ hw252_0)).trans hw252_0), ((HB.out.cell (zq4 w _ hw252_1)).trans hw252_1), ((HB.out.cell (zq4 w _ hw252_2)).trans hw252_2), ((HB.out.cell (zq4 w _ hw252_3)).trans hw252_3), ((HB.out.cell (zq4 w _ hw252_4)).trans hw252_4)⟩ (fun hHeld => ?_)
        clear hK K
        refine norm_ (a' := ?_) ?_ ?_
        rotate_left
        ·
         show Act.put _ (some 23) _ = _
         simp only [Act.put, zq1, zq2, zq3, i64_w, i32_w]
         rfl
        refine one_ (i := 6) (N := some 17) #[true, true, true, true, true, true, true, true, true, true, true, true, true, false, false] rfl rfl (one_of HT_.out (by kernel_rfl)) (by decide) (fun K hK => ?_)
        refine goes_ Try.func43 (by kernel_rfl) rfl #[.slice Ao32 x3_1.length co32, .string ((rd_T24 l0 x4_1).f0)] (by rfl) rfl rfl (by (try simp only [List.map_toArray, List.map_cons, List.map_nil]); first | done | rfl | (simp only [List.length_drop, List.length_take]; rfl)) ?_
        with_reducible refine (waybillref1_Short.calls k1 _ _ x3_1 ((rd_T24 l0 x4_1).f0) t249 _ ?side1 ?side2 A4.out).mono ?_
        (case side1 => repeat (first | exact (Kd.R_reads' HO_3.out).2.2 | (with_reducible refine Kd.C_alloc ?_ _) | (with_reducible refine Kd.C_drewN ?_ _) | (with_reducible refine Kd.C_drew ?_)))
        (case side2 => exact (Kd.R_reads' HO_3.out).2.1)
        rintro e w36 ⟨v250, rfl, ho0, hb⟩
        refine ⟨_, rfl, ?_⟩
        have n0_ := Zs.mk (Kd.R_elder' (by (with_reducible repeat (first | apply Kd.R_alloc | apply Kd.R_drewN | apply Kd.R_drew)); exact HO_3.out) (Kd.R_base ho0) hb)
        have n1_ := Zs.mk (Kd.R_elder' (by (with_reducible repeat (first | apply Kd.R_alloc | apply Kd.R_drewN | apply Kd.R_drew)); exact HO255.out) (Kd.R_base ho0) hb)
        have n2_ := Zs.mk (Kd.R_lower (Kd.R_new' (Kd.R_new' ho0 (Kd.R_lt (by (with_reducible repeat (first | apply Kd.R_alloc | apply Kd.R_drewN | apply Kd.R_drew)); exact HO_3.out))) (Kd.R_lt (by (with_reducible repeat (first | apply Kd.R_alloc | apply Kd.R_drewN | apply Kd.R_drew)); exact HO255.out))) (zbz (by repeat (first | (with_reducible first | exact HB.out | apply zba | apply zbn | apply zbd) | exact HB.out))))
        have n3_ := Zs.mk (zbt (by repeat (first | (with_reducible first | exact HB.out | apply zba | apply zbn | apply zbd) | exact HB.out)) hb)
        clear HO_3
        clear HO255
        clear HB
        have HO_3 := n0_
        have HO255 := n1_
        have HO251 := n2_
        have HB := n3_
        clear n0_ n1_ n2_ n3_
        (try clear hb)
        (try clear hb2)
        (try clear hk)
        (try clear hi)
        (try clear hge)
        (try clear ho0)
        refine hK.out _ _ ⟨((HB.out.cell (zq4 w _ hw248_0)).trans hw248_0), ((HB.out.cell (zq4 w _ hw248_1)).trans hw248_1), ((HB.out.cell (zq4 w _ hw248_2)).trans hw248_2), ((HB.out.cell (zq4 w _ hw248_3)).trans hw248_3), ((HB.out.cell (zq4 w _ hw248_4)).trans hw248_4), ((HB.out.cell (zq4 w _ hw252_0)).trans hw252_0), ((HB.out.cell (zq4 w _ hw252_1)).trans hw252_1), ((HB.out.cell (zq4 w _ hw252_2)).trans hw252_2), ((HB.out.cell (zq4 w _ hw252_3)).trans hw252_3), ((HB.out.cell (zq4 w _ hw252_4)).trans hw252_4)⟩ (fun hHeld => ?_)
        clear hK K
        refine norm_ (a' := ?_) ?_ ?_
        rotate_left
        ·
         show Act.put _ (some 17) _ = _
         simp only [Act.put, zq1, zq2, zq3, i64_w, i32_w]
         rfl
        exact norm_ (by simp only [putAll, Act.put, zq1, zq2, zq3]) (hCont (v250, v254) _ ⟨hHeld, (by (with_reducible repeat (first | apply Kd.R_alloc | apply Kd.R_drewN | apply Kd.R_drew)); exact Kd.R_mono HO251.out (fun _ hk => ⟨hk.2, hk.1.2⟩)), (by (with_reducible repeat (first | apply Kd.R_alloc | apply Kd.R_drewN | apply Kd.R_drew)); exact Kd.R_mono HO255.out (fun _ hk => ⟨hk.2, hk.1.2⟩)), (by (with_reducible repeat (first | apply Kd.R_alloc | apply Kd.R_drewN | apply Kd.R_drew)); exact Kd.R_mono HO_3.out (fun _ hk => ⟨hk.2, hk.1.2⟩)), (by repeat (first | (with_reducible first | exact HB.out | apply zba | apply zbn | apply zbd) | exact HB.out))⟩)
       rintro ⟨v250, v254⟩ w37 ⟨hS_, h0_, h1_, h2_, h3_⟩
       have n0_ : Zs (Kd.R (Kd.int .u8) 5 w37 w.heap.size (fun k_ => some k_ ≠ (v254 : Value).ownBlock ∧ some k_ ≠ (.slice Ao32 x3_1.length co32 : Value).ownBlock) v250 t249) := ⟨h0_⟩
       have n1_ : Zs (Kd.R (Kd.int .u8) 5 w37 w.heap.size (fun k_ => some k_ ≠ (v250 : Value).ownBlock ∧ some k_ ≠ (.slice Ao32 x3_1.length co32 : Value).ownBlock) v254 y253) := ⟨h1_⟩
       have n2_ : Zs (Kd.R (Kd.int .u8) 5 w37 w.heap.size (fun k_ => some k_ ≠ (v250 : Value).ownBlock ∧ some k_ ≠ (v254 : Value).ownBlock) (.slice Ao32 x3_1.length co32) x3_1) := ⟨h2_⟩
       have n3_ : Zs (Below w.heap.size w w37) := ⟨h3_⟩
       clear HO_3
       clear HB
       clear h0_ h1_ h2_ h3_
       have HO251 := n0_
       have HO255 := n1_
       have HO_3 := n2_
       have HB := n3_
       clear n0_ n1_ n2_ n3_
       have hHeld : w37.cell? (ad248.add ((x4_1).toNat * 5)) = some (.string ((rd_T24 l0 x4_1).f0)) ∧ w37.cell? ⟨(ad248.add ((x4_1).toNat * 5)).block, (ad248.add ((x4_1).toNat * 5)).off + 1, none⟩ = some (.int .u8 ((rd_T24 l0 x4_1).f1)) ∧ w37.cell? ⟨(ad248.add ((x4_1).toNat * 5)).block, (ad248.add ((x4_1).toNat * 5)).off + 2, none⟩ = some (.int .i64 ((rd_T24 l0 x4_1).f2)) ∧ w37.cell? ⟨(ad248.add ((x4_1).toNat * 5)).block, (ad248.add ((x4_1).toNat * 5)).off + 3, none⟩ = some (.string ((rd_T24 l0 x4_1).f3)) ∧ w37.cell? ⟨(ad248.add ((x4_1).toNat * 5)).block, (ad248.add ((x4_1).toNat * 5)).off + 4, none⟩ = some (.slice A248_4 ((rd_T24 l0 x4_1).f4).length c248_4) ∧ w37.cell? (ad248.add ((x4_1).toNat * 5)) = some (.string ((rd_T24 l0 x4_1).f0)) ∧ w37.cell? ⟨(ad248.add ((x4_1).toNat * 5)).block, (ad248.add ((x4_1).toNat * 5)).off + 1, none⟩ = some (.int .u8 ((rd_T24 l0 x4_1).f1)) ∧ w37.cell? ⟨(ad248.add ((x4_1).toNat * 5)).block, (ad248.add ((x4_1).toNat * 5)).off + 2, none⟩ = some (.int .i64 ((rd_T24 l0 x4_1).f2)) ∧ w37.cell? ⟨(ad248.add ((x4_1).toNat * 5)).block, (ad248.add ((x4_1).toNat * 5)).off + 3, none⟩ = some (.string ((rd_T24 l0 x4_1).f3)) ∧ w37.cell? ⟨(ad248.add ((x4_1).toNat * 5)).block, (ad248.add ((x4_1).toNat * 5)).off + 4, none⟩ = some (.slice A248_4 ((rd_T24 l0 x4_1).f4).length c248_4) := hS_
       obtain ⟨Ao39, co39, eo39⟩ := Kd.R_slice HO255.out
       (first | subst eo39 | (injection eo39 with f1_ f2_ f3_; have f4_ := f1_.symm; have f5_ := f3_.symm; clear f1_ f2_ f3_; subst f4_; subst f5_))
       refine norm_ (a' := ?_) ?_ ?_
       rotate_left
       ·
        simp only [putAll, Act.put, zq1, zq2, zq3]
        rfl
       refine one_ (i := 13) (N := some 24) #[true, true, true, true, true, true, true, true, true, true, true, true, true, true, false] rfl rfl (one_of HT_.out (by kernel_rfl)) (by decide) (fun K hK => ?_)
       refine Kd.R_append_rows_step (Kd.int .u8) (w0 := w) w.heap.size (by rfl) (.tmp 17) (.tmp 23) 25 5 (.int .u8 0) 1 rfl Try.underlying25 info5 rfl (by decide) (by omega) v250 t249 y253 _ _ _ (fun k_ => some k_ ≠ (.slice Ao32 x3_1.length co32 : Value).ownBlock ∧ some k_ ≠ (.slice Ao39 y253.length co39 : Value).ownBlock) (fun _ => False) rfl rfl ?aO ?aR (fun _ _ h => h) (fun _ h => h.elim) ?aF ?aB ?aS ?aL ?_
       (case aR => repeat (first | exact (Kd.R_reads' HO255.out).2.2 | (with_reducible refine Kd.C_alloc ?_ _) | (with_reducible refine Kd.C_drewN ?_ _) | (with_reducible refine Kd.C_drew ?_)))
       (case aB => exact (by repeat (first | (with_reducible first | exact HB.out | apply zba | apply zbn | apply zbd) | exact HB.out)))
       (case aF => exact (fun k_ hk => ⟨Kd.fresh' (Kd.R_lt (by (with_reducible repeat (first | apply Kd.R_alloc | apply Kd.R_drewN | apply Kd.R_drew)); exact HO_3.out)) k_ hk, Kd.fresh' (Kd.R_lt (by (with_reducible repeat (first | apply Kd.R_alloc | apply Kd.R_drewN | apply Kd.R_drew)); exact HO255.out)) k_ hk⟩))
       (case aO => exact (by (with_reducible repeat (first | apply Kd.R_alloc | apply Kd.R_drewN | apply Kd.R_drew)); exact Kd.R_mono HO251.out (fun _ hk => ⟨hk.2, hk.1⟩)))
       (case aS => exact (zbz (by repeat (first | (with_reducible first | exact HB.out | apply zba | apply zbn | apply zbd) | exact HB.out))))
       (case aL => have := LMc5.out; omega)
       intro v257 w38 ho hb hg hat
       rw [← Ny256.out] at ho
       have n0_ := Zs.mk (Kd.R_after (ok := (fun k_ => some k_ ≠ (.slice Ao39 y253.length co39 : Value).ownBlock)) (by (with_reducible repeat (first | apply Kd.R_alloc | apply Kd.R_drewN | apply Kd.R_drew)); exact Kd.R_mono HO_3.out (fun _ hk => ⟨hk.2, hk.1⟩)) hg hat)
       have n1_ := Zs.mk (Kd.R_after (ok := (fun k_ => some k_ ≠ (.slice Ao32 x3_1.length co32 : Value).ownBlock)) (by (with_reducible repeat (first | apply Kd.R_alloc | apply Kd.R_drewN | apply Kd.R_drew)); exact Kd.R_mono HO255.out (fun _ hk => ⟨hk.2, hk.1⟩)) hg hat)
       have n2_ := Zs.mk (hb)
       have n3_ := Zs.mk (ho)
       clear HO_3
       clear HO255
       clear HB
       clear HO251
       have HO_3 := n0_
       have HO255 := n1_
       have HB := n2_
       have HO258 := n3_
       clear n0_ n1_ n2_ n3_
       clear ho hb hg hat
       refine hK.out _ _ ⟨((HB.out.cell (zq4 w _ hw248_0)).trans hw248_0), ((HB.out.cell (zq4 w _ hw248_1)).trans hw248_1), ((HB.out.cell (zq4 w _ hw248_2)).trans hw248_2), ((HB.out.cell (zq4 w _ hw248_3)).trans hw248_3), ((HB.out.cell (zq4 w _ hw248_4)).trans hw248_4), ((HB.out.cell (zq4 w _ hw252_0)).trans hw252_0), ((HB.out.cell (zq4 w _ hw252_1)).trans hw252_1), ((HB.out.cell (zq4 w _ hw252_2)).trans hw252_2), ((HB.out.cell (zq4 w _ hw252_3)).trans hw252_3), ((HB.out.cell (zq4 w _ hw252_4)).trans hw252_4)⟩ (fun hHeld => ?_)
       clear hK K
       refine norm_ (a' := ?_) ?_ ?_
       rotate_left
       ·
        show Act.put _ (some 24) _ = _
        simp only [Act.put, zq1, zq2, zq3, i64_w, i32_w]
        rfl
       refine pure_ (i := 14) (N := some 3) (v := ?_) (a' := ?_) #[true, true, true, true, true, true, true, true, true, true, true, true, true, true, true] rfl rfl (any_of HT_.out (by kernel_rfl)) (fun _ _ _ h => h) (Or.inl ⟨by rfl, ?_⟩) ?_ ?_
       rotate_left
       ·
        intro w'
        go_simp
        with_reducible rfl
       rotate_left
       ·
        simp only [Act.put, zq1, zq2, zq3, i64_w, i32_w]
        rfl
       refine done_ (done_of HT_.out (by kernel_rfl)) ?_
       have p259 : 0 ≤ (x4_1 : Int) := of_decide_eq_true (by first | (with_reducible assumption) | assumption)
       have q259 : x4_1 < (l0.length : Int) := of_decide_eq_true (by first | (with_reducible assumption) | assumption)
       obtain ⟨ad259, A259_4, c259_4, e259, hx259_0, hx259_1, hx259_2, hx259_3, hx259_4, hl259_4, hi259_4⟩ := at_T24 HR0.out x4_1 p259 q259
       obtain rfl : ad248 = ad259 := (by injection e259)
       replace hx259_0 := (HB.out.cell (zq4 w _ hx259_0)).trans hx259_0
       replace hx259_1 := (HB.out.cell (zq4 w _ hx259_1)).trans hx259_1
       replace hx259_2 := (HB.out.cell (zq4 w _ hx259_2)).trans hx259_2
       replace hx259_3 := (HB.out.cell (zq4 w _ hx259_3)).trans hx259_3
       replace hx259_4 := (HB.out.cell (zq4 w _ hx259_4)).trans hx259_4
       have HR259_4 := Zs.mk hi259_4
       have HC259_4 := Zs.mk hl259_4
       clear hi259_4 hl259_4
       replace p259 := eq_true p259
       replace q259 := eq_true q259
       have p268 : 0 ≤ (x4_1 : Int) := of_decide_eq_true (by first | (with_reducible assumption) | assumption)
       have q268 : x4_1 < (l0.length : Int) := of_decide_eq_true (by first | (with_reducible assumption) | assumption)
       obtain ⟨ad268, A268_4, c268_4, e268, hx268_0, hx268_1, hx268_2, hx268_3, hx268_4, hl268_4, hi268_4⟩ := at_T24 HR0.out x4_1 p268 q268
       obtain rfl : ad248 = ad268 := (by injection e268)
       replace hx268_0 := (HB.out.cell (zq4 w _ hx268_0)).trans hx268_0
       replace hx268_1 := (HB.out.cell (zq4 w _ hx268_1)).trans hx268_1
       replace hx268_2 := (HB.out.cell (zq4 w _ hx268_2)).trans hx268_2
       replace hx268_3 := (HB.out.cell (zq4 w _ hx268_3)).trans hx268_3
       replace hx268_4 := (HB.out.cell (zq4 w _ hx268_4)).trans hx268_4
       have HR268_4 := Zs.mk hi268_4
       have HC268_4 := Zs.mk hl268_4
       clear hi268_4 hl268_4
       replace p268 := eq_true p268
       replace q268 := eq_true q268
       have ea_ := Option.some.inj (hx259_4.symm.trans hx268_4)
       injection ea_ with ea_ en_ ec_
       subst ea_
       subst ec_
       clear en_
       obtain ⟨Ao40, co40, eo40⟩ := Kd.R_slice HO258.out
       subst eo40
       try go_wp2_with (first | ((with_reducible refine gate_callee (f := 42) rfl ?_); refine goesL_ (some 59) rfl rfl Try.func42 (by kernel_rfl) rfl #[.slice Ao40 y256.length co40, .int .i64 8, .int .u64 (IntKind.u64.wrap ((rd_T24 l0 x4_1).f2))] rfl (by (try simp only [List.map_toArray, List.map_cons, List.map_nil]); first | done | rfl | (simp only [List.length_drop, List.length_take]; rfl)) ?_; (with_reducible refine (zfP.calls k1 _ _ y256 8 (IntKind.u64.wrap ((rd_T24 l0 x4_1).f2)) t269 _ ?side1 ?side2 A31.out).mono ?_); (case side1 => repeat (first | exact (Kd.R_reads' HO258.out).2.2 | (with_reducible refine Kd.C_alloc ?_ _) | (with_reducible refine Kd.C_drewN ?_ _) | (with_reducible refine Kd.C_drew ?_))); (case side2 => exact (Kd.R_reads' HO258.out).2.1); rintro e w41 ⟨v270, rfl, ho0, hb⟩; refine ⟨_, rfl, ?_⟩; have n0_ := Zs.mk (Kd.R_elder' (by (with_reducible repeat (first | apply Kd.R_alloc | apply Kd.R_drewN | apply Kd.R_drew)); exact HO_3.out) (Kd.R_base ho0) hb); have n1_ := Zs.mk (Kd.R_elder' (by (with_reducible repeat (first | apply Kd.R_alloc | apply Kd.R_drewN | apply Kd.R_drew)); exact HO255.out) (Kd.R_base ho0) hb); have n2_ := Zs.mk (Kd.R_elder' (by (with_reducible repeat (first | apply Kd.R_alloc | apply Kd.R_drewN | apply Kd.R_drew)); exact HO258.out) (Kd.R_base ho0) hb); have n3_ := Zs.mk (Kd.R_lower (Kd.R_new' (Kd.R_new' (Kd.R_new' ho0 (Kd.R_lt (by (with_reducible repeat (first | apply Kd.R_alloc | apply Kd.R_drewN | apply Kd.R_drew)); exact HO_3.out))) (Kd.R_lt (by (with_reducible repeat (first | apply Kd.R_alloc | apply Kd.R_drewN | apply Kd.R_drew)); exact HO255.out))) (Kd.R_lt (by (with_reducible repeat (first | apply Kd.R_alloc | apply Kd.R_drewN | apply Kd.R_drew)); exact HO258.out))) (zbz (by repeat (first | (with_reducible first | exact HB.out | apply zba | apply zbn | apply zbd) | exact HB.out)))); have n4_ := Zs.mk (zbt (by repeat (first | (with_reducible first | exact HB.out | apply zba | apply zbn | apply zbd) | exact HB.out)) hb); clear HO_3; clear HO255; clear HO258; clear HB; have HO_3 := n0_; have HO255 := n1_; have HO258 := n2_; have HO271 := n3_; have HB := n4_; clear n0_ n1_ n2_ n3_ n4_; (try clear hb); (try clear hb2); (try clear hk); (try clear hi); (try clear hge); (try clear ho0)))
       go_roundg k1
       case measure => have := HK1.out; omega
       case rel => exact ⟨(t269), (wrap64 (x4_1 + 1)), (by first | rfl | (simp; done) | (simp [*]; done)), H', ⟨by have := HK1.out; omega⟩, ⟨by (with_reducible repeat (first | apply Kd.R_alloc | apply Kd.R_drewN | apply Kd.R_drew)); exact Kd.R_mono HO271.out (fun _ hk => trivial)⟩, ⟨by repeat (first | (with_reducible first | exact HB.out | apply zba | apply zbn | apply zbd) | exact HB.out)⟩⟩
      rw [if_neg c30] at H
      have c30b0 : (((rd_T24 l0 x4_1).f1) == 108) = false := beq_eq_false_iff_ne.mpr c30
      have c30b1 : (((rd_T24 l0 x4_1).f1) != 108) = true := bne_iff_ne.mpr c30
      by_cases c42 : ((rd_T24 l0 x4_1).f1) = 83
      ·
       rw [if_pos c42] at H
       have c42b0 : (((rd_T24 l0 x4_1).f1) == 83) = true := beq_iff_eq.mpr c42
       have c42b1 : (((rd_T24 l0 x4_1).f1) != 83) = false := bne_eq_false_iff_eq.mpr c42
       clear c42
       by_cases c43 : ((rd_T24 l0 x4_1).f3).size ≤ 9223372036854775807
       ·
        rw [if_pos c43] at H
        have c43b0 := eq_true c43
        have c43b1 : decide (((rd_T24 l0 x4_1).f3).size ≤ 9223372036854775807) = true := decide_eq_true c43
        try have c43b2 : (9223372036854775807 < ((rd_T24 l0 x4_1).f3).size) = False := eq_false (Nat.not_lt.2 c43)
        clear c43
        obtain ⟨y273, hy273⟩ : ∃ y_ : List Int, y_ = (bytesOf ((rd_T24 l0 x4_1).f3)) := ⟨_, rfl⟩
        replace H : ((waybillref1_Long.f k1 y256 y273).bind fun t276 => (zfw.l0 k1 l0 t276 (wrap64 (x4_1 + 1)))) = some r := by first | (rw [hy273]; with_reducible exact H) | (have H2_ := (Option.bind_some _ _).symm.trans H; rw [hy273]; with_reducible exact H2_) | (have H2_ := (Option.bind_some _ _).symm.trans H; with_reducible exact H2_) | with_reducible exact H | (rw [hy273]; exact H) | exact H
        have Ny273 := Zs.mk hy273
        clear hy273
        replace H := Option.bind_eq_some_iff.mp H
        obtain ⟨t276, A440, H⟩ := H
        replace H : (zfw.l0 k1 l0 t276 (wrap64 (x4_1 + 1))) = some r := H
        have A44 := Zs.mk A440
        clear A440
        have H' := Zs.mk H
        clear H
        obtain ⟨Ao45, co45, eo45⟩ := Kd.R_slice HO_3.out
        subst eo45
        try go_wp2
        have n0_ := Zs.mk (Kd.R_drew HO_3.out)
        have n1_ := Zs.mk (zbd HB.out)
        clear HO_3
        clear HB
        have HO_3 := n0_
        have HB := n1_
        clear n0_ n1_
        have p248 : 0 ≤ (x4_1 : Int) := of_decide_eq_true (by first | (with_reducible assumption) | assumption)
        have q248 : x4_1 < (l0.length : Int) := of_decide_eq_true (by first | (with_reducible assumption) | assumption)
        obtain ⟨ad248, A248_4, c248_4, e248, hx248_0, hx248_1, hx248_2, hx248_3, hx248_4, hl248_4, hi248_4⟩ := at_T24 HR0.out x4_1 p248 q248
        have hw248_4 := hx248_4
        have hw248_3 := hx248_3
        have hw248_2 := hx248_2
        have hw248_1 := hx248_1
        have hw248_0 := hx248_0
        cases e248
        replace hx248_0 := (HB.out.cell (zq4 w _ hx248_0)).trans hx248_0
        replace hx248_1 := (HB.out.cell (zq4 w _ hx248_1)).trans hx248_1
        replace hx248_2 := (HB.out.cell (zq4 w _ hx248_2)).trans hx248_2
        replace hx248_3 := (HB.out.cell (zq4 w _ hx248_3)).trans hx248_3
        replace hx248_4 := (HB.out.cell (zq4 w _ hx248_4)).trans hx248_4
        have HR248_4 := Zs.mk hi248_4
        have HC248_4 := Zs.mk hl248_4
        clear hi248_4 hl248_4
        replace p248 := eq_true p248
        replace q248 := eq_true q248
        have p252 : 0 ≤ (x4_1 : Int) := of_decide_eq_true (by first | (with_reducible assumption) | assumption)
        have q252 : x4_1 < (l0.length : Int) := of_decide_eq_true (by first | (with_reducible assumption) | assumption)
        obtain ⟨ad252, A252_4, c252_4, e252, hx252_0, hx252_1, hx252_2, hx252_3, hx252_4, hl252_4, hi252_4⟩ := at_T24 HR0.out x4_1 p252 q252
        have hw252_4 := hx252_4
        have hw252_3 := hx252_3
        have hw252_2 := hx252_2
        have hw252_1 := hx252_1
        have hw252_0 := hx252_0
        obtain rfl : ad248 = ad252 := (by injection e252)
        replace hx252_0 := (HB.out.cell (zq4 w _ hx252_0)).trans hx252_0
        replace hx252_1 := (HB.out.cell (zq4 w _ hx252_1)).trans hx252_1
        replace hx252_2 := (HB.out.cell (zq4 w _ hx252_2)).trans hx252_2
        replace hx252_3 := (HB.out.cell (zq4 w _ hx252_3)).trans hx252_3
        replace hx252_4 := (HB.out.cell (zq4 w _ hx252_4)).trans hx252_4
        have HR252_4 := Zs.mk hi252_4
        have HC252_4 := Zs.mk hl252_4
        clear hi252_4 hl252_4
        replace p252 := eq_true p252
        replace q252 := eq_true q252
        have ea_ := Option.some.inj (hx248_4.symm.trans hx252_4)
        injection ea_ with ea_ en_ ec_
        subst ea_
        subst ec_
        clear en_
        refine start_ (n := 15) (S := fun w' => w'.cell? (ad248.add ((x4_1).toNat * 5)) = some (.string ((rd_T24 l0 x4_1).f0)) ∧ w'.cell? ⟨(ad248.add ((x4_1).toNat * 5)).block, (ad248.add ((x4_1).toNat * 5)).off + 1, none⟩ = some (.int .u8 ((rd_T24 l0 x4_1).f1)) ∧ w'.cell? ⟨(ad248.add ((x4_1).toNat * 5)).block, (ad248.add ((x4_1).toNat * 5)).off + 2, none⟩ = some (.int .i64 ((rd_T24 l0 x4_1).f2)) ∧ w'.cell? ⟨(ad248.add ((x4_1).toNat * 5)).block, (ad248.add ((x4_1).toNat * 5)).off + 3, none⟩ = some (.string ((rd_T24 l0 x4_1).f3)) ∧ w'.cell? ⟨(ad248.add ((x4_1).toNat * 5)).block, (ad248.add ((x4_1).toNat * 5)).off + 4, none⟩ = some (.slice A248_4 ((rd_T24 l0 x4_1).f4).length c248_4) ∧ w'.cell? (ad248.add ((x4_1).toNat * 5)) = some (.string ((rd_T24 l0 x4_1).f0)) ∧ w'.cell? ⟨(ad248.add ((x4_1).toNat * 5)).block, (ad248.add ((x4_1).toNat * 5)).off + 1, none⟩ = some (.int .u8 ((rd_T24 l0 x4_1).f1)) ∧ w'.cell? ⟨(ad248.add ((x4_1).toNat * 5)).block, (ad248.add ((x4_1).toNat * 5)).off + 2, none⟩ = some (.int .i64 ((rd_T24 l0 x4_1).f2)) ∧ w'.cell? ⟨(ad248.add ((x4_1).toNat * 5)).block, (ad248.add ((x4_1).toNat * 5)).off + 3, none⟩ = some (.string ((rd_T24 l0 x4_1).f3)) ∧ w'.cell? ⟨(ad248.add ((x4_1).toNat * 5)).block, (ad248.add ((x4_1).toNat * 5)).off + 4, none⟩ = some (.slice A248_4 ((rd_T24 l0 x4_1).f4).length c248_4)) (ds := []) #[false, false, false, false, false, false, false, false, false, false, false, false, false, false, false] (by kernel_rfl) rfl rfl ⟨((HB.out.cell (zq4 w _ hw248_0)).trans hw248_0), ((HB.out.cell (zq4 w _ hw248_1)).trans hw248_1), ((HB.out.cell (zq4 w _ hw248_2)).trans hw248_2), ((HB.out.cell (zq4 w _ hw248_3)).trans hw248_3), ((HB.out.cell (zq4 w _ hw248_4)).trans hw248_4), ((HB.out.cell (zq4 w _ hw252_0)).trans hw252_0), ((HB.out.cell (zq4 w _ hw252_1)).trans hw252_1), ((HB.out.cell (zq4 w _ hw252_2)).trans hw252_2), ((HB.out.cell (zq4 w _ hw252_3)).trans hw252_3), ((HB.out.cell (zq4 w _ hw252_4)).trans hw252_4)⟩ (fun hHeld => ?_); refine with_tabW zfw.tab5 zfw.bits5 (fun HT_ HW_ => ?_)
        generalize wr.drew = w46 at HO_3 HB HR248_4 HR252_4 hx248_0 hx248_1 hx248_2 hx248_3 hx248_4 hx252_0 hx252_1 hx252_2 hx252_3 hx252_4 hHeld ⊢
        refine pure_ (i := 0) (N := some 11) (v := ?_) (a' := ?_) #[true, false, false, false, false, false, false, false, false, false, false, false, false, false, false] rfl rfl (any_of HT_.out (by kernel_rfl)) (fun _ _ _ h => h) (Or.inl ⟨by rfl, ?_⟩) ?_ ?_
        rotate_left
        ·
         intro w'
         go_simp
         with_reducible rfl
        rotate_left
        ·
         simp only [Act.put, zq1, zq2, zq3, i64_w, i32_w]
         rfl
        refine pure_ (i := 1) (N := some 12) (v := ?_) (a' := ?_) #[true, true, false, false, false, false, false, false, false, false, false, false, false, false, false] rfl rfl (any_of HT_.out (by kernel_rfl)) (fun _ _ _ h => h) (Or.inl ⟨by rfl, ?_⟩) ?_ ?_
        rotate_left
        ·
         intro w'
         go_simp
         with_reducible rfl
        rotate_left
        ·
         simp only [Act.put, zq1, zq2, zq3, i64_w, i32_w]
         rfl
        refine pure_ (i := 2) (N := some 13) (v := ?_) (a' := ?_) #[true, true, true, false, false, false, false, false, false, false, false, false, false, false, false] rfl rfl (any_of HT_.out (by kernel_rfl)) (fun _ _ _ h => h) (Or.inl ⟨by rfl, ?_⟩) ?_ ?_
        rotate_left
        ·
         intro w'
         go_simp
         with_reducible rfl
        rotate_left
        ·
         simp only [Act.put, zq1, zq2, zq3, i64_w, i32_w]
         rfl
        refine pure_ (i := 3) (N := some 14) (v := ?_) (a' := ?_) #[true, true, true, true, false, false, false, false, false, false, false, false, false, false, false] rfl rfl (any_of HT_.out (by kernel_rfl)) (fun _ _ _ h => h) (Or.inl ⟨by rfl, ?_⟩) ?_ ?_
        rotate_left
        ·
         intro w'
         go_simp
         with_reducible rfl
        rotate_left
        ·
         simp only [Act.put, zq1, zq2, zq3, i64_w, i32_w]
         rfl
        refine pure_ (i := 4) (N := some 15) (v := ?_) (a' := ?_) #[true, true, true, true, true, false, false, false, false, false, false, false, false, false, false] rfl rfl (any_of HT_.out (by kernel_rfl)) (fun _ _ _ h => h) (Or.inl ⟨by rfl, ?_⟩) ?_ ?_
        rotate_left
        ·
         intro w'
         go_simp
         with_reducible rfl
        rotate_left
        ·
         simp only [Act.put, zq1, zq2, zq3, i64_w, i32_w]
         rfl
        refine pure_ (i := 7) (N := some 18) (v := ?_) (a' := ?_) #[true, true, true, true, true, false, false, true, false, false, false, false, false, false, false] rfl rfl (any_of HT_.out (by kernel_rfl)) (fun _ _ _ h => h) (Or.inl ⟨by rfl, ?_⟩) ?_ ?_
        rotate_left
        ·
         intro w'
         go_simp
         with_reducible rfl
        rotate_left
        ·
         simp only [Act.put, zq1, zq2, zq3, i64_w, i32_w]
         rfl
        refine pure_ (i := 8) (N := some 19) (v := ?_) (a' := ?_) #[true, true, true, true, true, false, false, true, true, false, false, false, false, false, false] rfl rfl (any_of HT_.out (by kernel_rfl)) (fun _ _ _ h => h) (Or.inl ⟨by rfl, ?_⟩) ?_ ?_
        rotate_left
        ·
         intro w'
         go_simp
         with_reducible rfl
        rotate_left
        ·
         simp only [Act.put, zq1, zq2, zq3, i64_w, i32_w]
         rfl
        refine pure_ (i := 9) (N := some 20) (v := ?_) (a' := ?_) #[true, true, true, true, true, false, false, true, true, true, false, false, false, false, false] rfl rfl (any_of HT_.out (by kernel_rfl)) (fun _ _ _ h => h) (Or.inl ⟨by rfl, ?_⟩) ?_ ?_
        rotate_left
        ·
         intro w'
         go_simp
         with_reducible rfl
        rotate_left
        ·
         simp only [Act.put, zq1, zq2, zq3, i64_w, i32_w]
         rfl
        refine pure_ (i := 10) (N := some 21) (v := ?_) (a' := ?_) #[true, true, true, true, true, false, false, true, true, true, true, false, false, false, false] rfl rfl (any_of HT_.out (by kernel_rfl)) (fun _ _ _ h => h) (Or.inl ⟨by rfl, ?_⟩) ?_ ?_
        rotate_left
        ·
         intro w'
         go_simp
         with_reducible rfl
        rotate_left
        ·
         simp only [Act.put, zq1, zq2, zq3, i64_w, i32_w]
         rfl
        refine take_ (i := 5) (N := some 16) (v := ?_) (a' := ?_) #[true, true, true, true, true, true, false, true, true, true, true, false, false, false, false] rfl rfl (take_ofW HT_.out HW_.out (by kernel_rfl)) (fun _ _ _ h => h) (Or.inl ⟨by rfl, ?_⟩) hHeld ?_ ?_
        rotate_left
        ·
         rintro w' ⟨s0, s1, s2, s3, s4, s5, s6, s7, s8, s9⟩
         go_simp
         with_reducible rfl
        rotate_left
        ·
         simp only [Act.put, zq1, zq2, zq3, i64_w, i32_w]
         rfl
        refine take_ (i := 11) (N := some 22) (v := ?_) (a' := ?_) #[true, true, true, true, true, true, false, true, true, true, true, true, false, false, false] rfl rfl (take_ofW HT_.out HW_.out (by kernel_rfl)) (fun _ _ _ h => h) (Or.inl ⟨by rfl, ?_⟩) hHeld ?_ ?_
        rotate_left
        ·
         rintro w' ⟨s0, s1, s2, s3, s4, s5, s6, s7, s8, s9⟩
         go_simp
         with_reducible rfl
        rotate_left
        ·
         simp only [Act.put, zq1, zq2, zq3, i64_w, i32_w]
         rfl
        refine join_ (σ := Value × Value) 2 #[true, true, true, true, true, true, true, true, true, true, true, true, true, false, false] (fun s_ => [(17, s_.1), (23, s_.2)]) (fun s_ w' => (w'.cell? (ad248.add ((x4_1).toNat * 5)) = some (.string ((rd_T24 l0 x4_1).f0)) ∧ w'.cell? ⟨(ad248.add ((x4_1).toNat * 5)).block, (ad248.add ((x4_1).toNat * 5)).off + 1, none⟩ = some (.int .u8 ((rd_T24 l0 x4_1).f1)) ∧ w'.cell? ⟨(ad248.add ((x4_1).toNat * 5)).block, (ad248.add ((x4_1).toNat * 5)).off + 2, none⟩ = some (.int .i64 ((rd_T24 l0 x4_1).f2)) ∧ w'.cell? ⟨(ad248.add ((x4_1).toNat * 5)).block, (ad248.add ((x4_1).toNat * 5)).off + 3, none⟩ = some (.string ((rd_T24 l0 x4_1).f3)) ∧ w'.cell? ⟨(ad248.add ((x4_1).toNat * 5)).block, (ad248.add ((x4_1).toNat * 5)).off + 4, none⟩ = some (.slice A248_4 ((rd_T24 l0 x4_1).f4).length c248_4) ∧ w'.cell? (ad248.add ((x4_1).toNat * 5)) = some (.string ((rd_T24 l0 x4_1).f0)) ∧ w'.cell? ⟨(ad248.add ((x4_1).toNat * 5)).block, (ad248.add ((x4_1).toNat * 5)).off + 1, none⟩ = some (.int .u8 ((rd_T24 l0 x4_1).f1)) ∧ w'.cell? ⟨(ad248.add ((x4_1).toNat * 5)).block, (ad248.add ((x4_1).toNat * 5)).off + 2, none⟩ = some (.int .i64 ((rd_T24 l0 x4_1).f2)) ∧ w'.cell? ⟨(ad248.add ((x4_1).toNat * 5)).block, (ad248.add ((x4_1).toNat * 5)).off + 3, none⟩ = some (.string ((rd_T24 l0 x4_1).f3)) ∧ w'.cell? ⟨(ad248.add ((x4_1).toNat * 5)).block, (ad248.add ((x4_1).toNat * 5)).off + 4, none⟩ = some (.slice A248_4 ((rd_T24 l0 x4_1).f4).length c248_4)) ∧ (Kd.R (Kd.int .u8) 5 w' w.heap.size (fun k_ => some k_ ≠ (s_.2 : Value).ownBlock ∧ some k_ ≠ (.slice Ao45 x3_1.length co45 : Value).ownBlock) s_.1 t249) ∧ (Kd.R (Kd.int .u8) 5 w' w.heap.size (fun k_ => some k_ ≠ (s_.1 : Value).ownBlock ∧ some k_ ≠ (.slice Ao45 x3_1.length co45 : Value).ownBlock) s_.2 y253) ∧ (Kd.R (Kd.int .u8) 5 w' w.heap.size (fun k_ => some k_ ≠ (s_.1 : Value).ownBlock ∧ some k_ ≠ (s_.2 : Value).ownBlock) (.slice Ao45 x3_1.length co45) x3_1) ∧ (Below w.heap.size w w')) ?_ ?_
        rotate_left
        ·
         intro hCont
         refine two_ (i := 6) (j := 12) (Ni := some 17) (Nj := some 23) #[true, true, true, true, true, true, true, true, true, true, true, true, false, false, false] #[true, true, true, true, true, true, false, true, true, true, true, true, true, false, false] rfl rfl rfl rfl (two_of HT_.out (by kernel_rfl)) (by decide) (by decide) (fun K hK => ?_) (fun K hK => ?_)
         ·
          skip
          refine goes_ Try.func43 (by kernel_rfl) rfl #[.slice Ao45 x3_1.length co45, .string ((rd_T24 l0 x4_1).f0)] (by rfl) rfl rfl (by (try simp only [List.map_toArray, List.map_cons, List.map_nil]); first | done | rfl | (simp only [List.length_drop, List.length_take]; rfl)) ?_
          with_reducible refine (waybillref1_Short.calls k1 _ _ x3_1 ((rd_T24 l0 x4_1).f0) t249 _ ?side1 ?side2 A4.out).mono ?_
          (case side1 => repeat (first | exact (Kd.R_reads' HO_3.out).2.2 | (with_reducible refine Kd.C_alloc ?_ _) | (with_reducible refine Kd.C_drewN ?_ _) | (with_reducible refine Kd.C_drew ?_)))
          (case side2 => exact (Kd.R_reads' HO_3.out).2.1)
          rintro e w47 ⟨v250, rfl, ho0, hb⟩
          refine ⟨_, rfl, ?_⟩
          have n0_ := Zs.mk (Kd.R_elder' (by (with_reducible repeat (first | apply Kd.R_alloc | apply Kd.R_drewN | apply Kd.R_drew)); exact HO_3.out) (Kd.R_base ho0) hb)
          have n1_ := Zs.mk (Kd.R_lower (Kd.R_new' ho0 (Kd.R_lt (by (with_reducible repeat (first | apply Kd.R_alloc | apply Kd.R_drewN | apply Kd.R_drew)); exact HO_3.out))) (zbz (by repeat (first | (with_reducible first | exact HB.out | apply zba | apply zbn | apply zbd) | exact HB.out))))
          have n2_ := Zs.mk (zbt (by repeat (first | (with_reducible first | exact HB.out | apply zba | apply zbn | apply zbd) | exact HB.out)) hb)
          clear HO_3
          clear HB
          have HO_3 := n0_
          have HO251 := n1_
          have HB := n2_
          clear n0_ n1_ n2_
          (try clear hb)
          (try clear hb2)
          (try clear hk)
          (try clear hi)
          (try clear hge)
          (try clear ho0)
          refine hK.out _ _ ⟨((HB.out.cell (zq4 w _ hw248_0)).trans hw248_0), ((HB.out.cell (zq4 w _ hw248_1)).trans hw248_1), ((HB.out.cell (zq4 w _ hw248_2)).trans hw248_2), ((HB.out.cell (zq4 w _ hw248_3)).trans hw248_3), ((HB.out.cell (zq4 w _ hw248_4)).trans hw248_4), ((HB.out.cell (zq4 w _ hw252_0)).trans hw252_0), ((HB.out.cell (zq4 w _ hw252_1)).trans hw252_1), ((HB.out.cell (zq4 w _ hw252_2)).trans hw252_2), ((HB.out.cell (zq4 w _ hw252_3)).trans hw252_3), ((HB.out.cell (zq4 w _ hw252_4)).trans hw252_4)⟩ (fun hHeld => ?_)
          clear hK K
          refine norm_ (a' := ?_) ?_ ?_
          rotate_left
          ·
           show Act.put _ (some 17) _ = _
           simp only [Act.put, zq1, zq2, zq3, i64_w, i32_w]
           rfl
          refine one_ (i := 12) (N := some 23) #[true, true, true, true, true, true, true, true, true, true, true, true, true, false, false] rfl rfl (one_of HT_.out (by kernel_rfl)) (by decide) (fun K hK => ?_)
          refine Kd.R_lit_step (Kd.int .u8) _ 5 ?hg (N := 23) ?hd (xs := ([(rd_T24 l0 x4_1).f1] : List Int)) (inner := [.int .u8 ((rd_T24 l0 x4_1).f1)]) (ok := fun _ => True) (okp := fun _ => True) ?hr ?hp (fun _ hk => hk) trivial (Below.refl _ _) (Nat.le_refl _) (by simp) ?_; (case hd => rfl); (case hg => rfl); (case hr => first | (go_simp; done) | (go_simp; rfl)); (case hp => exact (Reps.one (show Kd.M (Kd.int .u8) _ _ _ ((rd_T24 l0 x4_1).f1) [.int .u8 ((rd_T24 l0 x4_1).f1)] from rfl) (Reps.none _ _)))
          intro v254 w48 ho49 hb hg_ hnew_
          clear hg_ hnew_
          (first | rw [← Ny253.out] at ho49 | (simp only [Int.reduceToNat] at ho49; rw [← Ny253.out] at ho49))
          have n0_ := Zs.mk (Kd.R_elder' (by (with_reducible repeat (first | apply Kd.R_alloc | apply Kd.R_drewN | apply Kd.R_drew)); exact HO_3.out) (Kd.R_base ho49) hb)
          have n1_ := Zs.mk (Kd.R_elder' (by (with_reducible repeat (first | apply Kd.R_alloc | apply Kd.R_drewN | apply Kd.R_drew)); exact HO251.out) (Kd.R_base ho49) hb)
          have n2_ := Zs.mk (Kd.R_lower (Kd.R_new' (Kd.R_new' ho49 (Kd.R_lt (by (with_reducible repeat (first | apply Kd.R_alloc | apply Kd.R_drewN | apply Kd.R_drew)); exact HO_3.out))) (Kd.R_lt (by (with_reducible repeat (first | apply Kd.R_alloc | apply Kd.R_drewN | apply Kd.R_drew)); exact HO251.out))) (zbz (by repeat (first | (with_reducible first | exact HB.out | apply zba | apply zbn | apply zbd) | exact HB.out))))
          have n3_ := Zs.mk (zbt (by repeat (first | (with_reducible first | exact HB.out | apply zba | apply zbn | apply zbd) | exact HB.out)) hb)
          clear HO_3
          clear HO251
          clear HB
          have HO_3 := n0_
          have HO251 := n1_
          have HO255 := n2_
          have HB := n3_
          clear n0_ n1_ n2_ n3_
          clear hb ho49
          refine hK.out _ _ ⟨((HB.out.cell (zq4 w _ hw248_0)).trans hw248_0), ((HB.out.cell (zq4 w _ hw248_1)).trans hw248_1), ((HB.out.cell (zq4 w _ hw248_2)).trans hw248_2), ((HB.out.cell (zq4 w _ hw248_3)).trans hw248_3), ((HB.out.cell (zq4 w _ hw248_4)).trans hw248_4), ((HB.out.cell (zq4 w _ hw252_0)).trans hw252_0), ((HB.out.cell (zq4 w _ hw252_1)).trans hw252_1), ((HB.out.cell (zq4 w _ hw252_2)).trans hw252_2), ((HB.out.cell (zq4 w _ hw252_3)).trans hw252_3), ((HB.out.cell (zq4 w _ hw252_4)).trans hw252_4)⟩ (fun hHeld => ?_)
          clear hK K
          refine norm_ (a' := ?_) ?_ ?_
          rotate_left
          ·
           show Act.put _ (some 23) _ = _
           simp only [Act.put, zq1, zq2, zq3, i64_w, i32_w]
           rfl
          exact norm_ (by simp only [putAll, Act.put, zq1, zq2, zq3]) (hCont (v250, v254) _ ⟨hHeld, (by (with_reducible repeat (first | apply Kd.R_alloc | apply Kd.R_drewN | apply Kd.R_drew)); exact Kd.R_mono HO251.out (fun _ hk => ⟨hk.2, hk.1.2⟩)), (by (with_reducible repeat (first | apply Kd.R_alloc | apply Kd.R_drewN | apply Kd.R_drew)); exact Kd.R_mono HO255.out (fun _ hk => ⟨hk.2, hk.1.2⟩)), (by (with_reducible repeat (first | apply Kd.R_alloc | apply Kd.R_drewN | apply Kd.R_drew)); exact Kd.R_mono HO_3.out (fun _ hk => ⟨hk.1.2, hk.2⟩)), (by repeat (first | (with_reducible first | exact HB.out | apply zba | apply zbn | apply zbd) | exact HB.out))⟩)
         skip
         refine Kd.R_lit_step (Kd.int .u8) _ 5 ?hg (N := 23) ?hd (xs := ([(rd_T24 l0 x4_1).f1] : List Int)) (inner := [.int .u8 ((rd_T24 l0 x4_1).f1)]) (ok := fun _ => True) (okp := fun _ => True) ?hr ?hp (fun _ hk => hk) trivial (Below.refl _ _) (Nat.le_refl _) (by simp) ?_; (case hd => rfl); (case hg => rfl); (case hr => first | (go_simp; done) | (go_simp; rfl)); (case hp => exact (Reps.one (show Kd.M (Kd.int .u8) _ _ _ ((rd_T24 l0 x4_1).f1) [.int .u8 ((rd_T24 l0 x4_1).f1)] from rfl) (Reps.none _ _)))
         intro v254 w47 ho48 hb hg_ hnew_
         clear hg_ hnew_
         (first | rw [← Ny253.out] at ho48 | (simp only [Int.reduceToNat] at ho48; rw [← Ny253.out] at ho48))
         have n0_ := Zs.mk (Kd.R_elder' (by (with_reducible repeat (first | apply Kd.R_alloc | apply Kd.R_drewN | apply Kd.R_drew)); exact HO_3.out) (Kd.R_base ho48) hb)
         have n1_ := Zs.mk (Kd.R_lower (Kd.R_new' ho48 (Kd.R_lt (by (with_reducible repeat (first | apply Kd.R_alloc | apply Kd.R_drewN | apply Kd.R_drew)); exact HO_3.out))) (zbz (by repeat (first | (with_reducible first | exact HB.out | apply zba | apply zbn | apply zbd) | exact HB.out))))
         have n2_ := Zs.mk (zbt (by repeat (first | (with_reducible first | exact HB.out | apply zba | apply zbn | apply zbd) | exact HB.out)) hb)
         clear HO_3
         clear HB
         have HO_3 := n0_
         have HO255 := n1_
         have HB := n2_
         clear n0_ n1_ n2_
         clear hb ho48
         refine hK.out _ _ ⟨((HB.out.cell (zq4 w _ hw248_0)).trans hw248_0), ((HB.out.cell (zq4 w _ hw248_1)).trans hw248_1), ((HB.out.cell (zq4 w _ hw248_2)).trans hw248_2), ((HB.out.cell (zq4 w _ hw248_3)).trans hw248_3), ((HB.out.cell (zq4 w _ hw248_4)).trans hw248_4), ((HB.out.cell (zq4 w _ hw252_0)).trans hw252_0), ((HB.out.cell (zq4 w _ hw252_1)).trans hw252_1), ((HB.out.cell (zq4 w _ hw252_2)).trans hw252_2), ((HB.out.cell (zq4 w _ hw252_3)).trans hw252_3), ((HB.out.cell (zq4 w _ hw252_4)).trans hw252_4)⟩ (fun hHeld => ?_)
         clear hK K
         refine norm_ (a' := ?_) ?_ ?_
         rotate_left
         ·
          show Act.put _ (some 23) _ = _
          simp only [Act.put, zq1, zq2, zq3, i64_w, i32_w]
          rfl
         refine one_ (i := 6) (N := some 17) #[true, true, true, true, true, true, true, true, true, true, true, true, true, false, false] rfl rfl (one_of HT_.out (by kernel_rfl)) (by decide) (fun K hK => ?_)
         refine goes_ Try.func43 (by kernel_rfl) rfl #[.slice Ao45 x3_1.length co45, .string ((rd_T24 l0 x4_1).f0)] (by rfl) rfl rfl (by (try simp only [List.map_toArray, List.map_cons, List.map_nil]); first | done | rfl | (simp only [List.length_drop, List.length_take]; rfl)) ?_
         with_reducible refine (waybillref1_Short.calls k1 _ _ x3_1 ((rd_T24 l0 x4_1).f0) t249 _ ?side1 ?side2 A4.out).mono ?_
         (case side1 => repeat (first | exact (Kd.R_reads' HO_3.out).2.2 | (with_reducible refine Kd.C_alloc ?_ _) | (with_reducible refine Kd.C_drewN ?_ _) | (with_reducible refine Kd.C_drew ?_)))
         (case side2 => exact (Kd.R_reads' HO_3.out).2.1)
         rintro e w49 ⟨v250, rfl, ho0, hb⟩
         refine ⟨_, rfl, ?_⟩
         have n0_ := Zs.mk (Kd.R_elder' (by (with_reducible repeat (first | apply Kd.R_alloc | apply Kd.R_drewN | apply Kd.R_drew)); exact HO_3.out) (Kd.R_base ho0) hb)
         have n1_ := Zs.mk (Kd.R_elder' (by (with_reducible repeat (first | apply Kd.R_alloc | apply Kd.R_drewN | apply Kd.R_drew)); exact HO255.out) (Kd.R_base ho0) hb)
         have n2_ := Zs.mk (Kd.R_lower (Kd.R_new' (Kd.R_new' ho0 (Kd.R_lt (by (with_reducible repeat (first | apply Kd.R_alloc | apply Kd.R_drewN | apply Kd.R_drew)); exact HO_3.out))) (Kd.R_lt (by (with_reducible repeat (first | apply Kd.R_alloc | apply Kd.R_drewN | apply Kd.R_drew)); exact HO255.out))) (zbz (by repeat (first | (with_reducible first | exact HB.out | apply zba | apply zbn | apply zbd) | exact HB.out))))
         have n3_ := Zs.mk (zbt (by repeat (first | (with_reducible first | exact HB.out | apply zba | apply zbn | apply zbd) | exact HB.out)) hb)
         clear HO_3
         clear HO255
         clear HB
         have HO_3 := n0_
         have HO255 := n1_
         have HO251 := n2_
         have HB := n3_
         clear n0_ n1_ n2_ n3_
         (try clear hb)
         (try clear hb2)
         (try clear hk)
         (try clear hi)
         (try clear hge)
         (try clear ho0)
         refine hK.out _ _ ⟨((HB.out.cell (zq4 w _ hw248_0)).trans hw248_0), ((HB.out.cell (zq4 w _ hw248_1)).trans hw248_1), ((HB.out.cell (zq4 w _ hw248_2)).trans hw248_2), ((HB.out.cell (zq4 w _ hw248_3)).trans hw248_3), ((HB.out.cell (zq4 w _ hw248_4)).trans hw248_4), ((HB.out.cell (zq4 w _ hw252_0)).trans hw252_0), ((HB.out.cell (zq4 w _ hw252_1)).trans hw252_1), ((HB.out.cell (zq4 w _ hw252_2)).trans hw252_2), ((HB.out.cell (zq4 w _ hw252_3)).trans hw252_3), ((HB.out.cell (zq4 w _ hw252_4)).trans hw252_4)⟩ (fun hHeld => ?_)
         clear hK K
         refine norm_ (a' := ?_) ?_ ?_
         rotate_left
         ·
          show Act.put _ (some 17) _ = _
          simp only [Act.put, zq1, zq2, zq3, i64_w, i32_w]
          rfl
         exact norm_ (by simp only [putAll, Act.put, zq1, zq2, zq3]) (hCont (v250, v254) _ ⟨hHeld, (by (with_reducible repeat (first | apply Kd.R_alloc | apply Kd.R_drewN | apply Kd.R_drew)); exact Kd.R_mono HO251.out (fun _ hk => ⟨hk.2, hk.1.2⟩)), (by (with_reducible repeat (first | apply Kd.R_alloc | apply Kd.R_drewN | apply Kd.R_drew)); exact Kd.R_mono HO255.out (fun _ hk => ⟨hk.2, hk.1.2⟩)), (by (with_reducible repeat (first | apply Kd.R_alloc | apply Kd.R_drewN | apply Kd.R_drew)); exact Kd.R_mono HO_3.out (fun _ hk => ⟨hk.2, hk.1.2⟩)), (by repeat (first | (with_reducible first | exact HB.out | apply zba | apply zbn | apply zbd) | exact HB.out))⟩)
        rintro ⟨v250, v254⟩ w50 ⟨hS_, h0_, h1_, h2_, h3_⟩
        have n0_ : Zs (Kd.R (Kd.int .u8) 5 w50 w.heap.size (fun k_ => some k_ ≠ (v254 : Value).ownBlock ∧ some k_ ≠ (.slice Ao45 x3_1.length co45 : Value).ownBlock) v250 t249) := ⟨h0_⟩
        have n1_ : Zs (Kd.R (Kd.int .u8) 5 w50 w.heap.size (fun k_ => some k_ ≠ (v250 : Value).ownBlock ∧ some k_ ≠ (.slice Ao45 x3_1.length co45 : Value).ownBlock) v254 y253) := ⟨h1_⟩
        have n2_ : Zs (Kd.R (Kd.int .u8) 5 w50 w.heap.size (fun k_ => some k_ ≠ (v250 : Value).ownBlock ∧ some k_ ≠ (v254 : Value).ownBlock) (.slice Ao45 x3_1.length co45) x3_1) := ⟨h2_⟩
        have n3_ : Zs (Below w.heap.size w w50) := ⟨h3_⟩
        clear HO_3
        clear HB
        clear h0_ h1_ h2_ h3_
        have HO251 := n0_
        have HO255 := n1_
        have HO_3 := n2_
        have HB := n3_
        clear n0_ n1_ n2_ n3_
        have hHeld : w50.cell? (ad248.add ((x4_1).toNat * 5)) = some (.string ((rd_T24 l0 x4_1).f0)) ∧ w50.cell? ⟨(ad248.add ((x4_1).toNat * 5)).block, (ad248.add ((x4_1).toNat * 5)).off + 1, none⟩ = some (.int .u8 ((rd_T24 l0 x4_1).f1)) ∧ w50.cell? ⟨(ad248.add ((x4_1).toNat * 5)).block, (ad248.add ((x4_1).toNat * 5)).off + 2, none⟩ = some (.int .i64 ((rd_T24 l0 x4_1).f2)) ∧ w50.cell? ⟨(ad248.add ((x4_1).toNat * 5)).block, (ad248.add ((x4_1).toNat * 5)).off + 3, none⟩ = some (.string ((rd_T24 l0 x4_1).f3)) ∧ w50.cell? ⟨(ad248.add ((x4_1).toNat * 5)).block, (ad248.add ((x4_1).toNat * 5)).off + 4, none⟩ = some (.slice A248_4 ((rd_T24 l0 x4_1).f4).length c248_4) ∧ w50.cell? (ad248.add ((x4_1).toNat * 5)) = some (.string ((rd_T24 l0 x4_1).f0)) ∧ w50.cell? ⟨(ad248.add ((x4_1).toNat * 5)).block, (ad248.add ((x4_1).toNat * 5)).off + 1, none⟩ = some (.int .u8 ((rd_T24 l0 x4_1).f1)) ∧ w50.cell? ⟨(ad248.add ((x4_1).toNat * 5)).block, (ad248.add ((x4_1).toNat * 5)).off + 2, none⟩ = some (.int .i64 ((rd_T24 l0 x4_1).f2)) ∧ w50.cell? ⟨(ad248.add ((x4_1).toNat * 5)).block, (ad248.add ((x4_1).toNat * 5)).off + 3, none⟩ = some (.string ((rd_T24 l0 x4_1).f3)) ∧ w50.cell? ⟨(ad248.add ((x4_1).toNat * 5)).block, (ad248.add ((x4_1).toNat * 5)).off + 4, none⟩ = some (.slice A248_4 ((rd_T24 l0 x4_1).f4).length c248_4) := hS_
        obtain ⟨Ao52, co52, eo52⟩ := Kd.R_slice HO255.out
        (first | subst eo52 | (injection eo52 with f1_ f2_ f3_; have f4_ := f1_.symm; have f5_ := f3_.symm; clear f1_ f2_ f3_; subst f4_; subst f5_))
        refine norm_ (a' := ?_) ?_ ?_
        rotate_left
        ·
         simp only [putAll, Act.put, zq1, zq2, zq3]
         rfl
        refine one_ (i := 13) (N := some 24) #[true, true, true, true, true, true, true, true, true, true, true, true, true, true, false] rfl rfl (one_of HT_.out (by kernel_rfl)) (by decide) (fun K hK => ?_)
        refine Kd.R_append_rows_step (Kd.int .u8) (w0 := w) w.heap.size (by rfl) (.tmp 17) (.tmp 23) 25 5 (.int .u8 0) 1 rfl Try.underlying25 info5 rfl (by decide) (by omega) v250 t249 y253 _ _ _ (fun k_ => some k_ ≠ (.slice Ao45 x3_1.length co45 : Value).ownBlock ∧ some k_ ≠ (.slice Ao52 y253.length co52 : Value).ownBlock) (fun _ => False) rfl rfl ?aO ?aR (fun _ _ h => h) (fun _ h => h.elim) ?aF ?aB ?aS ?aL ?_
        (case aR => repeat (first | exact (Kd.R_reads' HO255.out).2.2 | (with_reducible refine Kd.C_alloc ?_ _) | (with_reducible refine Kd.C_drewN ?_ _) | (with_reducible refine Kd.C_drew ?_)))
        (case aB => exact (by repeat (first | (with_reducible first | exact HB.out | apply zba | apply zbn | apply zbd) | exact HB.out)))
        (case aF => exact (fun k_ hk => ⟨Kd.fresh' (Kd.R_lt (by (with_reducible repeat (first | apply Kd.R_alloc | apply Kd.R_drewN | apply Kd.R_drew)); exact HO_3.out)) k_ hk, Kd.fresh' (Kd.R_lt (by (with_reducible repeat (first | apply Kd.R_alloc | apply Kd.R_drewN | apply Kd.R_drew)); exact HO255.out)) k_ hk⟩))
        (case aO => exact (by (with_reducible repeat (first | apply Kd.R_alloc | apply Kd.R_drewN | apply Kd.R_drew)); exact Kd.R_mono HO251.out (fun _ hk => ⟨hk.2, hk.1⟩)))
        (case aS => exact (zbz (by repeat (first | (with_reducible first | exact HB.out | apply zba | apply zbn | apply zbd) | exact HB.out))))
        (case aL => have := LMc5.out; omega)
        intro v257 w51 ho hb hg hat
        rw [← Ny256.out] at ho
        have n0_ := Zs.mk (Kd.R_after (ok := (fun k_ => some k_ ≠ (.slice Ao52 y253.length co52 : Value).ownBlock)) (by (with_reducible repeat (first | apply Kd.R_alloc | apply Kd.R_drewN | apply Kd.R_drew)); exact Kd.R_mono HO_3.out (fun _ hk => ⟨hk.2, hk.1⟩)) hg hat)
        have n1_ := Zs.mk (Kd.R_after (ok := (fun k_ => some k_ ≠ (.slice Ao45 x3_1.length co45 : Value).ownBlock)) (by (with_reducible repeat (first | apply Kd.R_alloc | apply Kd.R_drewN | apply Kd.R_drew)); exact Kd.R_mono HO255.out (fun _ hk => ⟨hk.2, hk.1⟩)) hg hat)
        have n2_ := Zs.mk (hb)
        have n3_ := Zs.mk (ho)
        clear HO_3
        clear HO255
        clear HB
        clear HO251
        have HO_3 := n0_
        have HO255 := n1_
        have HB := n2_
        have HO258 := n3_
        clear n0_ n1_ n2_ n3_
        clear ho hb hg hat
        refine hK.out _ _ ⟨((HB.out.cell (zq4 w _ hw248_0)).trans hw248_0), ((HB.out.cell (zq4 w _ hw248_1)).trans hw248_1), ((HB.out.cell (zq4 w _ hw248_2)).trans hw248_2), ((HB.out.cell (zq4 w _ hw248_3)).trans hw248_3), ((HB.out.cell (zq4 w _ hw248_4)).trans hw248_4), ((HB.out.cell (zq4 w _ hw252_0)).trans hw252_0), ((HB.out.cell (zq4 w _ hw252_1)).trans hw252_1), ((HB.out.cell (zq4 w _ hw252_2)).trans hw252_2), ((HB.out.cell (zq4 w _ hw252_3)).trans hw252_3), ((HB.out.cell (zq4 w _ hw252_4)).trans hw252_4)⟩ (fun hHeld => ?_)
        clear hK K
        refine norm_ (a' := ?_) ?_ ?_
        rotate_left
        ·
         show Act.put _ (some 24) _ = _
         simp only [Act.put, zq1, zq2, zq3, i64_w, i32_w]
         rfl
        refine pure_ (i := 14) (N := some 3) (v := ?_) (a' := ?_) #[true, true, true, true, true, true, true, true, true, true, true, true, true, true, true] rfl rfl (any_of HT_.out (by kernel_rfl)) (fun _ _ _ h => h) (Or.inl ⟨by rfl, ?_⟩) ?_ ?_
        rotate_left
        ·
         intro w'
         go_simp
         with_reducible rfl
        rotate_left
        ·
         simp only [Act.put, zq1, zq2, zq3, i64_w, i32_w]
         rfl
        refine done_ (done_of HT_.out (by kernel_rfl)) ?_
        have p259 : 0 ≤ (x4_1 : Int) := of_decide_eq_true (by first | (with_reducible assumption) | assumption)
        have q259 : x4_1 < (l0.length : Int) := of_decide_eq_true (by first | (with_reducible assumption) | assumption)
        obtain ⟨ad259, A259_4, c259_4, e259, hx259_0, hx259_1, hx259_2, hx259_3, hx259_4, hl259_4, hi259_4⟩ := at_T24 HR0.out x4_1 p259 q259
        obtain rfl : ad248 = ad259 := (by injection e259)
        replace hx259_0 := (HB.out.cell (zq4 w _ hx259_0)).trans hx259_0
        replace hx259_1 := (HB.out.cell (zq4 w _ hx259_1)).trans hx259_1
        replace hx259_2 := (HB.out.cell (zq4 w _ hx259_2)).trans hx259_2
        replace hx259_3 := (HB.out.cell (zq4 w _ hx259_3)).trans hx259_3
        replace hx259_4 := (HB.out.cell (zq4 w _ hx259_4)).trans hx259_4
        have HR259_4 := Zs.mk hi259_4
        have HC259_4 := Zs.mk hl259_4
        clear hi259_4 hl259_4
        replace p259 := eq_true p259
        replace q259 := eq_true q259
        have p272 : 0 ≤ (x4_1 : Int) := of_decide_eq_true (by first | (with_reducible assumption) | assumption)
        have q272 : x4_1 < (l0.length : Int) := of_decide_eq_true (by first | (with_reducible assumption) | assumption)
        obtain ⟨ad272, A272_4, c272_4, e272, hx272_0, hx272_1, hx272_2, hx272_3, hx272_4, hl272_4, hi272_4⟩ := at_T24 HR0.out x4_1 p272 q272
        obtain rfl : ad248 = ad272 := (by injection e272)
        replace hx272_0 := (HB.out.cell (zq4 w _ hx272_0)).trans hx272_0
        replace hx272_1 := (HB.out.cell (zq4 w _ hx272_1)).trans hx272_1
        replace hx272_2 := (HB.out.cell (zq4 w _ hx272_2)).trans hx272_2
        replace hx272_3 := (HB.out.cell (zq4 w _ hx272_3)).trans hx272_3
        replace hx272_4 := (HB.out.cell (zq4 w _ hx272_4)).trans hx272_4
        have HR272_4 := Zs.mk hi272_4
        have HC272_4 := Zs.mk hl272_4
        clear hi272_4 hl272_4
        replace p272 := eq_true p272
        replace q272 := eq_true q272
        have ea_ := Option.some.inj (hx259_4.symm.trans hx272_4)
        injection ea_ with ea_ en_ ec_
        subst ea_
        subst ec_
        clear en_
        try go_wp2_with (first | ((with_reducible refine gate_dst (N := 68) rfl ?_); refine Kd.V_conv _ 5 9 25 rfl (N := 68) rfl ((rd_T24 l0 x4_1).f3) _ rfl rfl Try.underlying9 Try.underlying25 Try.underlying5 (Below.refl _ _) (Nat.le_refl _) (of_decide_eq_true (by first | (with_reducible assumption) | assumption)) ?_; intro v274 w53 ho54 hb hg_ hnew_; clear hg_ hnew_; (first | rw [← Ny273.out] at ho54 | (simp only [Int.reduceToNat] at ho54; rw [← Ny273.out] at ho54)); have n0_ := Zs.mk (Kd.R_below (by (with_reducible repeat (first | apply Kd.R_alloc | apply Kd.R_drewN | apply Kd.R_drew)); exact HO_3.out) hb); have n1_ := Zs.mk (Kd.R_below (by (with_reducible repeat (first | apply Kd.R_alloc | apply Kd.R_drewN | apply Kd.R_drew)); exact HO255.out) hb); have n2_ := Zs.mk (Kd.R_below (by (with_reducible repeat (first | apply Kd.R_alloc | apply Kd.R_drewN | apply Kd.R_drew)); exact HO258.out) hb); have n3_ := Zs.mk (Kd.V_lower (Kd.V_mono (ok' := fun k_ => some k_ ≠ (.slice Ao45 x3_1.length co45 : Value).ownBlock ∧ some k_ ≠ (.slice Ao52 y253.length co52 : Value).ownBlock ∧ some k_ ≠ (v257 : Value).ownBlock) ho54 (fun k_ hk_ => ⟨(Kd.fresh' (Kd.R_lt (by (with_reducible repeat (first | apply Kd.R_alloc | apply Kd.R_drewN | apply Kd.R_drew)); exact HO_3.out)) k_ hk_), (Kd.fresh' (Kd.R_lt (by (with_reducible repeat (first | apply Kd.R_alloc | apply Kd.R_drewN | apply Kd.R_drew)); exact HO255.out)) k_ hk_), (Kd.fresh' (Kd.R_lt (by (with_reducible repeat (first | apply Kd.R_alloc | apply Kd.R_drewN | apply Kd.R_drew)); exact HO258.out)) k_ hk_)⟩)) (zbz (by repeat (first | (with_reducible first | exact HB.out | apply zba | apply zbn | apply zbd) | exact HB.out)))); have n4_ := Zs.mk (zbt (by repeat (first | (with_reducible first | exact HB.out | apply zba | apply zbn | apply zbd) | exact HB.out)) hb); clear HO_3; clear HO255; clear HO258; clear HB; have HO_3 := n0_; have HO255 := n1_; have HO258 := n2_; have HO275 := n3_; have HB := n4_; clear n0_ n1_ n2_ n3_ n4_; clear hb ho54; obtain ⟨Ao55, co55, eo55⟩ := Kd.R_slice HO258.out; subst eo55; obtain ⟨Ao56, co56, eo56⟩ := Kd.V_slice HO275.out; subst eo56) | ((with_reducible refine gate_callee (f := 59) rfl ?_); refine goesL_ (some 69) rfl rfl Try.func59 (by kernel_rfl) rfl #[.slice Ao55 y256.length co55, .slice Ao56 y273.length co56] rfl (by (try simp only [List.map_toArray, List.map_cons, List.map_nil]); first | done | rfl | (simp only [List.length_drop, List.length_take]; rfl)) ?_; (with_reducible refine (waybillref1_Long.calls k1 _ _ y256 _ _ y273 t276 _ ?side1 ?side2 ?side3 ?side4 A44.out).mono ?_); (case side1 => repeat (first | exact (Kd.R_reads' HO258.out).2.2 | (with_reducible refine Kd.C_alloc ?_ _) | (with_reducible refine Kd.C_drewN ?_ _) | (with_reducible refine Kd.C_drew ?_))); (case side2 => exact (Kd.R_reads' HO258.out).2.1); (case side3 => repeat (first | exact (Kd.V_reads' HO275.out).2.2 | (with_reducible refine Kd.C_alloc ?_ _) | (with_reducible refine Kd.C_drewN ?_ _) | (with_reducible refine Kd.C_drew ?_))); (case side4 => exact (Kd.V_reads' HO275.out).2.1); rintro e w57 ⟨v277, rfl, ho0, hb⟩; refine ⟨_, rfl, ?_⟩; have n0_ := Zs.mk (Kd.R_elder' (by (with_reducible repeat (first | apply Kd.R_alloc | apply Kd.R_drewN | apply Kd.R_drew)); exact HO_3.out) (Kd.R_base ho0) hb); have n1_ := Zs.mk (Kd.R_elder' (by (with_reducible repeat (first | apply Kd.R_alloc | apply Kd.R_drewN | apply Kd.R_drew)); exact HO255.out) (Kd.R_base ho0) hb); have n2_ := Zs.mk (Kd.R_elder' (by (with_reducible repeat (first | apply Kd.R_alloc | apply Kd.R_drewN | apply Kd.R_drew)); exact HO258.out) (Kd.R_base ho0) hb); have n3_ := Zs.mk (Kd.V_elder' (by (with_reducible repeat (first | apply Kd.V_alloc | apply Kd.V_drewN | apply Kd.V_drew)); exact HO275.out) (Kd.R_base ho0) hb); have n4_ := Zs.mk (Kd.R_lower (Kd.R_new' (Kd.R_new' (Kd.R_new' ho0 (Kd.R_lt (by (with_reducible repeat (first | apply Kd.R_alloc | apply Kd.R_drewN | apply Kd.R_drew)); exact HO_3.out))) (Kd.R_lt (by (with_reducible repeat (first | apply Kd.R_alloc | apply Kd.R_drewN | apply Kd.R_drew)); exact HO255.out))) (Kd.R_lt (by (with_reducible repeat (first | apply Kd.R_alloc | apply Kd.R_drewN | apply Kd.R_drew)); exact HO258.out))) (zbz (by repeat (first | (with_reducible first | exact HB.out | apply zba | apply zbn | apply zbd) | exact HB.out)))); have n5_ := Zs.mk (zbt (by repeat (first | (with_reducible first | exact HB.out | apply zba | apply zbn | apply zbd) | exact HB.out)) hb); clear HO_3; clear HO255; clear HO258; clear HO275; clear HB; have HO_3 := n0_; have HO255 := n1_; have HO258 := n2_; have HO275 := n3_; have HO278 := n4_; have HB := n5_; clear n0_ n1_ n2_ n3_ n4_ n5_; (try clear hb); (try clear hb2); (try clear hk); (try clear hi); (try clear hge); (try clear ho0)))
        go_roundg k1
        case measure => have := HK1.out; omega
        case rel => exact ⟨(t276), (wrap64 (x4_1 + 1)), (by first | rfl | (simp; done) | (simp [*]; done)), H', ⟨by have := HK1.out; omega⟩, ⟨by (with_reducible repeat (first | apply Kd.R_alloc | apply Kd.R_drewN | apply Kd.R_drew)); exact Kd.R_mono HO278.out (fun _ hk => trivial)⟩, ⟨by repeat (first | (with_reducible first | exact HB.out | apply zba | apply zbn | apply zbd) | exact HB.out)⟩⟩
       rw [if_neg c43] at H
       exact absurd H (by simp)
      rw [if_neg c42] at H
      have c42b0 : (((rd_T24 l0 x4_1).f1) == 83) = false := beq_eq_false_iff_ne.mpr c42
      have c42b1 : (((rd_T24 l0 x4_1).f1) != 83) = true := bne_iff_ne.mpr c42
      by_cases c58 : ((rd_T24 l0 x4_1).f1) = 70
      ·
       rw [if_pos c58] at H
       have c58b0 : (((rd_T24 l0 x4_1).f1) == 70) = true := beq_iff_eq.mpr c58
       have c58b1 : (((rd_T24 l0 x4_1).f1) != 70) = false := bne_eq_false_iff_eq.mpr c58
       clear c58
       replace H := Option.bind_eq_some_iff.mp H
       obtain ⟨t280, A590, H⟩ := H
       replace H : ((waybillref1_Long.f k1 y256 t280).bind fun t283 => (zfw.l0 k1 l0 t283 (wrap64 (x4_1 + 1)))) = some r := H
       have A59 := Zs.mk A590
       clear A590
       replace H := Option.bind_eq_some_iff.mp H
       obtain ⟨t283, A600, H⟩ := H
       replace H : (zfw.l0 k1 l0 t283 (wrap64 (x4_1 + 1))) = some r := H
       have A60 := Zs.mk A600
       clear A600
       have H' := Zs.mk H
       clear H
       obtain ⟨Ao61, co61, eo61⟩ := Kd.R_slice HO_3.out
       subst eo61
       try go_wp2
       have n0_ := Zs.mk (Kd.R_drew HO_3.out)
       have n1_ := Zs.mk (zbd HB.out)
       clear HO_3
       clear HB
       have HO_3 := n0_
       have HB := n1_
       clear n0_ n1_
       have p248 : 0 ≤ (x4_1 : Int) := of_decide_eq_true (by first | (with_reducible assumption) | assumption)
       have q248 : x4_1 < (l0.length : Int) := of_decide_eq_true (by first | (with_reducible assumption) | assumption)
       obtain ⟨ad248, A248_4, c248_4, e248, hx248_0, hx248_1, hx248_2, hx248_3, hx248_4, hl248_4, hi248_4⟩ := at_T24 HR0.out x4_1 p248 q248
       have hw248_4 := hx248_4
       have hw248_3 := hx248_3
       have hw248_2 := hx248_2
       have hw248_1 := hx248_1
       have hw248_0 := hx248_0
       cases e248
       replace hx248_0 := (HB.out.cell (zq4 w _ hx248_0)).trans hx248_0
       replace hx248_1 := (HB.out.cell (zq4 w _ hx248_1)).trans hx248_1
       replace hx248_2 := (HB.out.cell (zq4 w _ hx248_2)).trans hx248_2
       replace hx248_3 := (HB.out.cell (zq4 w _ hx248_3)).trans hx248_3
       replace hx248_4 := (HB.out.cell (zq4 w _ hx248_4)).trans hx248_4
       have HR248_4 := Zs.mk hi248_4
       have HC248_4 := Zs.mk hl248_4
       clear hi248_4 hl248_4
       replace p248 := eq_true p248
       replace q248 := eq_true q248
       have p252 : 0 ≤ (x4_1 : Int) := of_decide_eq_true (by first | (with_reducible assumption) | assumption)
       have q252 : x4_1 < (l0.length : Int) := of_decide_eq_true (by first | (with_reducible assumption) | assumption)
       obtain ⟨ad252, A252_4, c252_4, e252, hx252_0, hx252_1, hx252_2, hx252_3, hx252_4, hl252_4, hi252_4⟩ := at_T24 HR0.out x4_1 p252 q252
       have hw252_4 := hx252_4
       have hw252_3 := hx252_3
       have hw252_2 := hx252_2
       have hw252_1 := hx252_1
       have hw252_0 := hx252_0
       obtain rfl : ad248 = ad252 := (by injection e252)
       replace hx252_0 := (HB.out.cell (zq4 w _ hx252_0)).trans hx252_0
       replace hx252_1 := (HB.out.cell (zq4 w _ hx252_1)).trans hx252_1
       replace hx252_2 := (HB.out.cell (zq4 w _ hx252_2)).trans hx252_2
       replace hx252_3 := (HB.out.cell (zq4 w _ hx252_3)).trans hx252_3
       replace hx252_4 := (HB.out.cell (zq4 w _ hx252_4)).trans hx252_4
       have HR252_4 := Zs.mk hi252_4
       have HC252_4 := Zs.mk hl252_4
       clear hi252_4 hl252_4
       replace p252 := eq_true p252
       replace q252 := eq_true q252
       have ea_ := Option.some.inj (hx248_4.symm.trans hx252_4)
       injection ea_ with ea_ en_ ec_
       subst ea_
       subst ec_
       clear en_
       refine start_ (n := 15) (S := fun w' => w'.cell? (ad248.add ((x4_1).toNat * 5)) = some (.string ((rd_T24 l0 x4_1).f0)) ∧ w'.cell? ⟨(ad248.add ((x4_1).toNat * 5)).block, (ad248.add ((x4_1).toNat * 5)).off + 1, none⟩ = some (.int .u8 ((rd_T24 l0 x4_1).f1)) ∧ w'.cell? ⟨(ad248.add ((x4_1).toNat * 5)).block, (ad248.add ((x4_1).toNat * 5)).off + 2, none⟩ = some (.int .i64 ((rd_T24 l0 x4_1).f2)) ∧ w'.cell? ⟨(ad248.add ((x4_1).toNat * 5)).block, (ad248.add ((x4_1).toNat * 5)).off + 3, none⟩ = some (.string ((rd_T24 l0 x4_1).f3)) ∧ w'.cell? ⟨(ad248.add ((x4_1).toNat * 5)).block, (ad248.add ((x4_1).toNat * 5)).off + 4, none⟩ = some (.slice A248_4 ((rd_T24 l0 x4_1).f4).length c248_4) ∧ w'.cell? (ad248.add ((x4_1).toNat * 5)) = some (.string ((rd_T24 l0 x4_1).f0)) ∧ w'.cell? ⟨(ad248.add ((x4_1).toNat * 5)).block, (ad248.add ((x4_1).toNat * 5)).off + 1, none⟩ = some (.int .u8 ((rd_T24 l0 x4_1).f1)) ∧ w'.cell? ⟨(ad248.add ((x4_1).toNat * 5)).block, (ad248.add ((x4_1).toNat * 5)).off + 2, none⟩ = some (.int .i64 ((rd_T24 l0 x4_1).f2)) ∧ w'.cell? ⟨(ad248.add ((x4_1).toNat * 5)).block, (ad248.add ((x4_1).toNat * 5)).off + 3, none⟩ = some (.string ((rd_T24 l0 x4_1).f3)) ∧ w'.cell? ⟨(ad248.add ((x4_1).toNat * 5)).block, (ad248.add ((x4_1).toNat * 5)).off + 4, none⟩ = some (.slice A248_4 ((rd_T24 l0 x4_1).f4).length c248_4)) (ds := []) #[false, false, false, false, false, false, false, false, false, false, false, false, false, false, false] (by kernel_rfl) rfl rfl ⟨((HB.out.cell (zq4 w _ hw248_0)).trans hw248_0), ((HB.out.cell (zq4 w _ hw248_1)).trans hw248_1), ((HB.out.cell (zq4 w _ hw248_2)).trans hw248_2), ((HB.out.cell (zq4 w _ hw248_3)).trans hw248_3), ((HB.out.cell (zq4 w _ hw248_4)).trans hw248_4), ((HB.out.cell (zq4 w _ hw252_0)).trans hw252_0), ((HB.out.cell (zq4 w _ hw252_1)).trans hw252_1), ((HB.out.cell (zq4 w _ hw252_2)).trans hw252_2), ((HB.out.cell (zq4 w _ hw252_3)).trans hw252_3), ((HB.out.cell (zq4 w _ hw252_4)).trans hw252_4)⟩ (fun hHeld => ?_); refine with_tabW zfw.tab5 zfw.bits5 (fun HT_ HW_ => ?_)
       generalize wr.drew = w62 at HO_3 HB HR248_4 HR252_4 hx248_0 hx248_1 hx248_2 hx248_3 hx248_4 hx252_0 hx252_1 hx252_2 hx252_3 hx252_4 hHeld ⊢
       refine pure_ (i := 0) (N := some 11) (v := ?_) (a' := ?_) #[true, false, false, false, false, false, false, false, false, false, false, false, false, false, false] rfl rfl (any_of HT_.out (by kernel_rfl)) (fun _ _ _ h => h) (Or.inl ⟨by rfl, ?_⟩) ?_ ?_
       rotate_left
       ·
        intro w'
        go_simp
        with_reducible rfl
       rotate_left
       ·
        simp only [Act.put, zq1, zq2, zq3, i64_w, i32_w]
        rfl
       refine pure_ (i := 1) (N := some 12) (v := ?_) (a' := ?_) #[true, true, false, false, false, false, false, false, false, false, false, false, false, false, false] rfl rfl (any_of HT_.out (by kernel_rfl)) (fun _ _ _ h => h) (Or.inl ⟨by rfl, ?_⟩) ?_ ?_
       rotate_left
       ·
        intro w'
        go_simp
        with_reducible rfl
       rotate_left
       ·
        simp only [Act.put, zq1, zq2, zq3, i64_w, i32_w]
        rfl
       refine pure_ (i := 2) (N := some 13) (v := ?_) (a' := ?_) #[true, true, true, false, false, false, false, false, false, false, false, false, false, false, false] rfl rfl (any_of HT_.out (by kernel_rfl)) (fun _ _ _ h => h) (Or.inl ⟨by rfl, ?_⟩) ?_ ?_
       rotate_left
       ·
        intro w'
        go_simp
        with_reducible rfl
       rotate_left
       ·
        simp only [Act.put, zq1, zq2, zq3, i64_w, i32_w]
        rfl
       refine pure_ (i := 3) (N := some 14) (v := ?_) (a' := ?_) #[true, true, true, true, false, false, false, false, false, false, false, false, false, false, false] rfl rfl (any_of HT_.out (by kernel_rfl)) (fun _ _ _ h => h) (Or.inl ⟨by rfl, ?_⟩) ?_ ?_
       rotate_left
       ·
        intro w'
        go_simp
        with_reducible rfl
       rotate_left
       ·
        simp only [Act.put, zq1, zq2, zq3, i64_w, i32_w]
        rfl
       refine pure_ (i := 4) (N := some 15) (v := ?_) (a' := ?_) #[true, true, true, true, true, false, false, false, false, false, false, false, false, false, false] rfl rfl (any_of HT_.out (by kernel_rfl)) (fun _ _ _ h => h) (Or.inl ⟨by rfl, ?_⟩) ?_ ?_
       rotate_left
       ·
        intro w'
        go_simp
        with_reducible rfl
       rotate_left
       ·
        simp only [Act.put, zq1, zq2, zq3, i64_w, i32_w]
        rfl
       refine pure_ (i := 7) (N := some 18) (v := ?_) (a' := ?_) #[true, true, true, true, true, false, false, true, false, false, false, false, false, false, false] rfl rfl (any_of HT_.out (by kernel_rfl)) (fun _ _ _ h => h) (Or.inl ⟨by rfl, ?_⟩) ?_ ?_
       rotate_left
       ·
        intro w'
        go_simp
        with_reducible rfl
       rotate_left
       ·
        simp only [Act.put, zq1, zq2, zq3, i64_w, i32_w]
        rfl
       refine pure_ (i := 8) (N := some 19) (v := ?_) (a' := ?_) #[true, true, true, true, true, false, false, true, true, false, false, false, false, false, false] rfl rfl (any_of HT_.out (by kernel_rfl)) (fun _ _ _ h => h) (Or.inl ⟨by rfl, ?_⟩) ?_ ?_
       rotate_left
       ·
        intro w'
        go_simp
        with_reducible rfl
       rotate_left
       ·
        simp only [Act.put, zq1, zq2, zq3, i64_w, i32_w]
        rfl
       refine pure_ (i := 9) (N := some 20) (v := ?_) (a' := ?_) #[true, true, true, true, true, false, false, true, true, true, false, false, false, false, false] rfl rfl (any_of HT_.out (by kernel_rfl)) (fun _ _ _ h => h) (Or.inl ⟨by rfl, ?_⟩) ?_ ?_
       rotate_left
       ·
        intro w'
        go_simp
        with_reducible rfl
       rotate_left
       ·
        simp only [Act.put, zq1, zq2, zq3, i64_w, i32_w]
        rfl
       refine pure_ (i := 10) (N := some 21) (v := ?_) (a' := ?_) #[true, true, true, true, true, false, false, true, true, true, true, false, false, false, false] rfl rfl (any_of HT_.out (by kernel_rfl)) (fun _ _ _ h => h) (Or.inl ⟨by rfl, ?_⟩) ?_ ?_
       rotate_left
       ·
        intro w'
        go_simp
        with_reducible rfl
       rotate_left
       ·
        simp only [Act.put, zq1, zq2, zq3, i64_w, i32_w]
        rfl
       refine take_ (i := 5) (N := some 16) (v := ?_) (a' := ?_) #[true, true, true, true, true, true, false, true, true, true, true, false, false, false, false] rfl rfl (take_ofW HT_.out HW_.out (by kernel_rfl)) (fun _ _ _ h => h) (Or.inl ⟨by rfl, ?_⟩) hHeld ?_ ?_
       rotate_left
       ·
        rintro w' ⟨s0, s1, s2, s3, s4, s5, s6, s7, s8, s9⟩
        go_simp
        with_reducible rfl
       rotate_left
       ·
        simp only [Act.put, zq1, zq2, zq3, i64_w, i32_w]
        rfl
       refine take_ (i := 11) (N := some 22) (v := ?_) (a' := ?_) #[true, true, true, true, true, true, false, true, true, true, true, true, false, false, false] rfl rfl (take_ofW HT_.out HW_.out (by kernel_rfl)) (fun _ _ _ h => h) (Or.inl ⟨by rfl, ?_⟩) hHeld ?_ ?_
       rotate_left
       ·
        rintro w' ⟨s0, s1, s2, s3, s4, s5, s6, s7, s8, s9⟩
        go_simp
        with_reducible rfl
       rotate_left
       ·
        simp only [Act.put, zq1, zq2, zq3, i64_w, i32_w]
        rfl
       refine join_ (σ := Value × Value) 2 #[true, true, true, true, true, true, true, true, true, true, true, true, true, false, false] (fun s_ => [(17, s_.1), (23, s_.2)]) (fun s_ w' => (w'.cell? (ad248.add ((x4_1).toNat * 5)) = some (.string ((rd_T24 l0 x4_1).f0)) ∧ w'.cell? ⟨(ad248.add ((x4_1).toNat * 5)).block, (ad248.add ((x4_1).toNat * 5)).off + 1, none⟩ = some (.int .u8 ((rd_T24 l0 x4_1).f1)) ∧ w'.cell? ⟨(ad248.add ((x4_1).toNat * 5)).block, (ad248.add ((x4_1).toNat * 5)).off + 2, none⟩ = some (.int .i64 ((rd_T24 l0 x4_1).f2)) ∧ w'.cell? ⟨(ad248.add ((x4_1).toNat * 5)).block, (ad248.add ((x4_1).toNat * 5)).off + 3, none⟩ = some (.string ((rd_T24 l0 x4_1).f3)) ∧ w'.cell? ⟨(ad248.add ((x4_1).toNat * 5)).block, (ad248.add ((x4_1).toNat * 5)).off + 4, none⟩ = some (.slice A248_4 ((rd_T24 l0 x4_1).f4).length c248_4) ∧ w'.cell? (ad248.add ((x4_1).toNat * 5)) = some (.string ((rd_T24 l0 x4_1).f0)) ∧ w'.cell? ⟨(ad248.add ((x4_1).toNat * 5)).block, (ad248.add ((x4_1).toNat * 5)).off + 1, none⟩ = some (.int .u8 ((rd_T24 l0 x4_1).f1)) ∧ w'.cell? ⟨(ad248.add ((x4_1).toNat * 5)).block, (ad248.add ((x4_1).toNat * 5)).off + 2, none⟩ = some (.int .i64 ((rd_T24 l0 x4_1).f2)) ∧ w'.cell? ⟨(ad248.add ((x4_1).toNat * 5)).block, (ad248.add ((x4_1).toNat * 5)).off + 3, none⟩ = some (.string ((rd_T24 l0 x4_1).f3)) ∧ w'.cell? ⟨(ad248.add ((x4_1).toNat * 5)).block, (ad248.add ((x4_1).toNat * 5)).off + 4, none⟩ = some (.slice A248_4 ((rd_T24 l0 x4_1).f4).length c248_4)) ∧ (Kd.R (Kd.int .u8) 5 w' w.heap.size (fun k_ => some k_ ≠ (s_.2 : Value).ownBlock ∧ some k_ ≠ (.slice Ao61 x3_1.length co61 : Value).ownBlock) s_.1 t249) ∧ (Kd.R (Kd.int .u8) 5 w' w.heap.size (fun k_ => some k_ ≠ (s_.1 : Value).ownBlock ∧ some k_ ≠ (.slice Ao61 x3_1.length co61 : Value).ownBlock) s_.2 y253) ∧ (Kd.R (Kd.int .u8) 5 w' w.heap.size (fun k_ => some k_ ≠ (s_.1 : Value).ownBlock ∧ some k_ ≠ (s_.2 : Value).ownBlock) (.slice Ao61 x3_1.length co61) x3_1) ∧ (Below w.heap.size w w')) ?_ ?_
       rotate_left
       ·
        intro hCont
        refine two_ (i := 6) (j := 12) (Ni := some 17) (Nj := some 23) #[true, true, true, true, true, true, true, true, true, true, true, true, false, false, false] #[true, true, true, true, true, true, false, true, true, true, true, true, true, false, false] rfl rfl rfl rfl (two_of HT_.out (by kernel_rfl)) (by decide) (by decide) (fun K hK => ?_) (fun K hK => ?_)
        ·
         skip
         refine goes_ Try.func43 (by kernel_rfl) rfl #[.slice Ao61 x3_1.length co61, .string ((rd_T24 l0 x4_1).f0)] (by rfl) rfl rfl (by (try simp only [List.map_toArray, List.map_cons, List.map_nil]); first | done | rfl | (simp only [List.length_drop, List.length_take]; rfl)) ?_
         with_reducible refine (waybillref1_Short.calls k1 _ _ x3_1 ((rd_T24 l0 x4_1).f0) t249 _ ?side1 ?side2 A4.out).mono ?_
         (case side1 => repeat (first | exact (Kd.R_reads' HO_3.out).2.2 | (with_reducible refine Kd.C_alloc ?_ _) | (with_reducible refine Kd.C_drewN ?_ _) | (with_reducible refine Kd.C_drew ?_)))
         (case side2 => exact (Kd.R_reads' HO_3.out).2.1)
         rintro e w63 ⟨v250, rfl, ho0, hb⟩
         refine ⟨_, rfl, ?_⟩
         have n0_ := Zs.mk (Kd.R_elder' (by (with_reducible repeat (first | apply Kd.R_alloc | apply Kd.R_drewN | apply Kd.R_drew)); exact HO_3.out) (Kd.R_base ho0) hb)
         have n1_ := Zs.mk (Kd.R_lower (Kd.R_new' ho0 (Kd.R_lt (by (with_reducible repeat (first | apply Kd.R_alloc | apply Kd.R_drewN | apply Kd.R_drew)); exact HO_3.out))) (zbz (by repeat (first | (with_reducible first | exact HB.out | apply zba | apply zbn | apply zbd) | exact HB.out))))
         have n2_ := Zs.mk (zbt (by repeat (first | (with_reducible first | exact HB.out | apply zba | apply zbn | apply zbd) | exact HB.out)) hb)
         clear HO_3
         clear HB
         have HO_3 := n0_
         have HO251 := n1_
         have HB := n2_
         clear n0_ n1_ n2_
         (try clear hb)
         (try clear hb2)
         (try clear hk)
         (try clear hi)
         (try clear hge)
         (try clear ho0)
         refine hK.out _ _ ⟨((HB.out.cell (zq4 w _ hw248_0)).trans hw248_0), ((HB.out.cell (zq4 w _ hw248_1)).trans hw248_1), ((HB.out.cell (zq4 w _ hw248_2)).trans hw248_2), ((HB.out.cell (zq4 w _ hw248_3)).trans hw248_3), ((HB.out.cell (zq4 w _ hw248_4)).trans hw248_4), ((HB.out.cell (zq4 w _ hw252_0)).trans hw252_0), ((HB.out.cell (zq4 w _ hw252_1)).trans hw252_1), ((HB.out.cell (zq4 w _ hw252_2)).trans hw252_2), ((HB.out.cell (zq4 w _ hw252_3)).trans hw252_3), ((HB.out.cell (zq4 w _ hw252_4)).trans hw252_4)⟩ (fun hHeld => ?_)
         clear hK K
         refine norm_ (a' := ?_) ?_ ?_
         rotate_left
         ·
          show Act.put _ (some 17) _ = _
          simp only [Act.put, zq1, zq2, zq3, i64_w, i32_w]
          rfl
         refine one_ (i := 12) (N := some 23) #[true, true, true, true, true, true, true, true, true, true, true, true, true, false, false] rfl rfl (one_of HT_.out (by kernel_rfl)) (by decide) (fun K hK => ?_)
         refine Kd.R_lit_step (Kd.int .u8) _ 5 ?hg (N := 23) ?hd (xs := ([(rd_T24 l0 x4_1).f1] : List Int)) (inner := [.int .u8 ((rd_T24 l0 x4_1).f1)]) (ok := fun _ => True) (okp := fun _ => True) ?hr ?hp (fun _ hk => hk) trivial (Below.refl _ _) (Nat.le_refl _) (by simp) ?_; (case hd => rfl); (case hg => rfl); (case hr => first | (go_simp; done) | (go_simp; rfl)); (case hp => exact (Reps.one (show Kd.M (Kd.int .u8) _ _ _ ((rd_T24 l0 x4_1).f1) [.int .u8 ((rd_T24 l0 x4_1).f1)] from rfl) (Reps.none _ _)))
         intro v254 w64 ho65 hb hg_ hnew_
         clear hg_ hnew_
         (first | rw [← Ny253.out] at ho65 | (simp only [Int.reduceToNat] at ho65; rw [← Ny253.out] at ho65))
         have n0_ := Zs.mk (Kd.R_elder' (by (with_reducible repeat (first | apply Kd.R_alloc | apply Kd.R_drewN | apply Kd.R_drew)); exact HO_3.out) (Kd.R_base ho65) hb)
         have n1_ := Zs.mk (Kd.R_elder' (by (with_reducible repeat (first | apply Kd.R_alloc | apply Kd.R_drewN | apply Kd.R_drew)); exact HO251.out) (Kd.R_base ho65) hb)
         have n2_ := Zs.mk (Kd.R_lower (Kd.R_new' (Kd.R_new' ho65 (Kd.R_lt (by (with_reducible repeat (first | apply Kd.R_alloc | apply Kd.R_drewN | apply Kd.R_drew)); exact HO_3.out))) (Kd.R_lt (by (with_reducible repeat (first | apply Kd.R_alloc | apply Kd.R_drewN | apply Kd.R_drew)); exact HO251.out))) (zbz (by repeat (first | (with_reducible first | exact HB.out | apply zba | apply zbn | apply zbd) | exact HB.out))))
         have n3_ := Zs.mk (zbt (by repeat (first | (with_reducible first | exact HB.out | apply zba | apply zbn | apply zbd) | exact HB.out)) hb)
         clear HO_3
         clear HO251
         clear HB
         have HO_3 := n0_
         have HO251 := n1_
         have HO255 := n2_
         have HB := n3_
         clear n0_ n1_ n2_ n3_
         clear hb ho65
         refine hK.out _ _ ⟨((HB.out.cell (zq4 w _ hw248_0)).trans hw248_0), ((HB.out.cell (zq4 w _ hw248_1)).trans hw248_1), ((HB.out.cell (zq4 w _ hw248_2)).trans hw248_2), ((HB.out.cell (zq4 w _ hw248_3)).trans hw248_3), ((HB.out.cell (zq4 w _ hw248_4)).trans hw248_4), ((HB.out.cell (zq4 w _ hw252_0)).trans hw252_0), ((HB.out.cell (zq4 w _ hw252_1)).trans hw252_1), ((HB.out.cell (zq4 w _ hw252_2)).trans hw252_2), ((HB.out.cell (zq4 w _ hw252_3)).trans hw252_3), ((HB.out.cell (zq4 w _ hw252_4)).trans hw252_4)⟩ (fun hHeld => ?_)
         clear hK K
         refine norm_ (a' := ?_) ?_ ?_
         rotate_left
         ·
          show Act.put _ (some 23) _ = _
          simp only [Act.put, zq1, zq2, zq3, i64_w, i32_w]
          rfl
         exact norm_ (by simp only [putAll, Act.put, zq1, zq2, zq3]) (hCont (v250, v254) _ ⟨hHeld, (by (with_reducible repeat (first | apply Kd.R_alloc | apply Kd.R_drewN | apply Kd.R_drew)); exact Kd.R_mono HO251.out (fun _ hk => ⟨hk.2, hk.1.2⟩)), (by (with_reducible repeat (first | apply Kd.R_alloc | apply Kd.R_drewN | apply Kd.R_drew)); exact Kd.R_mono HO255.out (fun _ hk => ⟨hk.2, hk.1.2⟩)), (by (with_reducible repeat (first | apply Kd.R_alloc | apply Kd.R_drewN | apply Kd.R_drew)); exact Kd.R_mono HO_3.out (fun _ hk => ⟨hk.1.2, hk.2⟩)), (by repeat (first | (with_reducible first | exact HB.out | apply zba | apply zbn | apply zbd) | exact HB.out))⟩)
        skip
        refine Kd.R_lit_step (Kd.int .u8) _ 5 ?hg (N := 23) ?hd (xs := ([(rd_T24 l0 x4_1).f1] : List Int)) (inner := [.int .u8 ((rd_T24 l0 x4_1).f1)]) (ok := fun _ => True) (okp := fun _ => True) ?hr ?hp (fun _ hk => hk) trivial (Below.refl _ _) (Nat.le_refl _) (by simp) ?_; (case hd => rfl); (case hg => rfl); (case hr => first | (go_simp; done) | (go_simp; rfl)); (case hp => exact (Reps.one (show Kd.M (Kd.int .u8) _ _ _ ((rd_T24 l0 x4_1).f1) [.int .u8 ((rd_T24 l0 x4_1).f1)] from rfl) (Reps.none _ _)))
        intro v254 w63 ho64 hb hg_ hnew_
        clear hg_ hnew_
        (first | rw [← Ny253.out] at ho64 | (simp only [Int.reduceToNat] at ho64; rw [← Ny253.out] at ho64))
        have n0_ := Zs.mk (Kd.R_elder' (by (with_reducible repeat (first | apply Kd.R_alloc | apply Kd.R_drewN | apply Kd.R_drew)); exact HO_3.out) (Kd.R_base ho64) hb)
        have n1_ := Zs.mk (Kd.R_lower (Kd.R_new' ho64 (Kd.R_lt (by (with_reducible repeat (first | apply Kd.R_alloc | apply Kd.R_drewN | apply Kd.R_drew)); exact HO_3.out))) (zbz (by repeat (first | (with_reducible first | exact HB.out | apply zba | apply zbn | apply zbd) | exact HB.out))))
        have n2_ := Zs.mk (zbt (by repeat (first | (with_reducible first | exact HB.out | apply zba | apply zbn | apply zbd) | exact HB.out)) hb)
        clear HO_3
        clear HB
        have HO_3 := n0_
        have HO255 := n1_
        have HB := n2_
        clear n0_ n1_ n2_
        clear hb ho64
        refine hK.out _ _ ⟨((HB.out.cell (zq4 w _ hw248_0)).trans hw248_0), ((HB.out.cell (zq4 w _ hw248_1)).trans hw248_1), ((HB.out.cell (zq4 w _ hw248_2)).trans hw248_2), ((HB.out.cell (zq4 w _ hw248_3)).trans hw248_3), ((HB.out.cell (zq4 w _ hw248_4)).trans hw248_4), ((HB.out.cell (zq4 w _ hw252_0)).trans hw252_0), ((HB.out.cell (zq4 w _ hw252_1)).trans hw252_1), ((HB.out.cell (zq4 w _ hw252_2)).trans hw252_2), ((HB.out.cell (zq4 w _ hw252_3)).trans hw252_3), ((HB.out.cell (zq4 w _ hw252_4)).trans hw252_4)⟩ (fun hHeld => ?_)
        clear hK K
        refine norm_ (a' := ?_) ?_ ?_
        rotate_left
        ·
         show Act.put _ (some 23) _ = _
         simp only [Act.put, zq1, zq2, zq3, i64_w, i32_w]
         rfl
        refine one_ (i := 6) (N := some 17) #[true, true, true, true, true, true, true, true, true, true, true, true, true, false, false] rfl rfl (one_of HT_.out (by kernel_rfl)) (by decide) (fun K hK => ?_)
        refine goes_ Try.func43 (by kernel_rfl) rfl #[.slice Ao61 x3_1.length co61, .string ((rd_T24 l0 x4_1).f0)] (by rfl) rfl rfl (by (try simp only [List.map_toArray, List.map_cons, List.map_nil]); first | done | rfl | (simp only [List.length_drop, List.length_take]; rfl)) ?_
        with_reducible refine (waybillref1_Short.calls k1 _ _ x3_1 ((rd_T24 l0 x4_1).f0) t249 _ ?side1 ?side2 A4.out).mono ?_
        (case side1 => repeat (first | exact (Kd.R_reads' HO_3.out).2.2 | (with_reducible refine Kd.C_alloc ?_ _) | (with_reducible refine Kd.C_drewN ?_ _) | (with_reducible refine Kd.C_drew ?_)))
        (case side2 => exact (Kd.R_reads' HO_3.out).2.1)
        rintro e w65 ⟨v250, rfl, ho0, hb⟩
        refine ⟨_, rfl, ?_⟩
        have n0_ := Zs.mk (Kd.R_elder' (by (with_reducible repeat (first | apply Kd.R_alloc | apply Kd.R_drewN | apply Kd.R_drew)); exact HO_3.out) (Kd.R_base ho0) hb)
        have n1_ := Zs.mk (Kd.R_elder' (by (with_reducible repeat (first | apply Kd.R_alloc | apply Kd.R_drewN | apply Kd.R_drew)); exact HO255.out) (Kd.R_base ho0) hb)
        have n2_ := Zs.mk (Kd.R_lower (Kd.R_new' (Kd.R_new' ho0 (Kd.R_lt (by (with_reducible repeat (first | apply Kd.R_alloc | apply Kd.R_drewN | apply Kd.R_drew)); exact HO_3.out))) (Kd.R_lt (by (with_reducible repeat (first | apply Kd.R_alloc | apply Kd.R_drewN | apply Kd.R_drew)); exact HO255.out))) (zbz (by repeat (first | (with_reducible first | exact HB.out | apply zba | apply zbn | apply zbd) | exact HB.out))))
        have n3_ := Zs.mk (zbt (by repeat (first | (with_reducible first | exact HB.out | apply zba | apply zbn | apply zbd) | exact HB.out)) hb)
        clear HO_3
        clear HO255
        clear HB
        have HO_3 := n0_
        have HO255 := n1_
        have HO251 := n2_
        have HB := n3_
        clear n0_ n1_ n2_ n3_
        (try clear hb)
        (try clear hb2)
        (try clear hk)
        (try clear hi)
        (try clear hge)
        (try clear ho0)
        refine hK.out _ _ ⟨((HB.out.cell (zq4 w _ hw248_0)).trans hw248_0), ((HB.out.cell (zq4 w _ hw248_1)).trans hw248_1), ((HB.out.cell (zq4 w _ hw248_2)).trans hw248_2), ((HB.out.cell (zq4 w _ hw248_3)).trans hw248_3), ((HB.out.cell (zq4 w _ hw248_4)).trans hw248_4), ((HB.out.cell (zq4 w _ hw252_0)).trans hw252_0), ((HB.out.cell (zq4 w _ hw252_1)).trans hw252_1), ((HB.out.cell (zq4 w _ hw252_2)).trans hw252_2), ((HB.out.cell (zq4 w _ hw252_3)).trans hw252_3), ((HB.out.cell (zq4 w _ hw252_4)).trans hw252_4)⟩ (fun hHeld => ?_)
        clear hK K
        refine norm_ (a' := ?_) ?_ ?_
        rotate_left
        ·
         show Act.put _ (some 17) _ = _
         simp only [Act.put, zq1, zq2, zq3, i64_w, i32_w]
         rfl
        exact norm_ (by simp only [putAll, Act.put, zq1, zq2, zq3]) (hCont (v250, v254) _ ⟨hHeld, (by (with_reducible repeat (first | apply Kd.R_alloc | apply Kd.R_drewN | apply Kd.R_drew)); exact Kd.R_mono HO251.out (fun _ hk => ⟨hk.2, hk.1.2⟩)), (by (with_reducible repeat (first | apply Kd.R_alloc | apply Kd.R_drewN | apply Kd.R_drew)); exact Kd.R_mono HO255.out (fun _ hk => ⟨hk.2, hk.1.2⟩)), (by (with_reducible repeat (first | apply Kd.R_alloc | apply Kd.R_drewN | apply Kd.R_drew)); exact Kd.R_mono HO_3.out (fun _ hk => ⟨hk.2, hk.1.2⟩)), (by repeat (first | (with_reducible first | exact HB.out | apply zba | apply zbn | apply zbd) | exact HB.out))⟩)
       rintro ⟨v250, v254⟩ w66 ⟨hS_, h0_, h1_, h2_, h3_⟩
       have n0_ : Zs (Kd.R (Kd.int .u8) 5 w66 w.heap.size (fun k_ => some k_ ≠ (v254 : Value).ownBlock ∧ some k_ ≠ (.slice Ao61 x3_1.length co61 : Value).ownBlock) v250 t249) := ⟨h0_⟩
       have n1_ : Zs (Kd.R (Kd.int .u8) 5 w66 w.heap.size (fun k_ => some k_ ≠ (v250 : Value).ownBlock ∧ some k_ ≠ (.slice Ao61 x3_1.length co61 : Value).ownBlock) v254 y253) := ⟨h1_⟩
       have n2_ : Zs (Kd.R (Kd.int .u8) 5 w66 w.heap.size (fun k_ => some k_ ≠ (v250 : Value).ownBlock ∧ some k_ ≠ (v254 : Value).ownBlock) (.slice Ao61 x3_1.length co61) x3_1) := ⟨h2_⟩
       have n3_ : Zs (Below w.heap.size w w66) := ⟨h3_⟩
       clear HO_3
       clear HB
       clear h0_ h1_ h2_ h3_
       have HO251 := n0_
       have HO255 := n1_
       have HO_3 := n2_
       have HB := n3_
       clear n0_ n1_ n2_ n3_
       have hHeld : w66.cell? (ad248.add ((x4_1).toNat * 5)) = some (.string ((rd_T24 l0 x4_1).f0)) ∧ w66.cell? ⟨(ad248.add ((x4_1).toNat * 5)).block, (ad248.add ((x4_1).toNat * 5)).off + 1, none⟩ = some (.int .u8 ((rd_T24 l0 x4_1).f1)) ∧ w66.cell? ⟨(ad248.add ((x4_1).toNat * 5)).block, (ad248.add ((x4_1).toNat * 5)).off + 2, none⟩ = some (.int .i64 ((rd_T24 l0 x4_1).f2)) ∧ w66.cell? ⟨(ad248.add ((x4_1).toNat * 5)).block, (ad248.add ((x4_1).toNat * 5)).off + 3, none⟩ = some (.string ((rd_T24 l0 x4_1).f3)) ∧ w66.cell? ⟨(ad248.add ((x4_1).toNat * 5)).block, (ad248.add ((x4_1).toNat * 5)).off + 4, none⟩ = some (.slice A248_4 ((rd_T24 l0 x4_1).f4).length c248_4) ∧ w66.cell? (ad248.add ((x4_1).toNat * 5)) = some (.string ((rd_T24 l0 x4_1).f0)) ∧ w66.cell? ⟨(ad248.add ((x4_1).toNat * 5)).block, (ad248.add ((x4_1).toNat * 5)).off + 1, none⟩ = some (.int .u8 ((rd_T24 l0 x4_1).f1)) ∧ w66.cell? ⟨(ad248.add ((x4_1).toNat * 5)).block, (ad248.add ((x4_1).toNat * 5)).off + 2, none⟩ = some (.int .i64 ((rd_T24 l0 x4_1).f2)) ∧ w66.cell? ⟨(ad248.add ((x4_1).toNat * 5)).block, (ad248.add ((x4_1).toNat * 5)).off + 3, none⟩ = some (.string ((rd_T24 l0 x4_1).f3)) ∧ w66.cell? ⟨(ad248.add ((x4_1).toNat * 5)).block, (ad248.add ((x4_1).toNat * 5)).off + 4, none⟩ = some (.slice A248_4 ((rd_T24 l0 x4_1).f4).length c248_4) := hS_
       obtain ⟨Ao68, co68, eo68⟩ := Kd.R_slice HO255.out
       (first | subst eo68 | (injection eo68 with f1_ f2_ f3_; have f4_ := f1_.symm; have f5_ := f3_.symm; clear f1_ f2_ f3_; subst f4_; subst f5_))
       refine norm_ (a' := ?_) ?_ ?_
       rotate_left
       ·
        simp only [putAll, Act.put, zq1, zq2, zq3]
        rfl
       refine one_ (i := 13) (N := some 24) #[true, true, true, true, true, true, true, true, true, true, true, true, true, true, false] rfl rfl (one_of HT_.out (by kernel_rfl)) (by decide) (fun K hK => ?_)
       refine Kd.R_append_rows_step (Kd.int .u8) (w0 := w) w.heap.size (by rfl) (.tmp 17) (.tmp 23) 25 5 (.int .u8 0) 1 rfl Try.underlying25 info5 rfl (by decide) (by omega) v250 t249 y253 _ _ _ (fun k_ => some k_ ≠ (.slice Ao61 x3_1.length co61 : Value).ownBlock ∧ some k_ ≠ (.slice Ao68 y253.length co68 : Value).ownBlock) (fun _ => False) rfl rfl ?aO ?aR (fun _ _ h => h) (fun _ h => h.elim) ?aF ?aB ?aS ?aL ?_
       (case aR => repeat (first | exact (Kd.R_reads' HO255.out).2.2 | (with_reducible refine Kd.C_alloc ?_ _) | (with_reducible refine Kd.C_drewN ?_ _) | (with_reducible refine Kd.C_drew ?_)))
       (case aB => exact (by repeat (first | (with_reducible first | exact HB.out | apply zba | apply zbn | apply zbd) | exact HB.out)))
       (case aF => exact (fun k_ hk => ⟨Kd.fresh' (Kd.R_lt (by (with_reducible repeat (first | apply Kd.R_alloc | apply Kd.R_drewN | apply Kd.R_drew)); exact HO_3.out)) k_ hk, Kd.fresh' (Kd.R_lt (by (with_reducible repeat (first | apply Kd.R_alloc | apply Kd.R_drewN | apply Kd.R_drew)); exact HO255.out)) k_ hk⟩))
       (case aO => exact (by (with_reducible repeat (first | apply Kd.R_alloc | apply Kd.R_drewN | apply Kd.R_drew)); exact Kd.R_mono HO251.out (fun _ hk => ⟨hk.2, hk.1⟩)))
       (case aS => exact (zbz (by repeat (first | (with_reducible first | exact HB.out | apply zba | apply zbn | apply zbd) | exact HB.out))))
       (case aL => have := LMc5.out; omega)
       intro v257 w67 ho hb hg hat
       rw [← Ny256.out] at ho
       have n0_ := Zs.mk (Kd.R_after (ok := (fun k_ => some k_ ≠ (.slice Ao68 y253.length co68 : Value).ownBlock)) (by (with_reducible repeat (first | apply Kd.R_alloc | apply Kd.R_drewN | apply Kd.R_drew)); exact Kd.R_mono HO_3.out (fun _ hk => ⟨hk.2, hk.1⟩)) hg hat)
       have n1_ := Zs.mk (Kd.R_after (ok := (fun k_ => some k_ ≠ (.slice Ao61 x3_1.length co61 : Value).ownBlock)) (by (with_reducible repeat (first | apply Kd.R_alloc | apply Kd.R_drewN | apply Kd.R_drew)); exact Kd.R_mono HO255.out (fun _ hk => ⟨hk.2, hk.1⟩)) hg hat)
       have n2_ := Zs.mk (hb)
       have n3_ := Zs.mk (ho)
       clear HO_3
       clear HO255
       clear HB
       clear HO251
       have HO_3 := n0_
       have HO255 := n1_
       have HB := n2_
       have HO258 := n3_
       clear n0_ n1_ n2_ n3_
       clear ho hb hg hat
       refine hK.out _ _ ⟨((HB.out.cell (zq4 w _ hw248_0)).trans hw248_0), ((HB.out.cell (zq4 w _ hw248_1)).trans hw248_1), ((HB.out.cell (zq4 w _ hw248_2)).trans hw248_2), ((HB.out.cell (zq4 w _ hw248_3)).trans hw248_3), ((HB.out.cell (zq4 w _ hw248_4)).trans hw248_4), ((HB.out.cell (zq4 w _ hw252_0)).trans hw252_0), ((HB.out.cell (zq4 w _ hw252_1)).trans hw252_1), ((HB.out.cell (zq4 w _ hw252_2)).trans hw252_2), ((HB.out.cell (zq4 w _ hw252_3)).trans hw252_3), ((HB.out.cell (zq4 w _ hw252_4)).trans hw252_4)⟩ (fun hHeld => ?_)
       clear hK K
       refine norm_ (a' := ?_) ?_ ?_
       rotate_left
       ·
        show Act.put _ (some 24) _ = _
        simp only [Act.put, zq1, zq2, zq3, i64_w, i32_w]
        rfl
       refine pure_ (i := 14) (N := some 3) (v := ?_) (a' := ?_) #[true, true, true, true, true, true, true, true, true, true, true, true, true, true, true] rfl rfl (any_of HT_.out (by kernel_rfl)) (fun _ _ _ h => h) (Or.inl ⟨by rfl, ?_⟩) ?_ ?_
       rotate_left
       ·
        intro w'
        go_simp
        with_reducible rfl
       rotate_left
       ·
        simp only [Act.put, zq1, zq2, zq3, i64_w, i32_w]
        rfl
       refine done_ (done_of HT_.out (by kernel_rfl)) ?_
       have p259 : 0 ≤ (x4_1 : Int) := of_decide_eq_true (by first | (with_reducible assumption) | assumption)
       have q259 : x4_1 < (l0.length : Int) := of_decide_eq_true (by first | (with_reducible assumption) | assumption)
       obtain ⟨ad259, A259_4, c259_4, e259, hx259_0, hx259_1, hx259_2, hx259_3, hx259_4, hl259_4, hi259_4⟩ := at_T24 HR0.out x4_1 p259 q259
       obtain rfl : ad248 = ad259 := (by injection e259)
       replace hx259_0 := (HB.out.cell (zq4 w _ hx259_0)).trans hx259_0
       replace hx259_1 := (HB.out.cell (zq4 w _ hx259_1)).trans hx259_1
       replace hx259_2 := (HB.out.cell (zq4 w _ hx259_2)).trans hx259_2
       replace hx259_3 := (HB.out.cell (zq4 w _ hx259_3)).trans hx259_3
       replace hx259_4 := (HB.out.cell (zq4 w _ hx259_4)).trans hx259_4
       have HR259_4 := Zs.mk hi259_4
       have HC259_4 := Zs.mk hl259_4
       clear hi259_4 hl259_4
       replace p259 := eq_true p259
       replace q259 := eq_true q259
       have p279 : 0 ≤ (x4_1 : Int) := of_decide_eq_true (by first | (with_reducible assumption) | assumption)
       have q279 : x4_1 < (l0.length : Int) := of_decide_eq_true (by first | (with_reducible assumption) | assumption)
       obtain ⟨ad279, A279_4, c279_4, e279, hx279_0, hx279_1, hx279_2, hx279_3, hx279_4, hl279_4, hi279_4⟩ := at_T24 HR0.out x4_1 p279 q279
       obtain rfl : ad248 = ad279 := (by injection e279)
       replace hx279_0 := (HB.out.cell (zq4 w _ hx279_0)).trans hx279_0
       replace hx279_1 := (HB.out.cell (zq4 w _ hx279_1)).trans hx279_1
       replace hx279_2 := (HB.out.cell (zq4 w _ hx279_2)).trans hx279_2
       replace hx279_3 := (HB.out.cell (zq4 w _ hx279_3)).trans hx279_3
       replace hx279_4 := (HB.out.cell (zq4 w _ hx279_4)).trans hx279_4
       have HR279_4 := Zs.mk hi279_4
       have HC279_4 := Zs.mk hl279_4
       clear hi279_4 hl279_4
       replace p279 := eq_true p279
       replace q279 := eq_true q279
       have ea_ := Option.some.inj (hx259_4.symm.trans hx279_4)
       injection ea_ with ea_ en_ ec_
       subst ea_
       subst ec_
       clear en_
       (try (have ea_ := Option.some.inj (hx259_4.symm.trans ((HB.out.cell (zq4 w _ hw248_4)).trans hw248_4)); injection ea_ with ea_ en_ ec_; subst ea_; subst ec_; clear en_))
       try go_wp2_with (first | ((with_reducible refine gate_callee (f := 36) rfl ?_); refine goesL_ (some 78) rfl rfl Try.func36 (by kernel_rfl) rfl #[.slice A259_4 ((rd_T24 l0 x4_1).f4).length c259_4] rfl (by (try simp only [List.map_toArray, List.map_cons, List.map_nil]); first | done | rfl | (simp only [List.length_drop, List.length_take]; rfl)) ?_; (with_reducible refine (ih k1 (by have := HK1.out; omega) _ _ ((rd_T24 l0 x4_1).f4) t280 _ ?side1 ?side2 A59.out).mono ?_); (case side1 => repeat (first | exact (Kd.C_below HR279_4.out HB.out) | (with_reducible refine Kd.C_alloc ?_ _) | (with_reducible refine Kd.C_drewN ?_ _) | (with_reducible refine Kd.C_drew ?_))); (case side2 => exact HC279_4.out); rintro e w69 ⟨v281, rfl, ho0, hb⟩; refine ⟨_, rfl, ?_⟩; have n0_ := Zs.mk (Kd.R_elder' (by (with_reducible repeat (first | apply Kd.R_alloc | apply Kd.R_drewN | apply Kd.R_drew)); exact HO_3.out) (Kd.R_base ho0) hb); have n1_ := Zs.mk (Kd.R_elder' (by (with_reducible repeat (first | apply Kd.R_alloc | apply Kd.R_drewN | apply Kd.R_drew)); exact HO255.out) (Kd.R_base ho0) hb); have n2_ := Zs.mk (Kd.R_elder' (by (with_reducible repeat (first | apply Kd.R_alloc | apply Kd.R_drewN | apply Kd.R_drew)); exact HO258.out) (Kd.R_base ho0) hb); have n3_ := Zs.mk (Kd.R_lower (Kd.R_new' (Kd.R_new' (Kd.R_new' ho0 (Kd.R_lt (by (with_reducible repeat (first | apply Kd.R_alloc | apply Kd.R_drewN | apply Kd.R_drew)); exact HO_3.out))) (Kd.R_lt (by (with_reducible repeat (first | apply Kd.R_alloc | apply Kd.R_drewN | apply Kd.R_drew)); exact HO255.out))) (Kd.R_lt (by (with_reducible repeat (first | apply Kd.R_alloc | apply Kd.R_drewN | apply Kd.R_drew)); exact HO258.out))) (zbz (by repeat (first | (with_reducible first | exact HB.out | apply zba | apply zbn | apply zbd) | exact HB.out)))); have n4_ := Zs.mk (zbt (by repeat (first | (with_reducible first | exact HB.out | apply zba | apply zbn | apply zbd) | exact HB.out)) hb); clear HO_3; clear HO255; clear HO258; clear HB; have HO_3 := n0_; have HO255 := n1_; have HO258 := n2_; have HO282 := n3_; have HB := n4_; clear n0_ n1_ n2_ n3_ n4_; (try clear hb); (try clear hb2); (try clear hk); (try clear hi); (try clear hge); (try clear ho0); obtain ⟨Ao70, co70, eo70⟩ := Kd.R_slice HO258.out; subst eo70; obtain ⟨Ao71, co71, eo71⟩ := Kd.R_slice HO282.out; subst eo71) | ((with_reducible refine gate_callee (f := 59) rfl ?_); refine goesL_ (some 79) rfl rfl Try.func59 (by kernel_rfl) rfl #[.slice Ao70 y256.length co70, .slice Ao71 t280.length co71] rfl (by (try simp only [List.map_toArray, List.map_cons, List.map_nil]); first | done | rfl | (simp only [List.length_drop, List.length_take]; rfl)) ?_; (with_reducible refine (waybillref1_Long.calls k1 _ _ y256 _ _ t280 t283 _ ?side1 ?side2 ?side3 ?side4 A60.out).mono ?_); (case side1 => repeat (first | exact (Kd.R_reads' HO258.out).2.2 | (with_reducible refine Kd.C_alloc ?_ _) | (with_reducible refine Kd.C_drewN ?_ _) | (with_reducible refine Kd.C_drew ?_))); (case side2 => exact (Kd.R_reads' HO258.out).2.1); (case side3 => repeat (first | exact (Kd.R_reads' HO282.out).2.2 | (with_reducible refine Kd.C_alloc ?_ _) | (with_reducible refine Kd.C_drewN ?_ _) | (with_reducible refine Kd.C_drew ?_))); (case side4 => exact (Kd.R_reads' HO282.out).2.1); rintro e w72 ⟨v284, rfl, ho0, hb⟩; refine ⟨_, rfl, ?_⟩; have n0_ := Zs.mk (Kd.R_elder' (by (with_reducible repeat (first | apply Kd.R_alloc | apply Kd.R_drewN | apply Kd.R_drew)); exact HO_3.out) (Kd.R_base ho0) hb); have n1_ := Zs.mk (Kd.R_elder' (by (with_reducible repeat (first | apply Kd.R_alloc | apply Kd.R_drewN | apply Kd.R_drew)); exact HO255.out) (Kd.R_base ho0) hb); have n2_ := Zs.mk (Kd.R_elder' (by (with_reducible repeat (first | apply Kd.R_alloc | apply Kd.R_drewN | apply Kd.R_drew)); exact HO258.out) (Kd.R_base ho0) hb); have n3_ := Zs.mk (Kd.R_elder' (by (with_reducible repeat (first | apply Kd.R_alloc | apply Kd.R_drewN | apply Kd.R_drew)); exact HO282.out) (Kd.R_base ho0) hb); have n4_ := Zs.mk (Kd.R_lower (Kd.R_new' (Kd.R_new' (Kd.R_new' (Kd.R_new' ho0 (Kd.R_lt (by (with_reducible repeat (first | apply Kd.R_alloc | apply Kd.R_drewN | apply Kd.R_drew)); exact HO_3.out))) (Kd.R_lt (by (with_reducible repeat (first | apply Kd.R_alloc | apply Kd.R_drewN | apply Kd.R_drew)); exact HO255.out))) (Kd.R_lt (by (with_reducible repeat (first | apply Kd.R_alloc | apply Kd.R_drewN | apply Kd.R_drew)); exact HO258.out))) (Kd.R_lt (by (with_reducible repeat (first | apply Kd.R_alloc | apply Kd.R_drewN | apply Kd.R_drew)); exact HO282.out))) (zbz (by repeat (first | (with_reducible first | exact HB.out | apply zba | apply zbn | apply zbd) | exact HB.out)))); have n5_ := Zs.mk (zbt (by repeat (first | (with_reducible first | exact HB.out | apply zba | apply zbn | apply zbd) | exact HB.out)) hb); clear HO_3; clear HO255; clear HO258; clear HO282; clear HB; have HO_3 := n0_; have HO255 := n1_; have HO258 := n2_; have HO282 := n3_; have HO285 := n4_; have HB := n5_; clear n0_ n1_ n2_ n3_ n4_ n5_; (try clear hb); (try clear hb2); (try clear hk); (try clear hi); (try clear hge); (try clear ho0)))
       go_roundg k1
       case measure => have := HK1.out; omega
       case rel => exact ⟨(t283), (wrap64 (x4_1 + 1)), (by first | rfl | (simp; done) | (simp [*]; done)), H', ⟨by have := HK1.out; omega⟩, ⟨by (with_reducible repeat (first | apply Kd.R_alloc | apply Kd.R_drewN | apply Kd.R_drew)); exact Kd.R_mono HO285.out (fun _ hk => trivial)⟩, ⟨by repeat (first | (with_reducible first | exact HB.out | apply zba | apply zbn | apply zbd) | exact HB.out)⟩⟩
      rw [if_neg c58] at H
      have c58b0 : (((rd_T24 l0 x4_1).f1) == 70) = false := beq_eq_false_iff_ne.mpr c58
      have c58b1 : (((rd_T24 l0 x4_1).f1) != 70) = true := bne_iff_ne.mpr c58
      have H' := Zs.mk H
      clear H
      obtain ⟨Ao73, co73, eo73⟩ := Kd.R_slice HO_3.out
      subst eo73
      try go_wp2
      have n0_ := Zs.mk (Kd.R_drew HO_3.out)
      have n1_ := Zs.mk (zbd HB.out)
      clear HO_3
      clear HB
      have HO_3 := n0_
      have HB := n1_
      clear n0_ n1_
      have p248 : 0 ≤ (x4_1 : Int) := of_decide_eq_true (by first | (with_reducible assumption) | assumption)
      have q248 : x4_1 < (l0.length : Int) := of_decide_eq_true (by first | (with_reducible assumption) | assumption)
      obtain ⟨ad248, A248_4, c248_4, e248, hx248_0, hx248_1, hx248_2, hx248_3, hx248_4, hl248_4, hi248_4⟩ := at_T24 HR0.out x4_1 p248 q248
      have hw248_4 := hx248_4
      have hw248_3 := hx248_3
      have hw248_2 := hx248_2
      have hw248_1 := hx248_1
      have hw248_0 := hx248_0
      cases e248
      replace hx248_0 := (HB.out.cell (zq4 w _ hx248_0)).trans hx248_0
      replace hx248_1 := (HB.out.cell (zq4 w _ hx248_1)).trans hx248_1
      replace hx248_2 := (HB.out.cell (zq4 w _ hx248_2)).trans hx248_2
      replace hx248_3 := (HB.out.cell (zq4 w _ hx248_3)).trans hx248_3
      replace hx248_4 := (HB.out.cell (zq4 w _ hx248_4)).trans hx248_4
      have HR248_4 := Zs.mk hi248_4
      have HC248_4 := Zs.mk hl248_4
      clear hi248_4 hl248_4
      replace p248 := eq_true p248
      replace q248 := eq_true q248
      have p252 : 0 ≤ (x4_1 : Int) := of_decide_eq_true (by first | (with_reducible assumption) | assumption)
      have q252 : x4_1 < (l0.length : Int) := of_decide_eq_true (by first | (with_reducible assumption) | assumption)
      obtain ⟨ad252, A252_4, c252_4, e252, hx252_0, hx252_1, hx252_2, hx252_3, hx252_4, hl252_4, hi252_4⟩ := at_T24 HR0.out x4_1 p252 q252
      have hw252_4 := hx252_4
      have hw252_3 := hx252_3
      have hw252_2 := hx252_2
      have hw252_1 := hx252_1
      have hw252_0 := hx252_0
      obtain rfl : ad248 = ad252 := (by injection e252)
      replace hx252_0 := (HB.out.cell (zq4 w _ hx252_0)).trans hx252_0
      replace hx252_1 := (HB.out.cell (zq4 w _ hx252_1)).trans hx252_1
      replace hx252_2 := (HB.out.cell (zq4 w _ hx252_2)).trans hx252_2
      replace hx252_3 := (HB.out.cell (zq4 w _ hx252_3)).trans hx252_3
      replace hx252_4 := (HB.out.cell (zq4 w _ hx252_4)).trans hx252_4
      have HR252_4 := Zs.mk hi252_4
      have HC252_4 := Zs.mk hl252_4
      clear hi252_4 hl252_4
      replace p252 := eq_true p252
      replace q252 := eq_true q252
      have ea_ := Option.some.inj (hx248_4.symm.trans hx252_4)
      injection ea_ with ea_ en_ ec_
      subst ea_
      subst ec_
      clear en_
      refine start_ (n := 15) (S := fun w' => w'.cell? (ad248.add ((x4_1).toNat * 5)) = some (.string ((rd_T24 l0 x4_1).f0)) ∧ w'.cell? ⟨(ad248.add ((x4_1).toNat * 5)).block, (ad248.add ((x4_1).toNat * 5)).off + 1, none⟩ = some (.int .u8 ((rd_T24 l0 x4_1).f1)) ∧ w'.cell? ⟨(ad248.add ((x4_1).toNat * 5)).block, (ad248.add ((x4_1).toNat * 5)).off + 2, none⟩ = some (.int .i64 ((rd_T24 l0 x4_1).f2)) ∧ w'.cell? ⟨(ad248.add ((x4_1).toNat * 5)).block, (ad248.add ((x4_1).toNat * 5)).off + 3, none⟩ = some (.string ((rd_T24 l0 x4_1).f3)) ∧ w'.cell? ⟨(ad248.add ((x4_1).toNat * 5)).block, (ad248.add ((x4_1).toNat * 5)).off + 4, none⟩ = some (.slice A248_4 ((rd_T24 l0 x4_1).f4).length c248_4) ∧ w'.cell? (ad248.add ((x4_1).toNat * 5)) = some (.string ((rd_T24 l0 x4_1).f0)) ∧ w'.cell? ⟨(ad248.add ((x4_1).toNat * 5)).block, (ad248.add ((x4_1).toNat * 5)).off + 1, none⟩ = some (.int .u8 ((rd_T24 l0 x4_1).f1)) ∧ w'.cell? ⟨(ad248.add ((x4_1).toNat * 5)).block, (ad248.add ((x4_1).toNat * 5)).off + 2, none⟩ = some (.int .i64 ((rd_T24 l0 x4_1).f2)) ∧ w'.cell? ⟨(ad248.add ((x4_1).toNat * 5)).block, (ad248.add ((x4_1).toNat * 5)).off + 3, none⟩ = some (.string ((rd_T24 l0 x4_1).f3)) ∧ w'.cell? ⟨(ad248.add ((x4_1).toNat * 5)).block, (ad248.add ((x4_1).toNat * 5)).off + 4, none⟩ = some (.slice A248_4 ((rd_T24 l0 x4_1).f4).length c248_4)) (ds := []) #[false, false, false, false, false, false, false, false, false, false, false, false, false, false, false] (by kernel_rfl) rfl rfl ⟨((HB.out.cell (zq4 w _ hw248_0)).trans hw248_0), ((HB.out.cell (zq4 w _ hw248_1)).trans hw248_1), ((HB.out.cell (zq4 w _ hw248_2)).trans hw248_2), ((HB.out.cell (zq4 w _ hw248_3)).trans hw248_3), ((HB.out.cell (zq4 w _ hw248_4)).trans hw248_4), ((HB.out.cell (zq4 w _ hw252_0)).trans hw252_0), ((HB.out.cell (zq4 w _ hw252_1)).trans hw252_1), ((HB.out.cell (zq4 w _ hw252_2)).trans hw252_2), ((HB.out.cell (zq4 w _ hw252_3)).trans hw252_3), ((HB.out.cell (zq4 w _ hw252_4)).trans hw252_4)⟩ (fun hHeld => ?_); refine with_tabW zfw.tab5 zfw.bits5 (fun HT_ HW_ => ?_)
      generalize wr.drew = w74 at HO_3 HB HR248_4 HR252_4 hx248_0 hx248_1 hx248_2 hx248_3 hx248_4 hx252_0 hx252_1 hx252_2 hx252_3 hx252_4 hHeld ⊢
      refine pure_ (i := 0) (N := some 11) (v := ?_) (a' := ?_) #[true, false, false, false, false, false, false, false, false, false, false, false, false, false, false] rfl rfl (any_of HT_.out (by kernel_rfl)) (fun _ _ _ h => h) (Or.inl ⟨by rfl, ?_⟩) ?_ ?_
      rotate_left
      ·
       intro w'
       go_simp
       with_reducible rfl
      rotate_left
      ·
       simp only [Act.put, zq1, zq2, zq3, i64_w, i32_w]
       rfl
      refine pure_ (i := 1) (N := some 12) (v := ?_) (a' := ?_) #[true, true, false, false, false, false, false, false, false, false, false, false, false, false, false] rfl rfl (any_of HT_.out (by kernel_rfl)) (fun _ _ _ h => h) (Or.inl ⟨by rfl, ?_⟩) ?_ ?_
      rotate_left
      ·
       intro w'
       go_simp
       with_reducible rfl
      rotate_left
      ·
       simp only [Act.put, zq1, zq2, zq3, i64_w, i32_w]
       rfl
      refine pure_ (i := 2) (N := some 13) (v := ?_) (a' := ?_) #[true, true, true, false, false, false, false, false, false, false, false, false, false, false, false] rfl rfl (any_of HT_.out (by kernel_rfl)) (fun _ _ _ h => h) (Or.inl ⟨by rfl, ?_⟩) ?_ ?_
      rotate_left
      ·
       intro w'
       go_simp
       with_reducible rfl
      rotate_left
      ·
       simp only [Act.put, zq1, zq2, zq3, i64_w, i32_w]
       rfl
      refine pure_ (i := 3) (N := some 14) (v := ?_) (a' := ?_) #[true, true, true, true, false, false, false, false, false, false, false, false, false, false, false] rfl rfl (any_of HT_.out (by kernel_rfl)) (fun _ _ _ h => h) (Or.inl ⟨by rfl, ?_⟩) ?_ ?_
      rotate_left
      ·
       intro w'
       go_simp
       with_reducible rfl
      rotate_left
      ·
       simp only [Act.put, zq1, zq2, zq3, i64_w, i32_w]
       rfl
      refine pure_ (i := 4) (N := some 15) (v := ?_) (a' := ?_) #[true, true, true, true, true, false, false, false, false, false, false, false, false, false, false] rfl rfl (any_of HT_.out (by kernel_rfl)) (fun _ _ _ h => h) (Or.inl ⟨by rfl, ?_⟩) ?_ ?_
      rotate_left
      ·
       intro w'
       go_simp
       with_reducible rfl
      rotate_left
      ·
       simp only [Act.put, zq1, zq2, zq3, i64_w, i32_w]
       rfl
      refine pure_ (i := 7) (N := some 18) (v := ?_) (a' := ?_) #[true, true, true, true, true, false, false, true, false, false, false, false, false, false, false] rfl rfl (any_of HT_.out (by kernel_rfl)) (fun _ _ _ h => h) (Or.inl ⟨by rfl, ?_⟩) ?_ ?_
      rotate_left
      ·
       intro w'
       go_simp
       with_reducible rfl
      rotate_left
      ·
       simp only [Act.put, zq1, zq2, zq3, i64_w, i32_w]
       rfl
      refine pure_ (i := 8) (N := some 19) (v := ?_) (a' := ?_) #[true, true, true, true, true, false, false, true, true, false, false, false, false, false, false] rfl rfl (any_of HT_.out (by kernel_rfl)) (fun _ _ _ h => h) (Or.inl ⟨by rfl, ?_⟩) ?_ ?_
      rotate_left
      ·
       intro w'
       go_simp
       with_reducible rfl
      rotate_left
      ·
       simp only [Act.put, zq1, zq2, zq3, i64_w, i32_w]
       rfl
      refine pure_ (i := 9) (N := some 20) (v := ?_) (a' := ?_) #[true, true, true, true, true, false, false, true, true, true, false, false, false, false, false] rfl rfl (any_of HT_.out (by kernel_rfl)) (fun _ _ _ h => h) (Or.inl ⟨by rfl, ?_⟩) ?_ ?_
      rotate_left
      ·
       intro w'
       go_simp
       with_reducible rfl
      rotate_left
      ·
       simp only [Act.put, zq1, zq2, zq3, i64_w, i32_w]
       rfl
      refine pure_ (i := 10) (N := some 21) (v := ?_) (a' := ?_) #[true, true, true, true, true, false, false, true, true, true, true, false, false, false, false] rfl rfl (any_of HT_.out (by kernel_rfl)) (fun _ _ _ h => h) (Or.inl ⟨by rfl, ?_⟩) ?_ ?_
      rotate_left
      ·
       intro w'
       go_simp
       with_reducible rfl
      rotate_left
      ·
       simp only [Act.put, zq1, zq2, zq3, i64_w, i32_w]
       rfl
      refine take_ (i := 5) (N := some 16) (v := ?_) (a' := ?_) #[true, true, true, true, true, true, false, true, true, true, true, false, false, false, false] rfl rfl (take_ofW HT_.out HW_.out (by kernel_rfl)) (fun _ _ _ h => h) (Or.inl ⟨by rfl, ?_⟩) hHeld ?_ ?_
      rotate_left
      ·
       rintro w' ⟨s0, s1, s2, s3, s4, s5, s6, s7, s8, s9⟩
       go_simp
       with_reducible rfl
      rotate_left
      ·
       simp only [Act.put, zq1, zq2, zq3, i64_w, i32_w]
       rfl
      refine take_ (i := 11) (N := some 22) (v := ?_) (a' := ?_) #[true, true, true, true, true, true, false, true, true, true, true, true, false, false, false] rfl rfl (take_ofW HT_.out HW_.out (by kernel_rfl)) (fun _ _ _ h => h) (Or.inl ⟨by rfl, ?_⟩) hHeld ?_ ?_
      rotate_left
      ·
       rintro w' ⟨s0, s1, s2, s3, s4, s5, s6, s7, s8, s9⟩
       go_simp
       with_reducible rfl
      rotate_left
      ·
       simp only [Act.put, zq1, zq2, zq3, i64_w, i32_w]
       rfl
      refine join_ (σ := Value × Value) 2 #[true, true, true, true, true, true, true, true, true, true, true, true, true, false, false] (fun s_ => [(17, s_.1), (23, s_.2)]) (fun s_ w' => (w'.cell? (ad248.add ((x4_1).toNat * 5)) = some (.string ((rd_T24 l0 x4_1).f0)) ∧ w'.cell? ⟨(ad248.add ((x4_1).toNat * 5)).block, (ad248.add ((x4_1).toNat * 5)).off + 1, none⟩ = some (.int .u8 ((rd_T24 l0 x4_1).f1)) ∧ w'.cell? ⟨(ad248.add ((x4_1).toNat * 5)).block, (ad248.add ((x4_1).toNat * 5)).off + 2, none⟩ = some (.int .i64 ((rd_T24 l0 x4_1).f2)) ∧ w'.cell? ⟨(ad248.add ((x4_1).toNat * 5)).block, (ad248.add ((x4_1).toNat * 5)).off + 3, none⟩ = some (.string ((rd_T24 l0 x4_1).f3)) ∧ w'.cell? ⟨(ad248.add ((x4_1).toNat * 5)).block, (ad248.add ((x4_1).toNat * 5)).off + 4, none⟩ = some (.slice A248_4 ((rd_T24 l0 x4_1).f4).length c248_4) ∧ w'.cell? (ad248.add ((x4_1).toNat * 5)) = some (.string ((rd_T24 l0 x4_1).f0)) ∧ w'.cell? ⟨(ad248.add ((x4_1).toNat * 5)).block, (ad248.add ((x4_1).toNat * 5)).off + 1, none⟩ = some (.int .u8 ((rd_T24 l0 x4_1).f1)) ∧ w'.cell? ⟨(ad248.add ((x4_1).toNat * 5)).block, (ad248.add ((x4_1).toNat * 5)).off + 2, none⟩ = some (.int .i64 ((rd_T24 l0 x4_1).f2)) ∧ w'.cell? ⟨(ad248.add ((x4_1).toNat * 5)).block, (ad248.add ((x4_1).toNat * 5)).off + 3, none⟩ = some (.string ((rd_T24 l0 x4_1).f3)) ∧ w'.cell? ⟨(ad248.add ((x4_1).toNat * 5)).block, (ad248.add ((x4_1).toNat * 5)).off + 4, none⟩ = some (.slice A248_4 ((rd_T24 l0 x4_1).f4).length c248_4)) ∧ (Kd.R (Kd.int .u8) 5 w' w.heap.size (fun k_ => some k_ ≠ (s_.2 : Value).ownBlock ∧ some k_ ≠ (.slice Ao73 x3_1.length co73 : Value).ownBlock) s_.1 t249) ∧ (Kd.R (Kd.int .u8) 5 w' w.heap.size (fun k_ => some k_ ≠ (s_.1 : Value).ownBlock ∧ some k_ ≠ (.slice Ao73 x3_1.length co73 : Value).ownBlock) s_.2 y253) ∧ (Kd.R (Kd.int .u8) 5 w' w.heap.size (fun k_ => some k_ ≠ (s_.1 : Value).ownBlock ∧ some k_ ≠ (s_.2 : Value).ownBlock) (.slice Ao73 x3_1.length co73) x3_1) ∧ (Below w.heap.size w w')) ?_ ?_
      rotate_left
      ·
       intro hCont
       refine two_ (i := 6) (j := 12) (Ni := some 17) (Nj := some 23) #[true, true, true, true, true, true, true, true, true, true, true, true, false, false, false] #[true, true, true, true, true, true, false, true, true, true, true, true, true, false, false] rfl rfl rfl rfl (two_of HT_.out (by kernel_rfl)) (by decide) (by decide) (fun K hK => ?_) (fun K hK => ?_)
       ·
        skip
        refine goes_ Try.func43 (by kernel_rfl) rfl #[.slice Ao73 x3_1.length co73, .string ((rd_T24 l0 x4_1).f0)] (by rfl) rfl rfl (by (try simp only [List.map_toArray, List.map_cons, List.map_nil]); first | done | rfl | (simp only [List.length_drop, List.length_take]; rfl)) ?_
        with_reducible refine (waybillref1_Short.calls k1 _ _ x3_1 ((rd_T24 l0 x4_1).f0) t249 _ ?side1 ?side2 A4.out).mono ?_
        (case side1 => repeat (first | exact (Kd.R_reads' HO_3.out).2.2 | (with_reducible refine Kd.C_alloc ?_ _) | (with_reducible refine Kd.C_drewN ?_ _) | (with_reducible refine Kd.C_drew ?_)))
        (case side2 => exact (Kd.R_reads' HO_3.out).2.1)
        rintro e w75 ⟨v250, rfl, ho0, hb⟩
        refine ⟨_, rfl, ?_⟩
        have n0_ := Zs.mk (Kd.R_elder' (by (with_reducible repeat (first | apply Kd.R_alloc | apply Kd.R_drewN | apply Kd.R_drew)); exact HO_3.out) (Kd.R_base ho0) hb)
        have n1_ := Zs.mk (Kd.R_lower (Kd.R_new' ho0 (Kd.R_lt (by (with_reducible repeat (first | apply Kd.R_alloc | apply Kd.R_drewN | apply Kd.R_drew)); exact HO_3.out))) (zbz (by repeat (first | (with_reducible first | exact HB.out | apply zba | apply zbn | apply zbd) | exact HB.out))))
        have n2_ := Zs.mk (zbt (by repeat (first | (with_reducible first | exact HB.out | apply zba | apply zbn | apply zbd) | exact HB.out)) hb)
        clear HO_3
        clear HB
        have HO_3 := n0_
        have HO251 := n1_
        have HB := n2_
        clear n0_ n1_ n2_
        (try clear hb)
        (try clear hb2)
        (try clear hk)
        (try clear hi)
        (try clear hge)
        (try clear ho0)
        refine hK.out _ _ ⟨((HB.out.cell (zq4 w _ hw248_0)).trans hw248_0), ((HB.out.cell (zq4 w _ hw248_1)).trans hw248_1), ((HB.out.cell (zq4 w _ hw248_2)).trans hw248_2), ((HB.out.cell (zq4 w _ hw248_3)).trans hw248_3), ((HB.out.cell (zq4 w _ hw248_4)).trans hw248_4), ((HB.out.cell (zq4 w _ hw252_0)).trans hw252_0), ((HB.out.cell (zq4 w _ hw252_1)).trans hw252_1), ((HB.out.cell (zq4 w _ hw252_2)).trans hw252_2), ((HB.out.cell (zq4 w _ hw252_3)).trans hw252_3), ((HB.out.cell (zq4 w _ hw252_4)).trans hw252_4)⟩ (fun hHeld => ?_)
        clear hK K
        refine norm_ (a' := ?_) ?_ ?_
        rotate_left
        ·
         show Act.put _ (some 17) _ = _
         simp only [Act.put, zq1, zq2, zq3, i64_w, i32_w]
         rfl
        refine one_ (i := 12) (N := some 23) #[true, true, true, true, true, true, true, true, true, true, true, true, true, false, false] rfl rfl (one_of HT_.out (by kernel_rfl)) (by decide) (fun K hK => ?_)
        refine Kd.R_lit_step (Kd.int .u8) _ 5 ?hg (N := 23) ?hd (xs := ([(rd_T24 l0 x4_1).f1] : List Int)) (inner := [.int .u8 ((rd_T24 l0 x4_1).f1)]) (ok := fun _ => True) (okp := fun _ => True) ?hr ?hp (fun _ hk => hk) trivial (Below.refl _ _) (Nat.le_refl _) (by simp) ?_; (case hd => rfl); (case hg => rfl); (case hr => first | (go_simp; done) | (go_simp; rfl)); (case hp => exact (Reps.one (show Kd.M (Kd.int .u8) _ _ _ ((rd_T24 l0 x4_1).f1) [.int .u8 ((rd_T24 l0 x4_1).f1)] from rfl) (Reps.none _ _)))
        intro v254 w76 ho77 hb hg_ hnew_
        clear hg_ hnew_
        (first | rw [← Ny253.out] at ho77 | (simp only [Int.reduceToNat] at ho77; rw [← Ny253.out] at ho77))
        have n0_ := Zs.mk (Kd.R_elder' (by (with_reducible repeat (first | apply Kd.R_alloc | apply Kd.R_drewN | apply Kd.R_drew)); exact HO_3.out) (Kd.R_base ho77) hb)
        have n1_ := Zs.mk (Kd.R_elder' (by (with_reducible repeat (first | apply Kd.R_alloc | apply Kd.R_drewN | apply Kd.R_drew)); exact HO251.out) (Kd.R_base ho77) hb)
        have n2_ := Zs.mk (Kd.R_lower (Kd.R_new' (Kd.R_new' ho77 (Kd.R_lt (by (with_reducible repeat (first | apply Kd.R_alloc | apply Kd.R_drewN | apply Kd.R_drew)); exact HO_3.out))) (Kd.R_lt (by (with_reducible repeat (first | apply Kd.R_alloc | apply Kd.R_drewN | apply Kd.R_drew)); exact HO251.out))) (zbz (by repeat (first | (with_reducible first | exact HB.out | apply zba | apply zbn | apply zbd) | exact HB.out))))
        have n3_ := Zs.mk (zbt (by repeat (first | (with_reducible first | exact HB.out | apply zba | apply zbn | apply zbd) | exact HB.out)) hb)
        clear HO_3
        clear HO251
        clear HB
        have HO_3 := n0_
        have HO251 := n1_
        have HO255 := n2_
        have HB := n3_
        clear n0_ n1_ n2_ n3_
        clear hb ho77
        refine hK.out _ _ ⟨((HB.out.cell (zq4 w _ hw248_0)).trans hw248_0), ((HB.out.cell (zq4 w _ hw248_1)).trans hw248_1), ((HB.out.cell (zq4 w _ hw248_2)).trans hw248_2), ((HB.out.cell (zq4 w _ hw248_3)).trans hw248_3), ((HB.out.cell (zq4 w _ hw248_4)).trans hw248_4), ((HB.out.cell (zq4 w _ hw252_0)).trans hw252_0), ((HB.out.cell (zq4 w _ hw252_1)).trans hw252_1), ((HB.out.cell (zq4 w _ hw252_2)).trans hw252_2), ((HB.out.cell (zq4 w _ hw252_3)).trans hw252_3), ((HB.out.cell (zq4 w _ hw252_4)).trans hw252_4)⟩ (fun hHeld => ?_)
        clear hK K
        refine norm_ (a' := ?_) ?_ ?_
        rotate_left
        ·
         show Act.put _ (some 23) _ = _
         simp only [Act.put, zq1, zq2, zq3, i64_w, i32_w]
         rfl
        exact norm_ (by simp only [putAll, Act.put, zq1, zq2, zq3]) (hCont (v250, v254) _ ⟨hHeld, (by (with_reducible repeat (first | apply Kd.R_alloc | apply Kd.R_drewN | apply Kd.R_drew)); exact Kd.R_mono HO251.out (fun _ hk => ⟨hk.2, hk.1.2⟩)), (by (with_reducible repeat (first | apply Kd.R_alloc | apply Kd.R_drewN | apply Kd.R_drew)); exact Kd.R_mono HO255.out (fun _ hk => ⟨hk.2, hk.1.2⟩)), (by (with_reducible repeat (first | apply Kd.R_alloc | apply Kd.R_drewN | apply Kd.R_drew)); exact Kd.R_mono HO_3.out (fun _ hk => ⟨hk.1.2, hk.2⟩)), (by repeat (first | (with_reducible first | exact HB.out | apply zba | apply zbn | apply zbd) | exact HB.out))⟩)
       skip
       refine Kd.R_lit_step (Kd.int .u8) _ 5 ?hg (N := 23) ?hd (xs := ([(rd_T24 l0 x4_1).f1] : List Int)) (inner := [.int .u8 ((rd_T24 l0 x4_1).f1)]) (ok := fun _ => True) (okp := fun _ => True) ?hr ?hp (fun _ hk => hk) trivial (Below.refl _ _) (Nat.le_refl _) (by simp) ?_; (case hd => rfl); (case hg => rfl); (case hr => first | (go_simp; done) | (go_simp; rfl)); (case hp => exact (Reps.one (show Kd.M (Kd.int .u8) _ _ _ ((rd_T24 l0 x4_1).f1) [.int .u8 ((rd_T24 l0 x4_1).f1)] from rfl) (Reps.none _ _)))
       intro v254 w75 ho76 hb hg_ hnew_
       clear hg_ hnew_
       (first | rw [← Ny253.out] at ho76 | (simp only [Int.reduceToNat] at ho76; rw [← Ny253.out] at ho76))
       have n0_ := Zs.mk (Kd.R_elder' (by (with_reducible repeat (first | apply Kd.R_alloc | apply Kd.R_drewN | apply Kd.R_drew)); exact HO_3.out) (Kd.R_base ho76) hb)
       have n1_ := Zs.mk (Kd.R_lower (Kd.R_new' ho76 (Kd.R_lt (by (with_reducible repeat (first | apply Kd.R_alloc | apply Kd.R_drewN | apply Kd.R_drew)); exact HO_3.out))) (zbz (by repeat (first | (with_reducible first | exact HB.out | apply zba | apply zbn | apply zbd) | exact HB.out))))
       have n2_ := Zs.mk (zbt (by repeat (first | (with_reducible first | exact HB.out | apply zba | apply zbn | apply zbd) | exact HB.out)) hb)
       clear HO_3
       clear HB
       have HO_3 := n0_
       have HO255 := n1_
       have HB := n2_
       clear n0_ n1_ n2_
       clear hb ho76
       refine hK.out _ _ ⟨((HB.out.cell (zq4 w _ hw248_0)).trans hw248_0), ((HB.out.cell (zq4 w _ hw248_1)).trans hw248_1), ((HB.out.cell (zq4 w _ hw248_2)).trans hw248_2), ((HB.out.cell (zq4 w _ hw248_3)).trans hw248_3), ((HB.out.cell (zq4 w _ hw248_4)).trans hw248_4), ((HB.out.cell (zq4 w _ hw252_0)).trans hw252_0), ((HB.out.cell (zq4 w _ hw252_1)).trans hw252_1), ((HB.out.cell (zq4 w _ hw252_2)).trans hw252_2), ((HB.out.cell (zq4 w _ hw252_3)).trans hw252_3), ((HB.out.cell (zq4 w _ hw252_4)).trans hw252_4)⟩ (fun hHeld => ?_)
       clear hK K
       refine norm_ (a' := ?_) ?_ ?_
       rotate_left
       ·
        show Act.put _ (some 23) _ = _
        simp only [Act.put, zq1, zq2, zq3, i64_w, i32_w]
        rfl
       refine one_ (i := 6) (N := some 17) #[true, true, true, true, true, true, true, true, true, true, true, true, true, false, false] rfl rfl (one_of HT_.out (by kernel_rfl)) (by decide) (fun K hK => ?_)
       refine goes_ Try.func43 (by kernel_rfl) rfl #[.slice Ao73 x3_1.length co73, .string ((rd_T24 l0 x4_1).f0)] (by rfl) rfl rfl (by (try simp only [List.map_toArray, List.map_cons, List.map_nil]); first | done | rfl | (simp only [List.length_drop, List.length_take]; rfl)) ?_
       with_reducible refine (waybillref1_Short.calls k1 _ _ x3_1 ((rd_T24 l0 x4_1).f0) t249 _ ?side1 ?side2 A4.out).mono ?_
       (case side1 => repeat (first | exact (Kd.R_reads' HO_3.out).2.2 | (with_reducible refine Kd.C_alloc ?_ _) | (with_reducible refine Kd.C_drewN ?_ _) | (with_reducible refine Kd.C_drew ?_)))
       (case side2 => exact (Kd.R_reads' HO_3.out).2.1)
       rintro e w77 ⟨v250, rfl, ho0, hb⟩
       refine ⟨_, rfl, ?_⟩
       have n0_ := Zs.mk (Kd.R_elder' (by (with_reducible repeat (first | apply Kd.R_alloc | apply Kd.R_drewN | apply Kd.R_drew)); exact HO_3.out) (Kd.R_base ho0) hb)
       have n1_ := Zs.mk (Kd.R_elder' (by (with_reducible repeat (first | apply Kd.R_alloc | apply Kd.R_drewN | apply Kd.R_drew)); exact HO255.out) (Kd.R_base ho0) hb)
       have n2_ := Zs.mk (Kd.R_lower (Kd.R_new' (Kd.R_new' ho0 (Kd.R_lt (by (with_reducible repeat (first | apply Kd.R_alloc | apply Kd.R_drewN | apply Kd.R_drew)); exact HO_3.out))) (Kd.R_lt (by (with_reducible repeat (first | apply Kd.R_alloc | apply Kd.R_drewN | apply Kd.R_drew)); exact HO255.out))) (zbz (by repeat (first | (with_reducible first | exact HB.out | apply zba | apply zbn | apply zbd) | exact HB.out))))
       have n3_ := Zs.mk (zbt (by repeat (first | (with_reducible first | exact HB.out | apply zba | apply zbn | apply zbd) | exact HB.out)) hb)
       clear HO_3
       clear HO255
       clear HB
       have HO_3 := n0_
       have HO255 := n1_
       have HO251 := n2_
       have HB := n3_
       clear n0_ n1_ n2_ n3_
       (try clear hb)
       (try clear hb2)
       (try clear hk)
       (try clear hi)
       (try clear hge)
       (try clear ho0)
       refine hK.out _ _ ⟨((HB.out.cell (zq4 w _ hw248_0)).trans hw248_0), ((HB.out.cell (zq4 w _ hw248_1)).trans hw248_1), ((HB.out.cell (zq4 w _ hw248_2)).trans hw248_2), ((HB.out.cell (zq4 w _ hw248_3)).trans hw248_3), ((HB.out.cell (zq4 w _ hw248_4)).trans hw248_4), ((HB.out.cell (zq4 w _ hw252_0)).trans hw252_0), ((HB.out.cell (zq4 w _ hw252_1)).trans hw252_1), ((HB.out.cell (zq4 w _ hw252_2)).trans hw252_2), ((HB.out.cell (zq4 w _ hw252_3)).trans hw252_3), ((HB.out.cell (zq4 w _ hw252_4)).trans hw252_4)⟩ (fun hHeld => ?_)
       clear hK K
       refine norm_ (a' := ?_) ?_ ?_
       rotate_left
       ·
        show Act.put _ (some 17) _ = _
        simp only [Act.put, zq1, zq2, zq3, i64_w, i32_w]
        rfl
       exact norm_ (by simp only [putAll, Act.put, zq1, zq2, zq3]) (hCont (v250, v254) _ ⟨hHeld, (by (with_reducible repeat (first | apply Kd.R_alloc | apply Kd.R_drewN | apply Kd.R_drew)); exact Kd.R_mono HO251.out (fun _ hk => ⟨hk.2, hk.1.2⟩)), (by (with_reducible repeat (first | apply Kd.R_alloc | apply Kd.R_drewN | apply Kd.R_drew)); exact Kd.R_mono HO255.out (fun _ hk => ⟨hk.2, hk.1.2⟩)), (by (with_reducible repeat (first | apply Kd.R_alloc | apply Kd.R_drewN | apply Kd.R_drew)); exact Kd.R_mono HO_3.out (fun _ hk => ⟨hk.2, hk.1.2⟩)), (by repeat (first | (with_reducible first | exact HB.out | apply zba | apply zbn | apply zbd) | exact HB.out))⟩)
      rintro ⟨v250, v254⟩ w78 ⟨hS_, h0_, h1_, h2_, h3_⟩
      have n0_ : Zs (Kd.R (Kd.int .u8) 5 w78 w.heap.size (fun k_ => some k_ ≠ (v254 : Value).ownBlock ∧ some k_ ≠ (.slice Ao73 x3_1.length co73 : Value).ownBlock) v250 t249) := ⟨h0_⟩
      have n1_ : Zs (Kd.R (Kd.int .u8) 5 w78 w.heap.size (fun k_ => some k_ ≠ (v250 : Value).ownBlock ∧ some k_ ≠ (.slice Ao73 x3_1.length co73 : Value).ownBlock) v254 y253) := ⟨h1_⟩
      have n2_ : Zs (Kd.R (Kd.int .u8) 5 w78 w.heap.size (fun k_ => some k_ ≠ (v250 : Value).ownBlock ∧ some k_ ≠ (v254 : Value).ownBlock) (.slice Ao73 x3_1.length co73) x3_1) := ⟨h2_⟩
      have n3_ : Zs (Below w.heap.size w w78) := ⟨h3_⟩
      clear HO_3
      clear HB
      clear h0_ h1_ h2_ h3_
      have HO251 := n0_
      have HO255 := n1_
      have HO_3 := n2_
      have HB := n3_
      clear n0_ n1_ n2_ n3_
      have hHeld : w78.cell? (ad248.add ((x4_1).toNat * 5)) = some (.string ((rd_T24 l0 x4_1).f0)) ∧ w78.cell? ⟨(ad248.add ((x4_1).toNat * 5)).block, (ad248.add ((x4_1).toNat * 5)).off + 1, none⟩ = some (.int .u8 ((rd_T24 l0 x4_1).f1)) ∧ w78.cell? ⟨(ad248.add ((x4_1).toNat * 5)).block, (ad248.add ((x4_1).toNat * 5)).off + 2, none⟩ = some (.int .i64 ((rd_T24 l0 x4_1).f2)) ∧ w78.cell? ⟨(ad248.add ((x4_1).toNat * 5)).block, (ad248.add ((x4_1).toNat * 5)).off + 3, none⟩ = some (.string ((rd_T24 l0 x4_1).f3)) ∧ w78.cell? ⟨(ad248.add ((x4_1).toNat * 5)).block, (ad248.add ((x4_1).toNat * 5)).off + 4, none⟩ = some (.slice A248_4 ((rd_T24 l0 x4_1).f4).length c248_4) ∧ w78.cell? (ad248.add ((x4_1).toNat * 5)) = some (.string ((rd_T24 l0 x4_1).f0)) ∧ w78.cell? ⟨(ad248.add ((x4_1).toNat * 5)).block, (ad248.add ((x4_1).toNat * 5)).off + 1, none⟩ = some (.int .u8 ((rd_T24 l0 x4_1).f1)) ∧ w78.cell? ⟨(ad248.add ((x4_1).toNat * 5)).block, (ad248.add ((x4_1).toNat * 5)).off + 2, none⟩ = some (.int .i64 ((rd_T24 l0 x4_1).f2)) ∧ w78.cell? ⟨(ad248.add ((x4_1).toNat * 5)).block, (ad248.add ((x4_1).toNat * 5)).off + 3, none⟩ = some (.string ((rd_T24 l0 x4_1).f3)) ∧ w78.cell? ⟨(ad248.add ((x4_1).toNat * 5)).block, (ad248.add ((x4_1).toNat * 5)).off + 4, none⟩ = some (.slice A248_4 ((rd_T24 l0 x4_1).f4).length c248_4) := hS_
      obtain ⟨Ao80, co80, eo80⟩ := Kd.R_slice HO255.out
      (first | subst eo80 | (injection eo80 with f1_ f2_ f3_; have f4_ := f1_.symm; have f5_ := f3_.symm; clear f1_ f2_ f3_; subst f4_; subst f5_))
      refine norm_ (a' := ?_) ?_ ?_
      rotate_left
      ·
       simp only [putAll, Act.put, zq1, zq2, zq3]
       rfl
      refine one_ (i := 13) (N := some 24) #[true, true, true, true, true, true, true, true, true, true, true, true, true, true, false] rfl rfl (one_of HT_.out (by kernel_rfl)) (by decide) (fun K hK => ?_)
      refine Kd.R_append_rows_step (Kd.int .u8) (w0 := w) w.heap.size (by rfl) (.tmp 17) (.tmp 23) 25 5 (.int .u8 0) 1 rfl Try.underlying25 info5 rfl (by decide) (by omega) v250 t249 y253 _ _ _ (fun k_ => some k_ ≠ (.slice Ao73 x3_1.length co73 : Value).ownBlock ∧ some k_ ≠ (.slice Ao80 y253.length co80 : Value).ownBlock) (fun _ => False) rfl rfl ?aO ?aR (fun _ _ h => h) (fun _ h => h.elim) ?aF ?aB ?aS ?aL ?_
      (case aR => repeat (first | exact (Kd.R_reads' HO255.out).2.2 | (with_reducible refine Kd.C_alloc ?_ _) | (with_reducible refine Kd.C_drewN ?_ _) | (with_reducible refine Kd.C_drew ?_)))
      (case aB => exact (by repeat (first | (with_reducible first | exact HB.out | apply zba | apply zbn | apply zbd) | exact HB.out)))
      (case aF => exact (fun k_ hk => ⟨Kd.fresh' (Kd.R_lt (by (with_reducible repeat (first | apply Kd.R_alloc | apply Kd.R_drewN | apply Kd.R_drew)); exact HO_3.out)) k_ hk, Kd.fresh' (Kd.R_lt (by (with_reducible repeat (first | apply Kd.R_alloc | apply Kd.R_drewN | apply Kd.R_drew)); exact HO255.out)) k_ hk⟩))
      (case aO => exact (by (with_reducible repeat (first | apply Kd.R_alloc | apply Kd.R_drewN | apply Kd.R_drew)); exact Kd.R_mono HO251.out (fun _ hk => ⟨hk.2, hk.1⟩)))
      (case aS => exact (zbz (by repeat (first | (with_reducible first | exact HB.out | apply zba | apply zbn | apply zbd) | exact HB.out))))
      (case aL => have := LMc5.out; omega)
      intro v257 w79 ho hb hg hat
      rw [← Ny256.out] at ho
      have n0_ := Zs.mk (Kd.R_after (ok := (fun k_ => some k_ ≠ (.slice Ao80 y253.length co80 : Value).ownBlock)) (by (with_reducible repeat (first | apply Kd.R_alloc | apply Kd.R_drewN | apply Kd.R_drew)); exact Kd.R_mono HO_3.out (fun _ hk => ⟨hk.2, hk.1⟩)) hg hat)
      have n1_ := Zs.mk (Kd.R_after (ok := (fun k_ => some k_ ≠ (.slice Ao73 x3_1.length co73 : Value).ownBlock)) (by (with_reducible repeat (first | apply Kd.R_alloc | apply Kd.R_drewN | apply Kd.R_drew)); exact Kd.R_mono HO255.out (fun _ hk => ⟨hk.2, hk.1⟩)) hg hat)
      have n2_ := Zs.mk (hb)
      have n3_ := Zs.mk (ho)
      clear HO_3
      clear HO255
      clear HB
      clear HO251
      have HO_3 := n0_
      have HO255 := n1_
      have HB := n2_
      have HO258 := n3_
      clear n0_ n1_ n2_ n3_
      clear ho hb hg hat
      refine hK.out _ _ ⟨((HB.out.cell (zq4 w _ hw248_0)).trans hw248_0), ((HB.out.cell (zq4 w _ hw248_1)).trans hw248_1), ((HB.out.cell (zq4 w _ hw248_2)).trans hw248_2), ((HB.out.cell (zq4 w _ hw248_3)).trans hw248_3), ((HB.out.cell (zq4 w _ hw248_4)).trans hw248_4), ((HB.out.cell (zq4 w _ hw252_0)).trans hw252_0), ((HB.out.cell (zq4 w _ hw252_1)).trans hw252_1), ((HB.out.cell (zq4 w _ hw252_2)).trans hw252_2), ((HB.out.cell (zq4 w _ hw252_3)).trans hw252_3), ((HB.out.cell (zq4 w _ hw252_4)).trans hw252_4)⟩ (fun hHeld => ?_)
      clear hK K
      refine norm_ (a' := ?_) ?_ ?_
      rotate_left
      ·
       show Act.put _ (some 24) _ = _
       simp only [Act.put, zq1, zq2, zq3, i64_w, i32_w]
       rfl
      refine pure_ (i := 14) (N := some 3) (v := ?_) (a' := ?_) #[true, true, true, true, true, true, true, true, true, true, true, true, true, true, true] rfl rfl (any_of HT_.out (by kernel_rfl)) (fun _ _ _ h => h) (Or.inl ⟨by rfl, ?_⟩) ?_ ?_
      rotate_left
      ·
       intro w'
       go_simp
       with_reducible rfl
      rotate_left
      ·
       simp only [Act.put, zq1, zq2, zq3, i64_w, i32_w]
       rfl
      refine done_ (done_of HT_.out (by kernel_rfl)) ?_
      have p259 : 0 ≤ (x4_1 : Int) := of_decide_eq_true (by first | (with_reducible assumption) | assumption)
      have q259 : x4_1 < (l0.length : Int) := of_decide_eq_true (by first | (with_reducible assumption) | assumption)
      obtain ⟨ad259, A259_4, c259_4, e259, hx259_0, hx259_1, hx259_2, hx259_3, hx259_4, hl259_4, hi259_4⟩ := at_T24 HR0.out x4_1 p259 q259
      obtain rfl : ad248 = ad259 := (by injection e259)
      replace hx259_0 := (HB.out.cell (zq4 w _ hx259_0)).trans hx259_0
      replace hx259_1 := (HB.out.cell (zq4 w _ hx259_1)).trans hx259_1
      replace hx259_2 := (HB.out.cell (zq4 w _ hx259_2)).trans hx259_2
      replace hx259_3 := (HB.out.cell (zq4 w _ hx259_3)).trans hx259_3
      replace hx259_4 := (HB.out.cell (zq4 w _ hx259_4)).trans hx259_4
      have HR259_4 := Zs.mk hi259_4
      have HC259_4 := Zs.mk hl259_4
      clear hi259_4 hl259_4
      replace p259 := eq_true p259
      replace q259 := eq_true q259
      try go_wp2
      go_roundg k1
      case measure => have := HK1.out; omega
      case rel => exact ⟨(y256), (wrap64 (x4_1 + 1)), (by first | rfl | (simp; done) | (simp [*]; done)), H', ⟨by have := HK1.out; omega⟩, ⟨by (with_reducible repeat (first | apply Kd.R_alloc | apply Kd.R_drewN | apply Kd.R_drew)); exact Kd.R_mono HO258.out (fun _ hk => trivial)⟩, ⟨by repeat (first | (with_reducible first | exact HB.out | apply zba | apply zbn | apply zbd) | exact HB.out)⟩⟩
     rw [if_neg c5] at H
     exact absurd H (by simp)
    rw [if_neg c3] at H
    exact absurd H (by simp)
   rw [if_neg c2] at H
   have c2b0 : decide (x4_1 < (l0.length : Int)) = false := decide_eq_false c2
   clear c2
   obtain rfl := Option.some.inj H
   go_wp2
   all_goals first | (go_ret; exact ⟨_, by first | rfl | (simp [zen, zes]; done) | (simp [zen, zes]; rfl) | (simp [*, zen, zes]; done) | (simp [*, zen, zes]; rfl), by (with_reducible repeat (first | apply Kd.R_alloc | apply Kd.R_drewN | apply Kd.R_drew)); exact HO_3.out, by repeat (first | (with_reducible first | exact HB.out | apply zba | apply zbn | apply zbd) | exact HB.out)⟩) | (exfalso; simp_all; done)

end Go.Proofs.Ytfhaffpegncdiaa.PT
