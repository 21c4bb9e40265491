/- What functions of the given program come to, and that they do: written out of the translation by a program of this session; Lean checks it. -/
import Derived.Test.YtfhaffpegncdiaaShort
import Derived.Test.YtfhaffpegncdiaaPTx0
import Derived.Test.YtfhaffpegncdiaaPTx10
namespace Go.Proofs.Ytfhaffpegncdiaa.PT
open Go.RowKit Go.Proofs.YtfhaffpegncdiaaW.PrintWords Go.Proofs.YtfhaffpegncdiaaW.PrintLast Go.Proofs.YtfhaffpegncdiaaW.PrintMore
attribute [local go_sem] max2_int min2_int max_two min_two max_three min_three max_four min_four   -- for this text's walks alone
set_option linter.unusedVariables false
set_option linter.unusedSimpArgs false

/-! ### zff: function 57 -/
mutual
def zff.l0 : Nat → List (S24) → Int → Int → Option (Bool)
 | 0, _, _, _ => none
 | k + 1, x0, x1, x5 => if x5 < (x0.length : Int) then (if 0 ≤ x5 then ((zfk.f k ((rd_T24 x0 x5).f0) ((rd_T24 x0 x5).f1) ((rd_T24 x0 x5).f2) ((rd_T24 x0 x5).f3) ((rd_T24 x0 x5).f4)).bind fun t288 => (if t288 = true then (if ((rd_T24 x0 x5).f1) = 70 then ((zff.f k ((rd_T24 x0 x5).f4) (wrap64 (x1 + 1))).bind fun t291 => (zff.j1 k x0 x1 x5 (!t291))) else (zff.j1 k x0 x1 x5 false)) else (zff.j1 k x0 x1 x5 true))) else (none)) else (some true)
def zff.j1 : Nat → List (S24) → Int → Int → Bool → Option (Bool)
 | 0, _, _, _, _ => none
 | k + 1, x0, x1, x5, x39 => if x39 = true then (some false) else (zff.l1 k x0 x1 x5 0)
def zff.l1 : Nat → List (S24) → Int → Int → Int → Option (Bool)
 | 0, _, _, _, _ => none
 | k + 1, x0, x1, x5, x6 => if x6 < x5 then (if 0 ≤ x6 then (if x6 < (x0.length : Int) then (if 0 ≤ x5 then (if x5 < (x0.length : Int) then (if ((rd_T24 x0 x6).f0).toList = ((rd_T24 x0 x5).f0).toList then (some false) else (zff.l1 k x0 x1 x5 (wrap64 (x6 + 1)))) else (none)) else (none)) else (none)) else (none)) else (zff.l0 k x0 x1 (wrap64 (x5 + 1)))
def zff.f : Nat → List (S24) → Int → Option (Bool)
 | 0, _, _ => none
 | k + 1, l0, a1 => if a1 > 8 then (some false) else (zff.l0 k l0 a1 0)
end
theorem zff.mono_l : ∀ k, (∀ y0 y1, LeO (zff.f k y0 y1) (zff.f (k + 1) y0 y1)) ∧ (∀ y0 y1 y2, LeO (zff.l0 k y0 y1 y2) (zff.l0 (k + 1) y0 y1 y2)) ∧ (∀ y0 y1 y2 y3, LeO (zff.j1 k y0 y1 y2 y3) (zff.j1 (k + 1) y0 y1 y2 y3)) ∧ (∀ y0 y1 y2 y3, LeO (zff.l1 k y0 y1 y2 y3) (zff.l1 (k + 1) y0 y1 y2 y3))
 | 0 => ⟨fun _ _ r h => by simp [zff.f] at h, fun _ _ _ r h => by simp [zff.l0] at h, fun _ _ _ _ r h => by simp [zff.j1] at h, fun _ _ _ _ r h => by simp [zff.l1] at h⟩
 | k + 1 => by
  obtain ⟨ih0, ih1, ih2, ih3⟩ := zff.mono_l k
  refine ⟨?_, ?_, ?_, ?_⟩
  ·
   intro y0 y1
   unfold zff.f
   repeat' first
   | (with_reducible exact ih0 _ _)
   | (with_reducible exact ih1 _ _ _)
   | (with_reducible exact ih2 _ _ _ _)
   | (with_reducible exact ih3 _ _ _ _)
   | (with_reducible exact zfk.mono _ _ _ _ _ _)
   | (with_reducible exact LeO.refl _)
   | (with_reducible exact LeO.none _)
   | (with_reducible refine LeO.ite ?_ ?_)
   | (with_reducible refine LeO.bind ?_ (fun _ => ?_))
   | exact ih0 _ _
   | exact ih1 _ _ _
   | exact ih2 _ _ _ _
   | exact ih3 _ _ _ _
   | exact zfk.mono _ _ _ _ _ _
   | exact LeO.none _
   | refine LeO.ite ?_ ?_
   | refine LeO.bind ?_ (fun _ => ?_)
  ·
   intro y0 y1 y2
   unfold zff.l0
   repeat' first
   | (with_reducible exact ih0 _ _)
   | (with_reducible exact ih1 _ _ _)
   | (with_reducible exact ih2 _ _ _ _)
   | (with_reducible exact ih3 _ _ _ _)
   | (with_reducible exact zfk.mono _ _ _ _ _ _)
   | (with_reducible exact LeO.refl _)
   | (with_reducible exact LeO.none _)
   | (with_reducible refine LeO.ite ?_ ?_)
   | (with_reducible refine LeO.bind ?_ (fun _ => ?_))
   | exact ih0 _ _
   | exact ih1 _ _ _
   | exact ih2 _ _ _ _
   | exact ih3 _ _ _ _
   | exact zfk.mono _ _ _ _ _ _
   | exact LeO.none _
   | refine LeO.ite ?_ ?_
   | refine LeO.bind ?_ (fun _ => ?_)
  ·
   intro y0 y1 y2 y3
   unfold zff.j1
   repeat' first
   | (with_reducible exact ih0 _ _)
   | (with_reducible exact ih1 _ _ _)
   | (with_reducible exact ih2 _ _ _ _)
   | (with_reducible exact ih3 _ _ _ _)
   | (with_reducible exact zfk.mono _ _ _ _ _ _)
   | (with_reducible exact LeO.refl _)
   | (with_reducible exact LeO.none _)
   | (with_reducible refine LeO.ite ?_ ?_)
   | (with_reducible refine LeO.bind ?_ (fun _ => ?_))
   | exact ih0 _ _
   | exact ih1 _ _ _
   | exact ih2 _ _ _ _
   | exact ih3 _ _ _ _
   | exact zfk.mono _ _ _ _ _ _
   | exact LeO.none _
   | refine LeO.ite ?_ ?_
   | refine LeO.bind ?_ (fun _ => ?_)
  intro y0 y1 y2 y3
  unfold zff.l1
  repeat' first
  | (with_reducible exact ih0 _ _)
  | (with_reducible exact ih1 _ _ _)
  | (with_reducible exact ih2 _ _ _ _)
  | (with_reducible exact ih3 _ _ _ _)
  | (with_reducible exact zfk.mono _ _ _ _ _ _)
  | (with_reducible exact LeO.refl _)
  | (with_reducible exact LeO.none _)
  | (with_reducible refine LeO.ite ?_ ?_)
  | (with_reducible refine LeO.bind ?_ (fun _ => ?_))
  | exact ih0 _ _
  | exact ih1 _ _ _
  | exact ih2 _ _ _ _
  | exact ih3 _ _ _ _
  | exact zfk.mono _ _ _ _ _ _
  | exact LeO.none _
  | refine LeO.ite ?_ ?_
  | refine LeO.bind ?_ (fun _ => ?_)
theorem zff.mono : ∀ a0 a1 k, LeO (zff.f k a0 a1) (zff.f (k + 1) a0 a1) := by
 intro a0 a1 k
 obtain ⟨ih0, ih1, ih2, ih3⟩ := zff.mono_l k
 exact ih0 a0 a1
set_option maxHeartbeats 8000000 in
set_option maxRecDepth 100000 in
theorem zff.calls (k : Nat) : ∀ (A0 : Option Addr) (c0 : Nat) (l0 : List (S24)) (a1 : Int) (r : Bool) (w : World) (hr0 : Kd.C k24 w A0 l0.length l0) (hc0 : l0.length ≤ c0) (h : zff.f k l0 a1 = some r),
  Calls Try.prog 57 #[.slice A0 l0.length c0, .int .i64 a1] w fun e w' => e = .returned (.bool r) ∧ Below w.heap.size w w' := by
 induction k using Nat.strongRecOn with
 | _ k ih =>
 intro A0 c0 l0 a1 r w hr0 hc0 h
 cases k with
 | zero => exact absurd h (by simp [zff.f])
 | succ k =>
 simp only [zff.f] at h
 have hu24 := Try.underlying24
 have HR0 := Zs.mk hr0
 have HC0 := Zs.mk hc0
 clear hr0 hc0
 have HB := Zs.mk (Below.refl w.heap.size w)
 have H : (if a1 > 8 then (some false) else (zff.l0 k l0 a1 0)) = some r := h
 clear h
 by_cases c3 : a1 > 8
 ·
  rw [if_pos c3] at H
  have c3b0 : decide (8 < a1) = true := decide_eq_true c3
  clear c3
  obtain rfl := Option.some.inj H
  go_enter Try.func57, Try.ntmps57
  go_wp2
  repeat (go_quiet (fail); try go_wp2)
  all_goals first | (go_ret; exact ⟨by first | rfl | (simp [zen, zes]; done) | (simp [zen, zes]; rfl) | (simp [*, zen, zes]; done) | (simp [*, zen, zes]; rfl), by repeat (first | (with_reducible first | exact HB.out | apply zba | apply zbn | apply zbd) | exact HB.out)⟩) | (exfalso; simp_all; done)
 rw [if_neg c3] at H
 have c3b0 : decide (8 < a1) = false := decide_eq_false c3
 clear c3
 have H' := Zs.mk H
 clear H
 go_enter Try.func57, Try.ntmps57
 go_wp2
 repeat (go_quiet (fail); try go_wp2)
 go_loopg [5] k (fun kq v5 w' => ∃ (x5_1 : Int), v5 = .int .i64 x5_1 ∧ Zs (zff.l0 kq l0 a1 x5_1 = some r) ∧ Zs (kq ≤ k) ∧ Zs (Below w.heap.size w w'))
 case atStart => exact ⟨(0), (by first | rfl | (simp; done) | (simp [*]; done)), H', ⟨Nat.le_refl _⟩, ⟨by repeat (first | (with_reducible first | exact HB.out | apply zba | apply zbn | apply zbd) | exact HB.out)⟩⟩
 case round =>
  clear H'
  try clear p2
  try clear c3
  try clear c3b0
  obtain ⟨x5_1, rfl, HA, HK1, HB⟩ := hrel
  cases gk with
  | zero => exact absurd HA.out (by simp [zff.l0])
  | succ k1 =>
   have H := HA.out
   clear HA
   simp only [zff.l0] at H
   by_cases c4 : x5_1 < (l0.length : Int)
   ·
    rw [if_pos c4] at H
    have c4b0 : decide (x5_1 < (l0.length : Int)) = true := decide_eq_true c4
    clear c4
    have HC5 := Zs.mk H
    clear H
    go_upto_region 6 with (fail)
    repeat (go_quiet (fail); go_upto_region 6 with (fail))
    go_cut [39] (fun v39 wc => ∃ (kq : Nat) (x39_4 : Bool), v39 = .bool x39_4 ∧ Zs (zff.j1 kq l0 a1 x5_1 x39_4 = some r) ∧ Zs (kq ≤ k1) ∧ Zs (Below w.heap.size w wc))
    case first =>
     have H := HC5.out
     clear HC5
     by_cases c6 : 0 ≤ x5_1
     ·
      rw [if_pos c6] at H
      have c6b0 : decide (0 ≤ x5_1) = true := decide_eq_true c6
      clear c6
      (first | rw [c6b0] | rw [c6b2] | rw [c6b1] | (simp only [i64_w, i32_w]; rw [c6b0]) | skip)
      replace H := Option.bind_eq_some_iff.mp H
      obtain ⟨t288, A70, H⟩ := H
      replace H : (if t288 = true then (if ((rd_T24 l0 x5_1).f1) = 70 then ((zff.f k1 ((rd_T24 l0 x5_1).f4) (wrap64 (a1 + 1))).bind fun t291 => (zff.j1 k1 l0 a1 x5_1 (!t291))) else (zff.j1 k1 l0 a1 x5_1 false)) else (zff.j1 k1 l0 a1 x5_1 true)) = some r := H
      have A7 := Zs.mk A70
      clear A70
      by_cases c8 : t288 = true
      ·
       subst c8
       have H1 : (if ((rd_T24 l0 x5_1).f1) = 70 then ((zff.f k1 ((rd_T24 l0 x5_1).f4) (wrap64 (a1 + 1))).bind fun t291 => (zff.j1 k1 l0 a1 x5_1 (!t291))) else (zff.j1 k1 l0 a1 x5_1 false)) = some r := by rw [if_pos rfl] at H; exact H
       clear H
       have H := H1
       clear H1
       by_cases c9 : ((rd_T24 l0 x5_1).f1) = 70
       ·
        rw [if_pos c9] at H
        have c9b0 : (((rd_T24 l0 x5_1).f1) == 70) = true := beq_iff_eq.mpr c9
        have c9b1 : (((rd_T24 l0 x5_1).f1) != 70) = false := bne_eq_false_iff_eq.mpr c9
        clear c9
        replace H := Option.bind_eq_some_iff.mp H
        obtain ⟨t291, A100, H⟩ := H
        replace H : (zff.j1 k1 l0 a1 x5_1 (!t291)) = some r := H
        have A10 := Zs.mk A100
        clear A100
        have H' := Zs.mk H
        clear H
        have p287 : 0 ≤ (x5_1 : Int) := of_decide_eq_true (by first | (with_reducible assumption) | assumption)
        have q287 : x5_1 < (l0.length : Int) := of_decide_eq_true (by first | (with_reducible assumption) | assumption)
        obtain ⟨ad287, A287_4, c287_4, e287, hx287_0, hx287_1, hx287_2, hx287_3, hx287_4, hl287_4, hi287_4⟩ := at_T24 HR0.out x5_1 p287 q287
        cases e287
        replace hx287_0 := (HB.out.cell (zq4 w _ hx287_0)).trans hx287_0
        replace hx287_1 := (HB.out.cell (zq4 w _ hx287_1)).trans hx287_1
        replace hx287_2 := (HB.out.cell (zq4 w _ hx287_2)).trans hx287_2
        replace hx287_3 := (HB.out.cell (zq4 w _ hx287_3)).trans hx287_3
        replace hx287_4 := (HB.out.cell (zq4 w _ hx287_4)).trans hx287_4
        have HR287_4 := Zs.mk hi287_4
        have HC287_4 := Zs.mk hl287_4
        clear hi287_4 hl287_4
        replace p287 := eq_true p287
        replace q287 := eq_true q287
        go_wp2_with (first | (go_at_call 67; (with_reducible refine (zfk.calls k1 ((rd_T24 l0 x5_1).f0) ((rd_T24 l0 x5_1).f1) ((rd_T24 l0 x5_1).f2) ((rd_T24 l0 x5_1).f3) _ _ ((rd_T24 l0 x5_1).f4) true _ ?side1 ?side2 A7.out).mono ?_); (case side1 => repeat (first | exact (Kd.C_below HR287_4.out HB.out) | (with_reducible refine Kd.C_alloc ?_ _) | (with_reducible refine Kd.C_drewN ?_ _) | (with_reducible refine Kd.C_drew ?_))); (case side2 => exact HC287_4.out); rintro e w11 ⟨rfl, hb⟩; have n0_ := Zs.mk (zbt (by repeat (first | (with_reducible first | exact HB.out | apply zba | apply zbn | apply zbd) | exact HB.out)) hb); clear HB; have HB := n0_; clear n0_; (try clear hb); (try clear hb2); (try clear hk); (try clear hi); (try clear hge); have p289 : 0 ≤ (x5_1 : Int) := of_decide_eq_true (by first | (with_reducible assumption) | assumption); have q289 : x5_1 < (l0.length : Int) := of_decide_eq_true (by first | (with_reducible assumption) | assumption); obtain ⟨ad289, A289_4, c289_4, e289, hx289_0, hx289_1, hx289_2, hx289_3, hx289_4, hl289_4, hi289_4⟩ := at_T24 HR0.out x5_1 p289 q289; obtain rfl : ad287 = ad289 := (by injection e289); replace hx289_0 := (HB.out.cell (zq4 w _ hx289_0)).trans hx289_0; replace hx289_1 := (HB.out.cell (zq4 w _ hx289_1)).trans hx289_1; replace hx289_2 := (HB.out.cell (zq4 w _ hx289_2)).trans hx289_2; replace hx289_3 := (HB.out.cell (zq4 w _ hx289_3)).trans hx289_3; replace hx289_4 := (HB.out.cell (zq4 w _ hx289_4)).trans hx289_4; have HR289_4 := Zs.mk hi289_4; have HC289_4 := Zs.mk hl289_4; clear hi289_4 hl289_4; replace p289 := eq_true p289; replace q289 := eq_true q289; have p290 : 0 ≤ (x5_1 : Int) := of_decide_eq_true (by first | (with_reducible assumption) | assumption); have q290 : x5_1 < (l0.length : Int) := of_decide_eq_true (by first | (with_reducible assumption) | assumption); obtain ⟨ad290, A290_4, c290_4, e290, hx290_0, hx290_1, hx290_2, hx290_3, hx290_4, hl290_4, hi290_4⟩ := at_T24 HR0.out x5_1 p290 q290; obtain rfl : ad287 = ad290 := (by injection e290); replace hx290_0 := (HB.out.cell (zq4 w _ hx290_0)).trans hx290_0; replace hx290_1 := (HB.out.cell (zq4 w _ hx290_1)).trans hx290_1; replace hx290_2 := (HB.out.cell (zq4 w _ hx290_2)).trans hx290_2; replace hx290_3 := (HB.out.cell (zq4 w _ hx290_3)).trans hx290_3; replace hx290_4 := (HB.out.cell (zq4 w _ hx290_4)).trans hx290_4; have HR290_4 := Zs.mk hi290_4; have HC290_4 := Zs.mk hl290_4; clear hi290_4 hl290_4; replace p290 := eq_true p290; replace q290 := eq_true q290; have ea_ := Option.some.inj (hx289_4.symm.trans hx290_4); injection ea_ with ea_ en_ ec_; subst ea_; subst ec_; clear en_) | (go_at_call 57; (with_reducible refine (ih k1 (by have := HK1.out; omega) _ _ ((rd_T24 l0 x5_1).f4) (wrap64 (a1 + 1)) t291 _ ?side1 ?side2 A10.out).mono ?_); (case side1 => repeat (first | exact (Kd.C_below HR290_4.out HB.out) | (with_reducible refine Kd.C_alloc ?_ _) | (with_reducible refine Kd.C_drewN ?_ _) | (with_reducible refine Kd.C_drew ?_))); (case side2 => exact HC290_4.out); rintro e w12 ⟨rfl, hb⟩; have n0_ := Zs.mk (zbt (by repeat (first | (with_reducible first | exact HB.out | apply zba | apply zbn | apply zbd) | exact HB.out)) hb); clear HB; have HB := n0_; clear n0_; (try clear hb); (try clear hb2); (try clear hk); (try clear hi); (try clear hge)))
        repeat (go_quiet (first | (go_at_call 67; (with_reducible refine (zfk.calls k1 ((rd_T24 l0 x5_1).f0) ((rd_T24 l0 x5_1).f1) ((rd_T24 l0 x5_1).f2) ((rd_T24 l0 x5_1).f3) _ _ ((rd_T24 l0 x5_1).f4) true _ ?side1 ?side2 A7.out).mono ?_); (case side1 => repeat (first | exact (Kd.C_below HR287_4.out HB.out) | (with_reducible refine Kd.C_alloc ?_ _) | (with_reducible refine Kd.C_drewN ?_ _) | (with_reducible refine Kd.C_drew ?_))); (case side2 => exact HC287_4.out); rintro e w11 ⟨rfl, hb⟩; have n0_ := Zs.mk (zbt (by repeat (first | (with_reducible first | exact HB.out | apply zba | apply zbn | apply zbd) | exact HB.out)) hb); clear HB; have HB := n0_; clear n0_; (try clear hb); (try clear hb2); (try clear hk); (try clear hi); (try clear hge); have p289 : 0 ≤ (x5_1 : Int) := of_decide_eq_true (by first | (with_reducible assumption) | assumption); have q289 : x5_1 < (l0.length : Int) := of_decide_eq_true (by first | (with_reducible assumption) | assumption); obtain ⟨ad289, A289_4, c289_4, e289, hx289_0, hx289_1, hx289_2, hx289_3, hx289_4, hl289_4, hi289_4⟩ := at_T24 HR0.out x5_1 p289 q289; obtain rfl : ad287 = ad289 := (by injection e289); replace hx289_0 := (HB.out.cell (zq4 w _ hx289_0)).trans hx289_0; replace hx289_1 := (HB.out.cell (zq4 w _ hx289_1)).trans hx289_1; replace hx289_2 := (HB.out.cell (zq4 w _ hx289_2)).trans hx289_2; replace hx289_3 := (HB.out.cell (zq4 w _ hx289_3)).trans hx289_3; replace hx289_4 := (HB.out.cell (zq4 w _ hx289_4)).trans hx289_4; have HR289_4 := Zs.mk hi289_4; have HC289_4 := Zs.mk hl289_4; clear hi289_4 hl289_4; replace p289 := eq_true p289; replace q289 := eq_true q289; have p290 : 0 ≤ (x5_1 : Int) := of_decide_eq_true (by first | (with_reducible assumption) | assumption); have q290 : x5_1 < (l0.length : Int) := of_decide_eq_true (by first | (with_reducible assumption) | assumption); obtain ⟨ad290, A290_4, c290_4, e290, hx290_0, hx290_1, hx290_2, hx290_3, hx290_4, hl290_4, hi290_4⟩ := at_T24 HR0.out x5_1 p290 q290; obtain rfl : ad287 = ad290 := (by injection e290); replace hx290_0 := (HB.out.cell (zq4 w _ hx290_0)).trans hx290_0; replace hx290_1 := (HB.out.cell (zq4 w _ hx290_1)).trans hx290_1; replace hx290_2 := (HB.out.cell (zq4 w _ hx290_2)).trans hx290_2; replace hx290_3 := (HB.out.cell (zq4 w _ hx290_3)).trans hx290_3; replace hx290_4 := (HB.out.cell (zq4 w _ hx290_4)).trans hx290_4; have HR290_4 := Zs.mk hi290_4; have HC290_4 := Zs.mk hl290_4; clear hi290_4 hl290_4; replace p290 := eq_true p290; replace q290 := eq_true q290; have ea_ := Option.some.inj (hx289_4.symm.trans hx290_4); injection ea_ with ea_ en_ ec_; subst ea_; subst ec_; clear en_) | (go_at_call 57; (with_reducible refine (ih k1 (by have := HK1.out; omega) _ _ ((rd_T24 l0 x5_1).f4) (wrap64 (a1 + 1)) t291 _ ?side1 ?side2 A10.out).mono ?_); (case side1 => repeat (first | exact (Kd.C_below HR290_4.out HB.out) | (with_reducible refine Kd.C_alloc ?_ _) | (with_reducible refine Kd.C_drewN ?_ _) | (with_reducible refine Kd.C_drew ?_))); (case side2 => exact HC290_4.out); rintro e w12 ⟨rfl, hb⟩; have n0_ := Zs.mk (zbt (by repeat (first | (with_reducible first | exact HB.out | apply zba | apply zbn | apply zbd) | exact HB.out)) hb); clear HB; have HB := n0_; clear n0_; (try clear hb); (try clear hb2); (try clear hk); (try clear hi); (try clear hge))); try go_wp2_with (first | (go_at_call 67; (with_reducible refine (zfk.calls k1 ((rd_T24 l0 x5_1).f0) ((rd_T24 l0 x5_1).f1) ((rd_T24 l0 x5_1).f2) ((rd_T24 l0 x5_1).f3) _ _ ((rd_T24 l0 x5_1).f4) true _ ?side1 ?side2 A7.out).mono ?_); (case side1 => repeat (first | exact (Kd.C_below HR287_4.out HB.out) | (with_reducible refine Kd.C_alloc ?_ _) | (with_reducible refine Kd.C_drewN ?_ _) | (with_reducible refine Kd.C_drew ?_))); (case side2 => exact HC287_4.out); rintro e w11 ⟨rfl, hb⟩; have n0_ := Zs.mk (zbt (by repeat (first | (with_reducible first | exact HB.out | apply zba | apply zbn | apply zbd) | exact HB.out)) hb); clear HB; have HB := n0_; clear n0_; (try clear hb); (try clear hb2); (try clear hk); (try clear hi); (try clear hge); have p289 : 0 ≤ (x5_1 : Int) := of_decide_eq_true (by first | (with_reducible assumption) | assumption); have q289 : x5_1 < (l0.length : Int) := of_decide_eq_true (by first | (with_reducible assumption) | assumption); obtain ⟨ad289, A289_4, c289_4, e289, hx289_0, hx289_1, hx289_2, hx289_3, hx289_4, hl289_4, hi289_4⟩ := at_T24 HR0.out x5_1 p289 q289; obtain rfl : ad287 = ad289 := (by injection e289); replace hx289_0 := (HB.out.cell (zq4 w _ hx289_0)).trans hx289_0; replace hx289_1 := (HB.out.cell (zq4 w _ hx289_1)).trans hx289_1; replace hx289_2 := (HB.out.cell (zq4 w _ hx289_2)).trans hx289_2; replace hx289_3 := (HB.out.cell (zq4 w _ hx289_3)).trans hx289_3; replace hx289_4 := (HB.out.cell (zq4 w _ hx289_4)).trans hx289_4; have HR289_4 := Zs.mk hi289_4; have HC289_4 := Zs.mk hl289_4; clear hi289_4 hl289_4; replace p289 := eq_true p289; replace q289 := eq_true q289; have p290 : 0 ≤ (x5_1 : Int) := of_decide_eq_true (by first | (with_reducible assumption) | assumption); have q290 : x5_1 < (l0.length : Int) := of_decide_eq_true (by first | (with_reducible assumption) | assumption); obtain ⟨ad290, A290_4, c290_4, e290, hx290_0, hx290_1, hx290_2, hx290_3, hx290_4, hl290_4, hi290_4⟩ := at_T24 HR0.out x5_1 p290 q290; obtain rfl : ad287 = ad290 := (by injection e290); replace hx290_0 := (HB.out.cell (zq4 w _ hx290_0)).trans hx290_0; replace hx290_1 := (HB.out.cell (zq4 w _ hx290_1)).trans hx290_1; replace hx290_2 := (HB.out.cell (zq4 w _ hx290_2)).trans hx290_2; replace hx290_3 := (HB.out.cell (zq4 w _ hx290_3)).trans hx290_3; replace hx290_4 := (HB.out.cell (zq4 w _ hx290_4)).trans hx290_4; have HR290_4 := Zs.mk hi290_4; have HC290_4 := Zs.mk hl290_4; clear hi290_4 hl290_4; replace p290 := eq_true p290; replace q290 := eq_true q290; have ea_ := Option.some.inj (hx289_4.symm.trans hx290_4); injection ea_ with ea_ en_ ec_; subst ea_; subst ec_; clear en_) | (go_at_call 57; (with_reducible refine (ih k1 (by have := HK1.out; omega) _ _ ((rd_T24 l0 x5_1).f4) (wrap64 (a1 + 1)) t291 _ ?side1 ?side2 A10.out).mono ?_); (case side1 => repeat (first | exact (Kd.C_below HR290_4.out HB.out) | (with_reducible refine Kd.C_alloc ?_ _) | (with_reducible refine Kd.C_drewN ?_ _) | (with_reducible refine Kd.C_drew ?_))); (case side2 => exact HC290_4.out); rintro e w12 ⟨rfl, hb⟩; have n0_ := Zs.mk (zbt (by repeat (first | (with_reducible first | exact HB.out | apply zba | apply zbn | apply zbd) | exact HB.out)) hb); clear HB; have HB := n0_; clear n0_; (try clear hb); (try clear hb2); (try clear hk); (try clear hi); (try clear hge))))
        go_meet
        case rel => exact ⟨_, (!t291), (by first | rfl | (simp; done) | (simp [*]; done)), H', ⟨by have := HK1.out; first | omega | exact Nat.le_refl _⟩, ⟨by repeat (first | (with_reducible first | exact HB.out | apply zba | apply zbn | apply zbd) | exact HB.out)⟩⟩
       rw [if_neg c9] at H
       have c9b0 : (((rd_T24 l0 x5_1).f1) == 70) = false := beq_eq_false_iff_ne.mpr c9
       have c9b1 : (((rd_T24 l0 x5_1).f1) != 70) = true := bne_iff_ne.mpr c9
       have H' := Zs.mk H
       clear H
       have p287 : 0 ≤ (x5_1 : Int) := of_decide_eq_true (by first | (with_reducible assumption) | assumption)
       have q287 : x5_1 < (l0.length : Int) := of_decide_eq_true (by first | (with_reducible assumption) | assumption)
       obtain ⟨ad287, A287_4, c287_4, e287, hx287_0, hx287_1, hx287_2, hx287_3, hx287_4, hl287_4, hi287_4⟩ := at_T24 HR0.out x5_1 p287 q287
       cases e287
       replace hx287_0 := (HB.out.cell (zq4 w _ hx287_0)).trans hx287_0
       replace hx287_1 := (HB.out.cell (zq4 w _ hx287_1)).trans hx287_1
       replace hx287_2 := (HB.out.cell (zq4 w _ hx287_2)).trans hx287_2
       replace hx287_3 := (HB.out.cell (zq4 w _ hx287_3)).trans hx287_3
       replace hx287_4 := (HB.out.cell (zq4 w _ hx287_4)).trans hx287_4
       have HR287_4 := Zs.mk hi287_4
       have HC287_4 := Zs.mk hl287_4
       clear hi287_4 hl287_4
       replace p287 := eq_true p287
       replace q287 := eq_true q287
       go_wp2_with (first | (go_at_call 67; (with_reducible refine (zfk.calls k1 ((rd_T24 l0 x5_1).f0) ((rd_T24 l0 x5_1).f1) ((rd_T24 l0 x5_1).f2) ((rd_T24 l0 x5_1).f3) _ _ ((rd_T24 l0 x5_1).f4) true _ ?side1 ?side2 A7.out).mono ?_); (case side1 => repeat (first | exact (Kd.C_below HR287_4.out HB.out) | (with_reducible refine Kd.C_alloc ?_ _) | (with_reducible refine Kd.C_drewN ?_ _) | (with_reducible refine Kd.C_drew ?_))); (case side2 => exact HC287_4.out); rintro e w13 ⟨rfl, hb⟩; have n0_ := Zs.mk (zbt (by repeat (first | (with_reducible first | exact HB.out | apply zba | apply zbn | apply zbd) | exact HB.out)) hb); clear HB; have HB := n0_; clear n0_; (try clear hb); (try clear hb2); (try clear hk); (try clear hi); (try clear hge); have p289 : 0 ≤ (x5_1 : Int) := of_decide_eq_true (by first | (with_reducible assumption) | assumption); have q289 : x5_1 < (l0.length : Int) := of_decide_eq_true (by first | (with_reducible assumption) | assumption); obtain ⟨ad289, A289_4, c289_4, e289, hx289_0, hx289_1, hx289_2, hx289_3, hx289_4, hl289_4, hi289_4⟩ := at_T24 HR0.out x5_1 p289 q289; obtain rfl : ad287 = ad289 := (by injection e289); replace hx289_0 := (HB.out.cell (zq4 w _ hx289_0)).trans hx289_0; replace hx289_1 := (HB.out.cell (zq4 w _ hx289_1)).trans hx289_1; replace hx289_2 := (HB.out.cell (zq4 w _ hx289_2)).trans hx289_2; replace hx289_3 := (HB.out.cell (zq4 w _ hx289_3)).trans hx289_3; replace hx289_4 := (HB.out.cell (zq4 w _ hx289_4)).trans hx289_4; have HR289_4 := Zs.mk hi289_4; have HC289_4 := Zs.mk hl289_4; clear hi289_4 hl289_4; replace p289 := eq_true p289; replace q289 := eq_true q289))
       repeat (go_quiet (first | (go_at_call 67; (with_reducible refine (zfk.calls k1 ((rd_T24 l0 x5_1).f0) ((rd_T24 l0 x5_1).f1) ((rd_T24 l0 x5_1).f2) ((rd_T24 l0 x5_1).f3) _ _ ((rd_T24 l0 x5_1).f4) true _ ?side1 ?side2 A7.out).mono ?_); (case side1 => repeat (first | exact (Kd.C_below HR287_4.out HB.out) | (with_reducible refine Kd.C_alloc ?_ _) | (with_reducible refine Kd.C_drewN ?_ _) | (with_reducible refine Kd.C_drew ?_))); (case side2 => exact HC287_4.out); rintro e w13 ⟨rfl, hb⟩; have n0_ := Zs.mk (zbt (by repeat (first | (with_reducible first | exact HB.out | apply zba | apply zbn | apply zbd) | exact HB.out)) hb); clear HB; have HB := n0_; clear n0_; (try clear hb); (try clear hb2); (try clear hk); (try clear hi); (try clear hge); have p289 : 0 ≤ (x5_1 : Int) := of_decide_eq_true (by first | (with_reducible assumption) | assumption); have q289 : x5_1 < (l0.length : Int) := of_decide_eq_true (by first | (with_reducible assumption) | assumption); obtain ⟨ad289, A289_4, c289_4, e289, hx289_0, hx289_1, hx289_2, hx289_3, hx289_4, hl289_4, hi289_4⟩ := at_T24 HR0.out x5_1 p289 q289; obtain rfl : ad287 = ad289 := (by injection e289); replace hx289_0 := (HB.out.cell (zq4 w _ hx289_0)).trans hx289_0; replace hx289_1 := (HB.out.cell (zq4 w _ hx289_1)).trans hx289_1; replace hx289_2 := (HB.out.cell (zq4 w _ hx289_2)).trans hx289_2; replace hx289_3 := (HB.out.cell (zq4 w _ hx289_3)).trans hx289_3; replace hx289_4 := (HB.out.cell (zq4 w _ hx289_4)).trans hx289_4; have HR289_4 := Zs.mk hi289_4; have HC289_4 := Zs.mk hl289_4; clear hi289_4 hl289_4; replace p289 := eq_true p289; replace q289 := eq_true q289)); try go_wp2_with (first | (go_at_call 67; (with_reducible refine (zfk.calls k1 ((rd_T24 l0 x5_1).f0) ((rd_T24 l0 x5_1).f1) ((rd_T24 l0 x5_1).f2) ((rd_T24 l0 x5_1).f3) _ _ ((rd_T24 l0 x5_1).f4) true _ ?side1 ?side2 A7.out).mono ?_); (case side1 => repeat (first | exact (Kd.C_below HR287_4.out HB.out) | (with_reducible refine Kd.C_alloc ?_ _) | (with_reducible refine Kd.C_drewN ?_ _) | (with_reducible refine Kd.C_drew ?_))); (case side2 => exact HC287_4.out); rintro e w13 ⟨rfl, hb⟩; have n0_ := Zs.mk (zbt (by repeat (first | (with_reducible first | exact HB.out | apply zba | apply zbn | apply zbd) | exact HB.out)) hb); clear HB; have HB := n0_; clear n0_; (try clear hb); (try clear hb2); (try clear hk); (try clear hi); (try clear hge); have p289 : 0 ≤ (x5_1 : Int) := of_decide_eq_true (by first | (with_reducible assumption) | assumption); have q289 : x5_1 < (l0.length : Int) := of_decide_eq_true (by first | (with_reducible assumption) | assumption); obtain ⟨ad289, A289_4, c289_4, e289, hx289_0, hx289_1, hx289_2, hx289_3, hx289_4, hl289_4, hi289_4⟩ := at_T24 HR0.out x5_1 p289 q289; obtain rfl : ad287 = ad289 := (by injection e289); replace hx289_0 := (HB.out.cell (zq4 w _ hx289_0)).trans hx289_0; replace hx289_1 := (HB.out.cell (zq4 w _ hx289_1)).trans hx289_1; replace hx289_2 := (HB.out.cell (zq4 w _ hx289_2)).trans hx289_2; replace hx289_3 := (HB.out.cell (zq4 w _ hx289_3)).trans hx289_3; replace hx289_4 := (HB.out.cell (zq4 w _ hx289_4)).trans hx289_4; have HR289_4 := Zs.mk hi289_4; have HC289_4 := Zs.mk hl289_4; clear hi289_4 hl289_4; replace p289 := eq_true p289; replace q289 := eq_true q289)))
       go_meet
       case rel => exact ⟨_, (false), (by first | rfl | (simp; done) | (simp [*]; done)), H', ⟨by have := HK1.out; first | omega | exact Nat.le_refl _⟩, ⟨by repeat (first | (with_reducible first | exact HB.out | apply zba | apply zbn | apply zbd) | exact HB.out)⟩⟩
      replace c8 := Bool.eq_false_iff.mpr c8
      subst c8
      have H1 : (zff.j1 k1 l0 a1 x5_1 true) = some r := by rw [if_neg (show ¬ (false = true) by decide)] at H; exact H
      clear H
      have H := H1
      clear H1
      have H' := Zs.mk H
      clear H
      have p287 : 0 ≤ (x5_1 : Int) := of_decide_eq_true (by first | (with_reducible assumption) | assumption)
      have q287 : x5_1 < (l0.length : Int) := of_decide_eq_true (by first | (with_reducible assumption) | assumption)
      obtain ⟨ad287, A287_4, c287_4, e287, hx287_0, hx287_1, hx287_2, hx287_3, hx287_4, hl287_4, hi287_4⟩ := at_T24 HR0.out x5_1 p287 q287
      cases e287
      replace hx287_0 := (HB.out.cell (zq4 w _ hx287_0)).trans hx287_0
      replace hx287_1 := (HB.out.cell (zq4 w _ hx287_1)).trans hx287_1
      replace hx287_2 := (HB.out.cell (zq4 w _ hx287_2)).trans hx287_2
      replace hx287_3 := (HB.out.cell (zq4 w _ hx287_3)).trans hx287_3
      replace hx287_4 := (HB.out.cell (zq4 w _ hx287_4)).trans hx287_4
      have HR287_4 := Zs.mk hi287_4
      have HC287_4 := Zs.mk hl287_4
      clear hi287_4 hl287_4
      replace p287 := eq_true p287
      replace q287 := eq_true q287
      go_wp2_with (first | (go_at_call 67; (with_reducible refine (zfk.calls k1 ((rd_T24 l0 x5_1).f0) ((rd_T24 l0 x5_1).f1) ((rd_T24 l0 x5_1).f2) ((rd_T24 l0 x5_1).f3) _ _ ((rd_T24 l0 x5_1).f4) false _ ?side1 ?side2 A7.out).mono ?_); (case side1 => repeat (first | exact (Kd.C_below HR287_4.out HB.out) | (with_reducible refine Kd.C_alloc ?_ _) | (with_reducible refine Kd.C_drewN ?_ _) | (with_reducible refine Kd.C_drew ?_))); (case side2 => exact HC287_4.out); rintro e w14 ⟨rfl, hb⟩; have n0_ := Zs.mk (zbt (by repeat (first | (with_reducible first | exact HB.out | apply zba | apply zbn | apply zbd) | exact HB.out)) hb); clear HB; have HB := n0_; clear n0_; (try clear hb); (try clear hb2); (try clear hk); (try clear hi); (try clear hge)))
      repeat (go_quiet (first | (go_at_call 67; (with_reducible refine (zfk.calls k1 ((rd_T24 l0 x5_1).f0) ((rd_T24 l0 x5_1).f1) ((rd_T24 l0 x5_1).f2) ((rd_T24 l0 x5_1).f3) _ _ ((rd_T24 l0 x5_1).f4) false _ ?side1 ?side2 A7.out).mono ?_); (case side1 => repeat (first | exact (Kd.C_below HR287_4.out HB.out) | (with_reducible refine Kd.C_alloc ?_ _) | (with_reducible refine Kd.C_drewN ?_ _) | (with_reducible refine Kd.C_drew ?_))); (case side2 => exact HC287_4.out); rintro e w14 ⟨rfl, hb⟩; have n0_ := Zs.mk (zbt (by repeat (first | (with_reducible first | exact HB.out | apply zba | apply zbn | apply zbd) | exact HB.out)) hb); clear HB; have HB := n0_; clear n0_; (try clear hb); (try clear hb2); (try clear hk); (try clear hi); (try clear hge))); try go_wp2_with (first | (go_at_call 67; (with_reducible refine (zfk.calls k1 ((rd_T24 l0 x5_1).f0) ((rd_T24 l0 x5_1).f1) ((rd_T24 l0 x5_1).f2) ((rd_T24 l0 x5_1).f3) _ _ ((rd_T24 l0 x5_1).f4) false _ ?side1 ?side2 A7.out).mono ?_); (case side1 => repeat (first | exact (Kd.C_below HR287_4.out HB.out) | (with_reducible refine Kd.C_alloc ?_ _) | (with_reducible refine Kd.C_drewN ?_ _) | (with_reducible refine Kd.C_drew ?_))); (case side2 => exact HC287_4.out); rintro e w14 ⟨rfl, hb⟩; have n0_ := Zs.mk (zbt (by repeat (first | (with_reducible first | exact HB.out | apply zba | apply zbn | apply zbd) | exact HB.out)) hb); clear HB; have HB := n0_; clear n0_; (try clear hb); (try clear hb2); (try clear hk); (try clear hi); (try clear hge))))
      go_meet
      case rel => exact ⟨_, (true), (by first | rfl | (simp; done) | (simp [*]; done)), H', ⟨by have := HK1.out; first | omega | exact Nat.le_refl _⟩, ⟨by repeat (first | (with_reducible first | exact HB.out | apply zba | apply zbn | apply zbd) | exact HB.out)⟩⟩
     rw [if_neg c6] at H
     exact absurd H (by simp)
    case rest =>
     clear HC5
     try clear c2
     try clear p2
     try clear q2
     try clear hx2
     try clear c3
     try clear c3b0
     try clear c4
     try clear c4b0
     try clear c5
     try clear c6
     try clear c6b0
     try clear p6
     try clear c8
     try clear c9
     try clear c9b0
     try clear c9b1
     try clear hx287_0
     try clear hx287_1
     try clear hx287_2
     try clear hx287_3
     try clear hx287_4
     try clear hx289_0
     try clear hx289_1
     try clear hx289_2
     try clear hx289_3
     try clear hx289_4
     try clear hx290_0
     try clear hx290_1
     try clear hx290_2
     try clear hx290_3
     try clear hx290_4
     try clear p2
     try clear p287
     try clear p289
     try clear p290
     try clear q287
     try clear q289
     try clear q290
     obtain ⟨kq, x39_4, rfl, HA, HJ4, HB⟩ := hcut
     cases kq with
     | zero => exact absurd HA.out (by simp [zff.j1])
     | succ kj4 =>
      have H := HA.out
      clear HA
      simp only [zff.j1] at H
      by_cases c15 : x39_4 = true
      ·
       subst c15
       have H1 : (some false) = some r := by rw [if_pos rfl] at H; exact H
       clear H
       have H := H1
       clear H1
       obtain rfl := Option.some.inj H
       go_wp2
       repeat (go_quiet (fail); try go_wp2)
       all_goals first | (go_ret; exact ⟨by first | rfl | (simp [zen, zes]; done) | (simp [zen, zes]; rfl) | (simp [*, zen, zes]; done) | (simp [*, zen, zes]; rfl), by repeat (first | (with_reducible first | exact HB.out | apply zba | apply zbn | apply zbd) | exact HB.out)⟩) | (exfalso; simp_all; done)
      replace c15 := Bool.eq_false_iff.mpr c15
      subst c15
      have H1 : (zff.l1 kj4 l0 a1 x5_1 0) = some r := by rw [if_neg (show ¬ (false = true) by decide)] at H; exact H
      clear H
      have H := H1
      clear H1
      have H' := Zs.mk H
      clear H
      go_wp2
      repeat (go_quiet (fail); try go_wp2)
      go_loopg [6] kj4 (fun kq v6 w' => ∃ (x6_3 : Int), v6 = .int .i64 x6_3 ∧ Zs (zff.l1 kq l0 a1 x5_1 x6_3 = some r) ∧ Zs (kq ≤ kj4) ∧ Zs (Below w.heap.size w w'))
      case atStart => exact ⟨(0), (by first | rfl | (simp; done) | (simp [*]; done)), H', ⟨Nat.le_refl _⟩, ⟨by repeat (first | (with_reducible first | exact HB.out | apply zba | apply zbn | apply zbd) | exact HB.out)⟩⟩
      case round =>
       clear H'
       try clear c1
       try clear c2
       try clear p2
       try clear q2
       try clear hx2
       try clear c3
       try clear c3b0
       try clear c4
       try clear c4b0
       try clear c5
       try clear c6
       try clear c6b0
       try clear p6
       try clear c8
       try clear c9
       try clear c9b0
       try clear c9b1
       try clear c15
       try clear hx287_0
       try clear hx287_1
       try clear hx287_2
       try clear hx287_3
       try clear hx287_4
       try clear hx289_0
       try clear hx289_1
       try clear hx289_2
       try clear hx289_3
       try clear hx289_4
       try clear hx290_0
       try clear hx290_1
       try clear hx290_2
       try clear hx290_3
       try clear hx290_4
       try clear p2
       try clear p287
       try clear p289
       try clear p290
       try clear p6
       try clear q2
       try clear q287
       try clear q289
       try clear q290
       obtain ⟨x6_3, rfl, HA, HK3, HB⟩ := hrel
       cases gk with
       | zero => exact absurd HA.out (by simp [zff.l1])
       | succ k3 =>
        have H := HA.out
        clear HA
        simp only [zff.l1] at H
        by_cases c16 : x6_3 < x5_1
        ·
         rw [if_pos c16] at H
         have c16b0 : decide (x6_3 < x5_1) = true := decide_eq_true c16
         clear c16
         by_cases c17 : 0 ≤ x6_3
         ·
          rw [if_pos c17] at H
          have c17b0 : decide (0 ≤ x6_3) = true := decide_eq_true c17
          clear c17
          by_cases c18 : x6_3 < (l0.length : Int)
          ·
           rw [if_pos c18] at H
           have c18b0 : decide (x6_3 < (l0.length : Int)) = true := decide_eq_true c18
           clear c18
           by_cases c19 : 0 ≤ x5_1
           ·
            rw [if_pos c19] at H
            have c19b0 : decide (0 ≤ x5_1) = true := decide_eq_true c19
            clear c19
            by_cases c20 : x5_1 < (l0.length : Int)
            ·
             rw [if_pos c20] at H
             have c20b0 : decide (x5_1 < (l0.length : Int)) = true := decide_eq_true c20
             clear c20
             by_cases c21 : ((rd_T24 l0 x6_3).f0).toList = ((rd_T24 l0 x5_1).f0).toList
             ·
              rw [if_pos c21] at H
              have c21b0 : (((rd_T24 l0 x6_3).f0).toList == ((rd_T24 l0 x5_1).f0).toList) = true := beq_iff_eq.mpr c21
              have c21b1 : (((rd_T24 l0 x6_3).f0).toList != ((rd_T24 l0 x5_1).f0).toList) = false := bne_eq_false_iff_eq.mpr c21
              clear c21
              obtain rfl := Option.some.inj H
              have p292 : 0 ≤ (x6_3 : Int) := of_decide_eq_true (by first | (with_reducible assumption) | assumption)
              have q292 : x6_3 < (l0.length : Int) := of_decide_eq_true (by first | (with_reducible assumption) | assumption)
              obtain ⟨ad292, A292_4, c292_4, e292, hx292_0, hx292_1, hx292_2, hx292_3, hx292_4, hl292_4, hi292_4⟩ := at_T24 HR0.out x6_3 p292 q292
              cases e292
              replace hx292_0 := (HB.out.cell (zq4 w _ hx292_0)).trans hx292_0
              replace hx292_1 := (HB.out.cell (zq4 w _ hx292_1)).trans hx292_1
              replace hx292_2 := (HB.out.cell (zq4 w _ hx292_2)).trans hx292_2
              replace hx292_3 := (HB.out.cell (zq4 w _ hx292_3)).trans hx292_3
              replace hx292_4 := (HB.out.cell (zq4 w _ hx292_4)).trans hx292_4
              have HR292_4 := Zs.mk hi292_4
              have HC292_4 := Zs.mk hl292_4
              clear hi292_4 hl292_4
              replace p292 := eq_true p292
              replace q292 := eq_true q292
              have p293 : 0 ≤ (x5_1 : Int) := of_decide_eq_true (by first | (with_reducible assumption) | assumption)
              have q293 : x5_1 < (l0.length : Int) := of_decide_eq_true (by first | (with_reducible assumption) | assumption)
              obtain ⟨ad293, A293_4, c293_4, e293, hx293_0, hx293_1, hx293_2, hx293_3, hx293_4, hl293_4, hi293_4⟩ := at_T24 HR0.out x5_1 p293 q293
              obtain rfl : ad292 = ad293 := (by injection e293)
              replace hx293_0 := (HB.out.cell (zq4 w _ hx293_0)).trans hx293_0
              replace hx293_1 := (HB.out.cell (zq4 w _ hx293_1)).trans hx293_1
              replace hx293_2 := (HB.out.cell (zq4 w _ hx293_2)).trans hx293_2
              replace hx293_3 := (HB.out.cell (zq4 w _ hx293_3)).trans hx293_3
              replace hx293_4 := (HB.out.cell (zq4 w _ hx293_4)).trans hx293_4
              have HR293_4 := Zs.mk hi293_4
              have HC293_4 := Zs.mk hl293_4
              clear hi293_4 hl293_4
              replace p293 := eq_true p293
              replace q293 := eq_true q293
              go_wp2
              repeat (go_quiet (fail); try go_wp2)
              all_goals first | (go_ret; exact ⟨by first | rfl | (simp [zen, zes]; done) | (simp [zen, zes]; rfl) | (simp [*, zen, zes]; done) | (simp [*, zen, zes]; rfl), by repeat (first | (with_reducible first | exact HB.out | apply zba | apply zbn | apply zbd) | exact HB.out)⟩) | (exfalso; simp_all; done)
             rw [if_neg c21] at H
             have c21b0 : (((rd_T24 l0 x6_3).f0).toList == ((rd_T24 l0 x5_1).f0).toList) = false := beq_eq_false_iff_ne.mpr c21
             have c21b1 : (((rd_T24 l0 x6_3).f0).toList != ((rd_T24 l0 x5_1).f0).toList) = true := bne_iff_ne.mpr c21
             have H' := Zs.mk H
             clear H
             have p292 : 0 ≤ (x6_3 : Int) := of_decide_eq_true (by first | (with_reducible assumption) | assumption)
             have q292 : x6_3 < (l0.length : Int) := of_decide_eq_true (by first | (with_reducible assumption) | assumption)
             obtain ⟨ad292, A292_4, c292_4, e292, hx292_0, hx292_1, hx292_2, hx292_3, hx292_4, hl292_4, hi292_4⟩ := at_T24 HR0.out x6_3 p292 q292
             cases e292
             replace hx292_0 := (HB.out.cell (zq4 w _ hx292_0)).trans hx292_0
             replace hx292_1 := (HB.out.cell (zq4 w _ hx292_1)).trans hx292_1
             replace hx292_2 := (HB.out.cell (zq4 w _ hx292_2)).trans hx292_2
             replace hx292_3 := (HB.out.cell (zq4 w _ hx292_3)).trans hx292_3
             replace hx292_4 := (HB.out.cell (zq4 w _ hx292_4)).trans hx292_4
             have HR292_4 := Zs.mk hi292_4
             have HC292_4 := Zs.mk hl292_4
             clear hi292_4 hl292_4
             replace p292 := eq_true p292
             replace q292 := eq_true q292
             have p293 : 0 ≤ (x5_1 : Int) := of_decide_eq_true (by first | (with_reducible assumption) | assumption)
             have q293 : x5_1 < (l0.length : Int) := of_decide_eq_true (by first | (with_reducible assumption) | assumption)
             obtain ⟨ad293, A293_4, c293_4, e293, hx293_0, hx293_1, hx293_2, hx293_3, hx293_4, hl293_4, hi293_4⟩ := at_T24 HR0.out x5_1 p293 q293
             obtain rfl : ad292 = ad293 := (by injection e293)
             replace hx293_0 := (HB.out.cell (zq4 w _ hx293_0)).trans hx293_0
             replace hx293_1 := (HB.out.cell (zq4 w _ hx293_1)).trans hx293_1
             replace hx293_2 := (HB.out.cell (zq4 w _ hx293_2)).trans hx293_2
             replace hx293_3 := (HB.out.cell (zq4 w _ hx293_3)).trans hx293_3
             replace hx293_4 := (HB.out.cell (zq4 w _ hx293_4)).trans hx293_4
             have HR293_4 := Zs.mk hi293_4
             have HC293_4 := Zs.mk hl293_4
             clear hi293_4 hl293_4
             replace p293 := eq_true p293
             replace q293 := eq_true q293
             go_wp2
             repeat (go_quiet (fail); try go_wp2)
             go_roundg k3
             case measure => have := HK1.out; have := HJ4.out; have := HK3.out; omega
             case rel => exact ⟨(wrap64 (x6_3 + 1)), (by first | rfl | (simp; done) | (simp [*]; done)), H', ⟨by have := HK1.out; have := HJ4.out; have := HK3.out; omega⟩, ⟨by repeat (first | (with_reducible first | exact HB.out | apply zba | apply zbn | apply zbd) | exact HB.out)⟩⟩
            rw [if_neg c20] at H
            exact absurd H (by simp)
           rw [if_neg c19] at H
           exact absurd H (by simp)
          rw [if_neg c18] at H
          exact absurd H (by simp)
         rw [if_neg c17] at H
         exact absurd H (by simp)
        rw [if_neg c16] at H
        have c16b0 : decide (x6_3 < x5_1) = false := decide_eq_false c16
        clear c16
        have H' := Zs.mk H
        clear H
        go_wp2
        repeat (go_quiet (fail); try go_wp2)
        go_roundg k3
        case measure => have := HK1.out; have := HJ4.out; have := HK3.out; omega
        case rel => exact ⟨(wrap64 (x5_1 + 1)), (by first | rfl | (simp; done) | (simp [*]; done)), H', ⟨by have := HK1.out; have := HJ4.out; have := HK3.out; omega⟩, ⟨by repeat (first | (with_reducible first | exact HB.out | apply zba | apply zbn | apply zbd) | exact HB.out)⟩⟩
   rw [if_neg c4] at H
   have c4b0 : decide (x5_1 < (l0.length : Int)) = false := decide_eq_false c4
   clear c4
   obtain rfl := Option.some.inj H
   go_wp2
   repeat (go_quiet (fail); try go_wp2)
   all_goals first | (go_ret; exact ⟨by first | rfl | (simp [zen, zes]; done) | (simp [zen, zes]; rfl) | (simp [*, zen, zes]; done) | (simp [*, zen, zes]; rfl), by repeat (first | (with_reducible first | exact HB.out | apply zba | apply zbn | apply zbd) | exact HB.out)⟩) | (exfalso; simp_all; done)

end Go.Proofs.Ytfhaffpegncdiaa.PT
