/- What functions of the given program come to, and that they do: written out of the translation by a program of this session; Lean checks it. -/
import Derived.Test.YtpjkaodbcclecaaPAx0
namespace Go.Proofs.Ytpjkaodbcclecaa.PA
open Go.RowKit Go.Proofs.YtpjkaodbcclecaaW.PrintWords Go.Proofs.YtpjkaodbcclecaaW.PrintLast Go.Proofs.YtpjkaodbcclecaaW.PrintMore
attribute [local go_sem] max2_int min2_int max_two min_two max_three min_three max_four min_four   -- for this text's walks alone
set_option linter.unusedVariables false
set_option linter.unusedSimpArgs false

/-! ### waybillref16_SameOps: function 28 -/
def waybillref16_SameOps.l0 : Nat → List (S38) → List (S38) → Int → Option (Bool)
  | 0, _, _, _ => none
  | k + 1, x0, x1, x5 => if x5 < (x0.length : Int) then (if 0 ≤ x5 then (if x5 < (x1.length : Int) then (if ((rd_T38 x0 x5).f0).toList = ((rd_T38 x1 x5).f0).toList then (if (((rd_T38 x0 x5).f1) != ((rd_T38 x1 x5).f1)) = true then (some false) else (if (strOfNums ((rd_T38 x0 x5).f2)).toList = (strOfNums ((rd_T38 x1 x5).f2)).toList then (waybillref16_SameOps.l0 k x0 x1 (wrap64 (x5 + 1))) else (some false))) else (some false)) else (none)) else (none)) else (some true)
def waybillref16_SameOps.f (k : Nat) (l0 : List (S38)) (l1 : List (S38)) : Option (Bool) := if (l0.length : Int) = (l1.length : Int) then (waybillref16_SameOps.l0 k l0 l1 0) else (some false)
theorem waybillref16_SameOps.mono_l : ∀ k, (∀ y0 y1 y2, LeO (waybillref16_SameOps.l0 k y0 y1 y2) (waybillref16_SameOps.l0 (k + 1) y0 y1 y2))
  | 0 => fun _ _ _ r h => by simp [waybillref16_SameOps.l0] at h
  | k + 1 => by
    have ih0 := waybillref16_SameOps.mono_l k
    · intro y0 y1 y2
      unfold waybillref16_SameOps.l0
      repeat' first
      | (with_reducible exact ih0 _ _ _)
      | (with_reducible exact LeO.refl _)
      | (with_reducible exact LeO.none _)
      | (with_reducible refine LeO.ite ?_ ?_)
      | (with_reducible refine LeO.bind ?_ (fun _ => ?_))
      | exact ih0 _ _ _
      | exact LeO.none _
      | refine LeO.ite ?_ ?_
      | refine LeO.bind ?_ (fun _ => ?_)
theorem waybillref16_SameOps.mono : ∀ a0 a1 k, LeO (waybillref16_SameOps.f k a0 a1) (waybillref16_SameOps.f (k + 1) a0 a1) := by
  intro a0 a1 k
  have ih0 := waybillref16_SameOps.mono_l k
  unfold waybillref16_SameOps.f
  repeat' first
      | (with_reducible exact ih0 _ _ _)
      | (with_reducible exact LeO.refl _)
      | (with_reducible exact LeO.none _)
      | (with_reducible refine LeO.ite ?_ ?_)
      | (with_reducible refine LeO.bind ?_ (fun _ => ?_))
      | exact ih0 _ _ _
      | exact LeO.none _
      | refine LeO.ite ?_ ?_
      | refine LeO.bind ?_ (fun _ => ?_)
set_option maxHeartbeats 8000000 in
set_option maxRecDepth 100000 in
theorem waybillref16_SameOps.calls (k : Nat) (A0 : Option Addr) (c0 : Nat) (l0 : List (S38)) (A1 : Option Addr) (c1 : Nat) (l1 : List (S38)) (r : Bool) (w : World) (hr0 : Kd.C k38 w A0 l0.length l0) (hc0 : l0.length ≤ c0) (hr1 : Kd.C k38 w A1 l1.length l1) (hc1 : l1.length ≤ c1) (h : waybillref16_SameOps.f k l0 l1 = some r) :
    Calls Try.prog 28 #[.slice A0 l0.length c0, .slice A1 l1.length c1] w fun e w' => e = .returned (.bool r) ∧ Drawn0 w w' := by
  have HR0 := Aside0.mk hr0
  have HC0 := Aside0.mk hc0
  clear hr0 hc0
  have HR1 := Aside0.mk hr1
  have HC1 := Aside0.mk hc1
  clear hr1 hc1
  have H : (if (l0.length : Int) = (l1.length : Int) then (waybillref16_SameOps.l0 k l0 l1 0) else (some false)) = some r := h
  clear h
  by_cases c3 : (l0.length : Int) = (l1.length : Int)
  · rw [if_pos c3] at H
    have c3b0 : ((l0.length : Int) == (l1.length : Int)) = true := beq_iff_eq.mpr c3
    have c3b1 : ((l0.length : Int) != (l1.length : Int)) = false := bne_eq_false_iff_eq.mpr c3
    have c3b2 : (l0.length == l1.length) = true := by first | simpa using c3 | (simp at c3 ⊢; omega)
    clear c3
    have H' := Aside0.mk H
    clear H
    go_enter Try.func28, Try.ntmps28
    go_wp2
    repeat (go_quiet (fail); try go_wp2)
    go_loopg [5] k (fun kq v5 w' => ∃ (x5_1 : Int), v5 = .int .i64 x5_1 ∧ Aside0 (waybillref16_SameOps.l0 kq l0 l1 x5_1 = some r) ∧ Aside0 (kq ≤ k) ∧ Drawn0 w w')
    case atStart => exact ⟨(0), (by first | rfl | (simp; done) | (simp [*]; done)), H', ⟨Nat.le_refl _⟩, by repeat (first | exact Drawn0.refl _ | apply Drawn0.step)⟩
    case round =>
      clear H'
      try clear c1
      try clear c2
      try clear p2
      try clear c3
      try clear c3b0
      try clear c3b1
      try clear c3b2
      obtain ⟨x5_1, rfl, HA, HK1, ⟨m1, rfl⟩⟩ := hrel
      cases gk with
      | zero => exact absurd HA.out (by simp [waybillref16_SameOps.l0])
      | succ k1 =>
        have H := HA.out
        clear HA
        simp only [waybillref16_SameOps.l0] at H
        by_cases c4 : x5_1 < (l0.length : Int)
        · rw [if_pos c4] at H
          have c4b0 : decide (x5_1 < (l0.length : Int)) = true := decide_eq_true c4
          clear c4
          by_cases c5 : 0 ≤ x5_1
          · rw [if_pos c5] at H
            have c5b0 : decide (0 ≤ x5_1) = true := decide_eq_true c5
            clear c5
            by_cases c6 : x5_1 < (l1.length : Int)
            · rw [if_pos c6] at H
              have c6b0 : decide (x5_1 < (l1.length : Int)) = true := decide_eq_true c6
              clear c6
              by_cases c7 : ((rd_T38 l0 x5_1).f0).toList = ((rd_T38 l1 x5_1).f0).toList
              · rw [if_pos c7] at H
                have c7b0 : (((rd_T38 l0 x5_1).f0).toList == ((rd_T38 l1 x5_1).f0).toList) = true := beq_iff_eq.mpr c7
                have c7b1 : (((rd_T38 l0 x5_1).f0).toList != ((rd_T38 l1 x5_1).f0).toList) = false := bne_eq_false_iff_eq.mpr c7
                clear c7
                by_cases c8 : (((rd_T38 l0 x5_1).f1) != ((rd_T38 l1 x5_1).f1)) = true
                · rw [if_pos c8] at H
                  have c8b0 : (((rd_T38 l0 x5_1).f1) != ((rd_T38 l1 x5_1).f1)) = true := c8
                  (try (have c8b1 : decide (((rd_T38 l0 x5_1).f1) = ((rd_T38 l1 x5_1).f1)) = false := by simpa using c8))
                  (try (have c8b2 : (((rd_T38 l0 x5_1).f1) == ((rd_T38 l1 x5_1).f1)) = false := by simpa using c8))
                  (try (have c8b3 : ¬ (((rd_T38 l0 x5_1).f1) = ((rd_T38 l1 x5_1).f1)) := by simpa using c8))
                  clear c8
                  obtain rfl := Option.some.inj H
                  have p608 : 0 ≤ (x5_1 : Int) := of_decide_eq_true (by first | (with_reducible assumption) | assumption)
                  have q608 : x5_1 < (l0.length : Int) := of_decide_eq_true (by first | (with_reducible assumption) | assumption)
                  obtain ⟨ad608, A608_2, c608_2, e608, hx608_0, hx608_1, hx608_2, hl608_2, hi608_2⟩ := at_T38 HR0.out x5_1 p608 q608
                  cases e608
                  have HR608_2 := Aside0.mk hi608_2
                  have HC608_2 := Aside0.mk hl608_2
                  clear hi608_2 hl608_2
                  replace p608 := eq_true p608
                  replace q608 := eq_true q608
                  have p609 : 0 ≤ (x5_1 : Int) := of_decide_eq_true (by first | (with_reducible assumption) | assumption)
                  have q609 : x5_1 < (l1.length : Int) := of_decide_eq_true (by first | (with_reducible assumption) | assumption)
                  obtain ⟨ad609, A609_2, c609_2, e609, hx609_0, hx609_1, hx609_2, hl609_2, hi609_2⟩ := at_T38 HR1.out x5_1 p609 q609
                  cases e609
                  have HR609_2 := Aside0.mk hi609_2
                  have HC609_2 := Aside0.mk hl609_2
                  clear hi609_2 hl609_2
                  replace p609 := eq_true p609
                  replace q609 := eq_true q609
                  have p610 : 0 ≤ (x5_1 : Int) := of_decide_eq_true (by first | (with_reducible assumption) | assumption)
                  have q610 : x5_1 < (l0.length : Int) := of_decide_eq_true (by first | (with_reducible assumption) | assumption)
                  obtain ⟨ad610, A610_2, c610_2, e610, hx610_0, hx610_1, hx610_2, hl610_2, hi610_2⟩ := at_T38 HR0.out x5_1 p610 q610
                  obtain rfl : ad608 = ad610 := (by injection e610)
                  have HR610_2 := Aside0.mk hi610_2
                  have HC610_2 := Aside0.mk hl610_2
                  clear hi610_2 hl610_2
                  replace p610 := eq_true p610
                  replace q610 := eq_true q610
                  have ea_ := Option.some.inj (hx608_2.symm.trans hx610_2)
                  injection ea_ with ea_ en_ ec_
                  subst ea_
                  subst ec_
                  clear en_
                  have p611 : 0 ≤ (x5_1 : Int) := of_decide_eq_true (by first | (with_reducible assumption) | assumption)
                  have q611 : x5_1 < (l1.length : Int) := of_decide_eq_true (by first | (with_reducible assumption) | assumption)
                  obtain ⟨ad611, A611_2, c611_2, e611, hx611_0, hx611_1, hx611_2, hl611_2, hi611_2⟩ := at_T38 HR1.out x5_1 p611 q611
                  obtain rfl : ad609 = ad611 := (by injection e611)
                  have HR611_2 := Aside0.mk hi611_2
                  have HC611_2 := Aside0.mk hl611_2
                  clear hi611_2 hl611_2
                  replace p611 := eq_true p611
                  replace q611 := eq_true q611
                  have ea_ := Option.some.inj (hx609_2.symm.trans hx611_2)
                  injection ea_ with ea_ en_ ec_
                  subst ea_
                  subst ec_
                  clear en_
                  go_wp2
                  repeat (go_quiet (fail); try go_wp2)
                  all_goals first | (go_ret; exact ⟨by first | rfl | (simp; done) | (simp [*]; done), by repeat (first | exact Drawn0.refl _ | apply Drawn0.step)⟩) | (exfalso; simp_all; done)
                · rw [if_neg c8] at H
                  have c8b0 : (((rd_T38 l0 x5_1).f1) != ((rd_T38 l1 x5_1).f1)) = false := by simpa using c8
                  (try (have c8b1 : decide (((rd_T38 l0 x5_1).f1) = ((rd_T38 l1 x5_1).f1)) = true := by simpa using c8))
                  (try (have c8b2 : (((rd_T38 l0 x5_1).f1) == ((rd_T38 l1 x5_1).f1)) = true := by simpa using c8))
                  clear c8
                  by_cases c9 : (strOfNums ((rd_T38 l0 x5_1).f2)).toList = (strOfNums ((rd_T38 l1 x5_1).f2)).toList
                  · rw [if_pos c9] at H
                    have c9b0 : ((strOfNums ((rd_T38 l0 x5_1).f2)).toList == (strOfNums ((rd_T38 l1 x5_1).f2)).toList) = true := beq_iff_eq.mpr c9
                    have c9b1 : ((strOfNums ((rd_T38 l0 x5_1).f2)).toList != (strOfNums ((rd_T38 l1 x5_1).f2)).toList) = false := bne_eq_false_iff_eq.mpr c9
                    clear c9
                    have H' := Aside0.mk H
                    clear H
                    have p608 : 0 ≤ (x5_1 : Int) := of_decide_eq_true (by first | (with_reducible assumption) | assumption)
                    have q608 : x5_1 < (l0.length : Int) := of_decide_eq_true (by first | (with_reducible assumption) | assumption)
                    obtain ⟨ad608, A608_2, c608_2, e608, hx608_0, hx608_1, hx608_2, hl608_2, hi608_2⟩ := at_T38 HR0.out x5_1 p608 q608
                    cases e608
                    have HR608_2 := Aside0.mk hi608_2
                    have HC608_2 := Aside0.mk hl608_2
                    clear hi608_2 hl608_2
                    replace p608 := eq_true p608
                    replace q608 := eq_true q608
                    have p609 : 0 ≤ (x5_1 : Int) := of_decide_eq_true (by first | (with_reducible assumption) | assumption)
                    have q609 : x5_1 < (l1.length : Int) := of_decide_eq_true (by first | (with_reducible assumption) | assumption)
                    obtain ⟨ad609, A609_2, c609_2, e609, hx609_0, hx609_1, hx609_2, hl609_2, hi609_2⟩ := at_T38 HR1.out x5_1 p609 q609
                    cases e609
                    have HR609_2 := Aside0.mk hi609_2
                    have HC609_2 := Aside0.mk hl609_2
                    clear hi609_2 hl609_2
                    replace p609 := eq_true p609
                    replace q609 := eq_true q609
                    have p610 : 0 ≤ (x5_1 : Int) := of_decide_eq_true (by first | (with_reducible assumption) | assumption)
                    have q610 : x5_1 < (l0.length : Int) := of_decide_eq_true (by first | (with_reducible assumption) | assumption)
                    obtain ⟨ad610, A610_2, c610_2, e610, hx610_0, hx610_1, hx610_2, hl610_2, hi610_2⟩ := at_T38 HR0.out x5_1 p610 q610
                    obtain rfl : ad608 = ad610 := (by injection e610)
                    have HR610_2 := Aside0.mk hi610_2
                    have HC610_2 := Aside0.mk hl610_2
                    clear hi610_2 hl610_2
                    replace p610 := eq_true p610
                    replace q610 := eq_true q610
                    have ea_ := Option.some.inj (hx608_2.symm.trans hx610_2)
                    injection ea_ with ea_ en_ ec_
                    subst ea_
                    subst ec_
                    clear en_
                    have p611 : 0 ≤ (x5_1 : Int) := of_decide_eq_true (by first | (with_reducible assumption) | assumption)
                    have q611 : x5_1 < (l1.length : Int) := of_decide_eq_true (by first | (with_reducible assumption) | assumption)
                    obtain ⟨ad611, A611_2, c611_2, e611, hx611_0, hx611_1, hx611_2, hl611_2, hi611_2⟩ := at_T38 HR1.out x5_1 p611 q611
                    obtain rfl : ad609 = ad611 := (by injection e611)
                    have HR611_2 := Aside0.mk hi611_2
                    have HC611_2 := Aside0.mk hl611_2
                    clear hi611_2 hl611_2
                    replace p611 := eq_true p611
                    replace q611 := eq_true q611
                    have ea_ := Option.some.inj (hx609_2.symm.trans hx611_2)
                    injection ea_ with ea_ en_ ec_
                    subst ea_
                    subst ec_
                    clear en_
                    have p612 : 0 ≤ (x5_1 : Int) := of_decide_eq_true (by first | (with_reducible assumption) | assumption)
                    have q612 : x5_1 < (l0.length : Int) := of_decide_eq_true (by first | (with_reducible assumption) | assumption)
                    obtain ⟨ad612, A612_2, c612_2, e612, hx612_0, hx612_1, hx612_2, hl612_2, hi612_2⟩ := at_T38 HR0.out x5_1 p612 q612
                    obtain rfl : ad608 = ad612 := (by injection e612)
                    have HR612_2 := Aside0.mk hi612_2
                    have HC612_2 := Aside0.mk hl612_2
                    clear hi612_2 hl612_2
                    replace p612 := eq_true p612
                    replace q612 := eq_true q612
                    have ea_ := Option.some.inj (hx608_2.symm.trans hx612_2)
                    injection ea_ with ea_ en_ ec_
                    subst ea_
                    subst ec_
                    clear en_
                    have hcv10 := Kd.C_string (P := Try.prog) (A := A608_2) (c := c608_2) Try.underlying26 Try.underlying5 Try.underlying9 HR612_2.out
                    have hcv11 := fun m_ : Nat => Kd.C_string (P := Try.prog) (A := A608_2) (c := c608_2) Try.underlying26 Try.underlying5 Try.underlying9 (Kd.C_drewN (HR612_2.out) m_)
                    have p613 : 0 ≤ (x5_1 : Int) := of_decide_eq_true (by first | (with_reducible assumption) | assumption)
                    have q613 : x5_1 < (l1.length : Int) := of_decide_eq_true (by first | (with_reducible assumption) | assumption)
                    obtain ⟨ad613, A613_2, c613_2, e613, hx613_0, hx613_1, hx613_2, hl613_2, hi613_2⟩ := at_T38 HR1.out x5_1 p613 q613
                    obtain rfl : ad609 = ad613 := (by injection e613)
                    have HR613_2 := Aside0.mk hi613_2
                    have HC613_2 := Aside0.mk hl613_2
                    clear hi613_2 hl613_2
                    replace p613 := eq_true p613
                    replace q613 := eq_true q613
                    have ea_ := Option.some.inj (hx609_2.symm.trans hx613_2)
                    injection ea_ with ea_ en_ ec_
                    subst ea_
                    subst ec_
                    clear en_
                    have hcv12 := Kd.C_string (P := Try.prog) (A := A609_2) (c := c609_2) Try.underlying26 Try.underlying5 Try.underlying9 HR613_2.out
                    have hcv13 := fun m_ : Nat => Kd.C_string (P := Try.prog) (A := A609_2) (c := c609_2) Try.underlying26 Try.underlying5 Try.underlying9 (Kd.C_drewN (HR613_2.out) m_)
                    go_wp2
                    repeat (go_quiet (fail); try go_wp2)
                    go_roundg k1
                    case measure => have := HK1.out; omega
                    case rel => exact ⟨(wrap64 (x5_1 + 1)), (by first | rfl | (simp; done) | (simp [*]; done)), H', ⟨by have := HK1.out; omega⟩, by repeat (first | exact Drawn0.refl _ | apply Drawn0.step)⟩
                  · rw [if_neg c9] at H
                    have c9b0 : ((strOfNums ((rd_T38 l0 x5_1).f2)).toList == (strOfNums ((rd_T38 l1 x5_1).f2)).toList) = false := beq_eq_false_iff_ne.mpr c9
                    have c9b1 : ((strOfNums ((rd_T38 l0 x5_1).f2)).toList != (strOfNums ((rd_T38 l1 x5_1).f2)).toList) = true := bne_iff_ne.mpr c9
                    obtain rfl := Option.some.inj H
                    have p608 : 0 ≤ (x5_1 : Int) := of_decide_eq_true (by first | (with_reducible assumption) | assumption)
                    have q608 : x5_1 < (l0.length : Int) := of_decide_eq_true (by first | (with_reducible assumption) | assumption)
                    obtain ⟨ad608, A608_2, c608_2, e608, hx608_0, hx608_1, hx608_2, hl608_2, hi608_2⟩ := at_T38 HR0.out x5_1 p608 q608
                    cases e608
                    have HR608_2 := Aside0.mk hi608_2
                    have HC608_2 := Aside0.mk hl608_2
                    clear hi608_2 hl608_2
                    replace p608 := eq_true p608
                    replace q608 := eq_true q608
                    have p609 : 0 ≤ (x5_1 : Int) := of_decide_eq_true (by first | (with_reducible assumption) | assumption)
                    have q609 : x5_1 < (l1.length : Int) := of_decide_eq_true (by first | (with_reducible assumption) | assumption)
                    obtain ⟨ad609, A609_2, c609_2, e609, hx609_0, hx609_1, hx609_2, hl609_2, hi609_2⟩ := at_T38 HR1.out x5_1 p609 q609
                    cases e609
                    have HR609_2 := Aside0.mk hi609_2
                    have HC609_2 := Aside0.mk hl609_2
                    clear hi609_2 hl609_2
                    replace p609 := eq_true p609
                    replace q609 := eq_true q609
                    have p610 : 0 ≤ (x5_1 : Int) := of_decide_eq_true (by first | (with_reducible assumption) | assumption)
                    have q610 : x5_1 < (l0.length : Int) := of_decide_eq_true (by first | (with_reducible assumption) | assumption)
                    obtain ⟨ad610, A610_2, c610_2, e610, hx610_0, hx610_1, hx610_2, hl610_2, hi610_2⟩ := at_T38 HR0.out x5_1 p610 q610
                    obtain rfl : ad608 = ad610 := (by injection e610)
                    have HR610_2 := Aside0.mk hi610_2
                    have HC610_2 := Aside0.mk hl610_2
                    clear hi610_2 hl610_2
                    replace p610 := eq_true p610
                    replace q610 := eq_true q610
                    have ea_ := Option.some.inj (hx608_2.symm.trans hx610_2)
                    injection ea_ with ea_ en_ ec_
                    subst ea_
                    subst ec_
                    clear en_
                    have p611 : 0 ≤ (x5_1 : Int) := of_decide_eq_true (by first | (with_reducible assumption) | assumption)
                    have q611 : x5_1 < (l1.length : Int) := of_decide_eq_true (by first | (with_reducible assumption) | assumption)
                    obtain ⟨ad611, A611_2, c611_2, e611, hx611_0, hx611_1, hx611_2, hl611_2, hi611_2⟩ := at_T38 HR1.out x5_1 p611 q611
                    obtain rfl : ad609 = ad611 := (by injection e611)
                    have HR611_2 := Aside0.mk hi611_2
                    have HC611_2 := Aside0.mk hl611_2
                    clear hi611_2 hl611_2
                    replace p611 := eq_true p611
                    replace q611 := eq_true q611
                    have ea_ := Option.some.inj (hx609_2.symm.trans hx611_2)
                    injection ea_ with ea_ en_ ec_
                    subst ea_
                    subst ec_
                    clear en_
                    have p612 : 0 ≤ (x5_1 : Int) := of_decide_eq_true (by first | (with_reducible assumption) | assumption)
                    have q612 : x5_1 < (l0.length : Int) := of_decide_eq_true (by first | (with_reducible assumption) | assumption)
                    obtain ⟨ad612, A612_2, c612_2, e612, hx612_0, hx612_1, hx612_2, hl612_2, hi612_2⟩ := at_T38 HR0.out x5_1 p612 q612
                    obtain rfl : ad608 = ad612 := (by injection e612)
                    have HR612_2 := Aside0.mk hi612_2
                    have HC612_2 := Aside0.mk hl612_2
                    clear hi612_2 hl612_2
                    replace p612 := eq_true p612
                    replace q612 := eq_true q612
                    have ea_ := Option.some.inj (hx608_2.symm.trans hx612_2)
                    injection ea_ with ea_ en_ ec_
                    subst ea_
                    subst ec_
                    clear en_
                    have hcv14 := Kd.C_string (P := Try.prog) (A := A608_2) (c := c608_2) Try.underlying26 Try.underlying5 Try.underlying9 HR612_2.out
                    have hcv15 := fun m_ : Nat => Kd.C_string (P := Try.prog) (A := A608_2) (c := c608_2) Try.underlying26 Try.underlying5 Try.underlying9 (Kd.C_drewN (HR612_2.out) m_)
                    have p613 : 0 ≤ (x5_1 : Int) := of_decide_eq_true (by first | (with_reducible assumption) | assumption)
                    have q613 : x5_1 < (l1.length : Int) := of_decide_eq_true (by first | (with_reducible assumption) | assumption)
                    obtain ⟨ad613, A613_2, c613_2, e613, hx613_0, hx613_1, hx613_2, hl613_2, hi613_2⟩ := at_T38 HR1.out x5_1 p613 q613
                    obtain rfl : ad609 = ad613 := (by injection e613)
                    have HR613_2 := Aside0.mk hi613_2
                    have HC613_2 := Aside0.mk hl613_2
                    clear hi613_2 hl613_2
                    replace p613 := eq_true p613
                    replace q613 := eq_true q613
                    have ea_ := Option.some.inj (hx609_2.symm.trans hx613_2)
                    injection ea_ with ea_ en_ ec_
                    subst ea_
                    subst ec_
                    clear en_
                    have hcv16 := Kd.C_string (P := Try.prog) (A := A609_2) (c := c609_2) Try.underlying26 Try.underlying5 Try.underlying9 HR613_2.out
                    have hcv17 := fun m_ : Nat => Kd.C_string (P := Try.prog) (A := A609_2) (c := c609_2) Try.underlying26 Try.underlying5 Try.underlying9 (Kd.C_drewN (HR613_2.out) m_)
                    go_wp2
                    repeat (go_quiet (fail); try go_wp2)
                    all_goals first | (go_ret; exact ⟨by first | rfl | (simp; done) | (simp [*]; done), by repeat (first | exact Drawn0.refl _ | apply Drawn0.step)⟩) | (exfalso; simp_all; done)
              · rw [if_neg c7] at H
                have c7b0 : (((rd_T38 l0 x5_1).f0).toList == ((rd_T38 l1 x5_1).f0).toList) = false := beq_eq_false_iff_ne.mpr c7
                have c7b1 : (((rd_T38 l0 x5_1).f0).toList != ((rd_T38 l1 x5_1).f0).toList) = true := bne_iff_ne.mpr c7
                obtain rfl := Option.some.inj H
                have p608 : 0 ≤ (x5_1 : Int) := of_decide_eq_true (by first | (with_reducible assumption) | assumption)
                have q608 : x5_1 < (l0.length : Int) := of_decide_eq_true (by first | (with_reducible assumption) | assumption)
                obtain ⟨ad608, A608_2, c608_2, e608, hx608_0, hx608_1, hx608_2, hl608_2, hi608_2⟩ := at_T38 HR0.out x5_1 p608 q608
                cases e608
                have HR608_2 := Aside0.mk hi608_2
                have HC608_2 := Aside0.mk hl608_2
                clear hi608_2 hl608_2
                replace p608 := eq_true p608
                replace q608 := eq_true q608
                have p609 : 0 ≤ (x5_1 : Int) := of_decide_eq_true (by first | (with_reducible assumption) | assumption)
                have q609 : x5_1 < (l1.length : Int) := of_decide_eq_true (by first | (with_reducible assumption) | assumption)
                obtain ⟨ad609, A609_2, c609_2, e609, hx609_0, hx609_1, hx609_2, hl609_2, hi609_2⟩ := at_T38 HR1.out x5_1 p609 q609
                cases e609
                have HR609_2 := Aside0.mk hi609_2
                have HC609_2 := Aside0.mk hl609_2
                clear hi609_2 hl609_2
                replace p609 := eq_true p609
                replace q609 := eq_true q609
                go_wp2
                repeat (go_quiet (fail); try go_wp2)
                all_goals first | (go_ret; exact ⟨by first | rfl | (simp; done) | (simp [*]; done), by repeat (first | exact Drawn0.refl _ | apply Drawn0.step)⟩) | (exfalso; simp_all; done)
            · rw [if_neg c6] at H
              exact absurd H (by simp)
          · rw [if_neg c5] at H
            exact absurd H (by simp)
        · rw [if_neg c4] at H
          have c4b0 : decide (x5_1 < (l0.length : Int)) = false := decide_eq_false c4
          clear c4
          obtain rfl := Option.some.inj H
          go_wp2
          repeat (go_quiet (fail); try go_wp2)
          all_goals first | (go_ret; exact ⟨by first | rfl | (simp; done) | (simp [*]; done), by repeat (first | exact Drawn0.refl _ | apply Drawn0.step)⟩) | (exfalso; simp_all; done)
  · rw [if_neg c3] at H
    have c3b0 : ((l0.length : Int) == (l1.length : Int)) = false := beq_eq_false_iff_ne.mpr c3
    have c3b1 : ((l0.length : Int) != (l1.length : Int)) = true := bne_iff_ne.mpr c3
    have c3b2 : (l0.length == l1.length) = false := by first | simpa using c3 | (simp at c3 ⊢; omega)
    obtain rfl := Option.some.inj H
    go_enter Try.func28, Try.ntmps28
    go_wp2
    repeat (go_quiet (fail); try go_wp2)
    all_goals first | (go_ret; exact ⟨by first | rfl | (simp; done) | (simp [*]; done), by repeat (first | exact Drawn0.refl _ | apply Drawn0.step)⟩) | (exfalso; simp_all; done)

end Go.Proofs.Ytpjkaodbcclecaa.PA
