/- What functions of the given program come to, and that they do: written out of the translation by a program of this session; Lean checks it. -/
import Derived.Test.YtpjkaodbcclecaaPAx0
namespace Go.Proofs.Ytpjkaodbcclecaa.PA
open Go.RowKit Go.Proofs.YtpjkaodbcclecaaW.PrintWords Go.Proofs.YtpjkaodbcclecaaW.PrintLast Go.Proofs.YtpjkaodbcclecaaW.PrintMore
attribute [local go_sem] max2_int min2_int max_two min_two max_three min_three max_four min_four   -- for this text's walks alone
set_option linter.unusedVariables false
set_option linter.unusedSimpArgs false

/-! ### waybilllaw13_Small: function 22 -/
def waybilllaw13_Small.l0 : Nat → List (S38) → Int → Option (Bool)
  | 0, _, _ => none
  | k + 1, x0, x3 => if x3 < (x0.length : Int) then (if 0 ≤ x3 then (if (((rd_T38 x0 x3).f0).size : Int) > 400 then (some false) else (if (((rd_T38 x0 x3).f2).length : Int) > 11100 then (some false) else (waybilllaw13_Small.l0 k x0 (wrap64 (x3 + 1))))) else (none)) else (some true)
def waybilllaw13_Small.f (k : Nat) (l0 : List (S38)) : Option (Bool) := if (l0.length : Int) > 60 then (some false) else (waybilllaw13_Small.l0 k l0 0)
theorem waybilllaw13_Small.mono_l : ∀ k, (∀ y0 y1, LeO (waybilllaw13_Small.l0 k y0 y1) (waybilllaw13_Small.l0 (k + 1) y0 y1))
  | 0 => fun _ _ r h => by simp [waybilllaw13_Small.l0] at h
  | k + 1 => by
    have ih0 := waybilllaw13_Small.mono_l k
    · intro y0 y1
      unfold waybilllaw13_Small.l0
      repeat' first
      | (with_reducible exact ih0 _ _)
      | (with_reducible exact LeO.refl _)
      | (with_reducible exact LeO.none _)
      | (with_reducible refine LeO.ite ?_ ?_)
      | (with_reducible refine LeO.bind ?_ (fun _ => ?_))
      | exact ih0 _ _
      | exact LeO.none _
      | refine LeO.ite ?_ ?_
      | refine LeO.bind ?_ (fun _ => ?_)
theorem waybilllaw13_Small.mono : ∀ a0 k, LeO (waybilllaw13_Small.f k a0) (waybilllaw13_Small.f (k + 1) a0) := by
  intro a0 k
  have ih0 := waybilllaw13_Small.mono_l k
  unfold waybilllaw13_Small.f
  repeat' first
      | (with_reducible exact ih0 _ _)
      | (with_reducible exact LeO.refl _)
      | (with_reducible exact LeO.none _)
      | (with_reducible refine LeO.ite ?_ ?_)
      | (with_reducible refine LeO.bind ?_ (fun _ => ?_))
      | exact ih0 _ _
      | exact LeO.none _
      | refine LeO.ite ?_ ?_
      | refine LeO.bind ?_ (fun _ => ?_)
set_option maxHeartbeats 8000000 in
set_option maxRecDepth 100000 in
theorem waybilllaw13_Small.calls (k : Nat) (A0 : Option Addr) (c0 : Nat) (l0 : List (S38)) (r : Bool) (w : World) (hr0 : Kd.C k38 w A0 l0.length l0) (hc0 : l0.length ≤ c0) (h : waybilllaw13_Small.f k l0 = some r) :
    Calls Try.prog 22 #[.slice A0 l0.length c0] w fun e w' => e = .returned (.bool r) ∧ Drawn0 w w' := by
  have HR0 := Aside0.mk hr0
  have HC0 := Aside0.mk hc0
  clear hr0 hc0
  have H : (if (l0.length : Int) > 60 then (some false) else (waybilllaw13_Small.l0 k l0 0)) = some r := h
  clear h
  by_cases c2 : (l0.length : Int) > 60
  · rw [if_pos c2] at H
    have c2b0 : decide (60 < (l0.length : Int)) = true := decide_eq_true c2
    have c2b1 : decide (60 < l0.length) = true := decide_eq_true (by omega)
    clear c2
    obtain rfl := Option.some.inj H
    go_enter Try.func22, Try.ntmps22
    go_wp2
    all_goals first | (go_ret; exact ⟨by first | rfl | (simp; done) | (simp [*]; done), by repeat (first | exact Drawn0.refl _ | apply Drawn0.step)⟩) | (exfalso; simp_all; done)
  · rw [if_neg c2] at H
    have c2b0 : decide (60 < (l0.length : Int)) = false := decide_eq_false c2
    have c2b1 : decide (60 < l0.length) = false := decide_eq_false (by omega)
    clear c2
    have H' := Aside0.mk H
    clear H
    go_enter Try.func22, Try.ntmps22
    go_wp2
    go_loopg [3] k (fun kq v3 w' => ∃ (x3_1 : Int), v3 = .int .i64 x3_1 ∧ Aside0 (waybilllaw13_Small.l0 kq l0 x3_1 = some r) ∧ Aside0 (kq ≤ k) ∧ Drawn0 w w')
    case atStart => exact ⟨(0), (by first | rfl | (simp; done) | (simp [*]; done)), H', ⟨Nat.le_refl _⟩, by repeat (first | exact Drawn0.refl _ | apply Drawn0.step)⟩
    case round =>
      clear H'
      try clear c2
      try clear c2b0
      try clear c2b1
      try clear p2
      obtain ⟨x3_1, rfl, HA, HK1, ⟨m1, rfl⟩⟩ := hrel
      cases gk with
      | zero => exact absurd HA.out (by simp [waybilllaw13_Small.l0])
      | succ k1 =>
        have H := HA.out
        clear HA
        simp only [waybilllaw13_Small.l0] at H
        by_cases c3 : x3_1 < (l0.length : Int)
        · rw [if_pos c3] at H
          have c3b0 : decide (x3_1 < (l0.length : Int)) = true := decide_eq_true c3
          clear c3
          by_cases c4 : 0 ≤ x3_1
          · rw [if_pos c4] at H
            have c4b0 : decide (0 ≤ x3_1) = true := decide_eq_true c4
            clear c4
            by_cases c5 : (((rd_T38 l0 x3_1).f0).size : Int) > 400
            · rw [if_pos c5] at H
              have c5b0 : decide (400 < (((rd_T38 l0 x3_1).f0).size : Int)) = true := decide_eq_true c5
              have c5b1 : decide (400 < ((rd_T38 l0 x3_1).f0).size) = true := decide_eq_true (by omega)
              clear c5
              obtain rfl := Option.some.inj H
              have p687 : 0 ≤ (x3_1 : Int) := of_decide_eq_true (by first | (with_reducible assumption) | assumption)
              have q687 : x3_1 < (l0.length : Int) := of_decide_eq_true (by first | (with_reducible assumption) | assumption)
              obtain ⟨ad687, A687_2, c687_2, e687, hx687_0, hx687_1, hx687_2, hl687_2, hi687_2⟩ := at_T38 HR0.out x3_1 p687 q687
              cases e687
              have HR687_2 := Aside0.mk hi687_2
              have HC687_2 := Aside0.mk hl687_2
              clear hi687_2 hl687_2
              replace p687 := eq_true p687
              replace q687 := eq_true q687
              go_wp2
              all_goals first | (go_ret; exact ⟨by first | rfl | (simp; done) | (simp [*]; done), by repeat (first | exact Drawn0.refl _ | apply Drawn0.step)⟩) | (exfalso; simp_all; done)
            · rw [if_neg c5] at H
              have c5b0 : decide (400 < (((rd_T38 l0 x3_1).f0).size : Int)) = false := decide_eq_false c5
              have c5b1 : decide (400 < ((rd_T38 l0 x3_1).f0).size) = false := decide_eq_false (by omega)
              clear c5
              by_cases c6 : (((rd_T38 l0 x3_1).f2).length : Int) > 11100
              · rw [if_pos c6] at H
                have c6b0 : decide (11100 < (((rd_T38 l0 x3_1).f2).length : Int)) = true := decide_eq_true c6
                have c6b1 : decide (11100 < ((rd_T38 l0 x3_1).f2).length) = true := decide_eq_true (by omega)
                clear c6
                obtain rfl := Option.some.inj H
                have p687 : 0 ≤ (x3_1 : Int) := of_decide_eq_true (by first | (with_reducible assumption) | assumption)
                have q687 : x3_1 < (l0.length : Int) := of_decide_eq_true (by first | (with_reducible assumption) | assumption)
                obtain ⟨ad687, A687_2, c687_2, e687, hx687_0, hx687_1, hx687_2, hl687_2, hi687_2⟩ := at_T38 HR0.out x3_1 p687 q687
                cases e687
                have HR687_2 := Aside0.mk hi687_2
                have HC687_2 := Aside0.mk hl687_2
                clear hi687_2 hl687_2
                replace p687 := eq_true p687
                replace q687 := eq_true q687
                have p688 : 0 ≤ (x3_1 : Int) := of_decide_eq_true (by first | (with_reducible assumption) | assumption)
                have q688 : x3_1 < (l0.length : Int) := of_decide_eq_true (by first | (with_reducible assumption) | assumption)
                obtain ⟨ad688, A688_2, c688_2, e688, hx688_0, hx688_1, hx688_2, hl688_2, hi688_2⟩ := at_T38 HR0.out x3_1 p688 q688
                obtain rfl : ad687 = ad688 := (by injection e688)
                have HR688_2 := Aside0.mk hi688_2
                have HC688_2 := Aside0.mk hl688_2
                clear hi688_2 hl688_2
                replace p688 := eq_true p688
                replace q688 := eq_true q688
                have ea_ := Option.some.inj (hx687_2.symm.trans hx688_2)
                injection ea_ with ea_ en_ ec_
                subst ea_
                subst ec_
                clear en_
                go_wp2
                all_goals first | (go_ret; exact ⟨by first | rfl | (simp; done) | (simp [*]; done), by repeat (first | exact Drawn0.refl _ | apply Drawn0.step)⟩) | (exfalso; simp_all; done)
              · rw [if_neg c6] at H
                have c6b0 : decide (11100 < (((rd_T38 l0 x3_1).f2).length : Int)) = false := decide_eq_false c6
                have c6b1 : decide (11100 < ((rd_T38 l0 x3_1).f2).length) = false := decide_eq_false (by omega)
                clear c6
                have H' := Aside0.mk H
                clear H
                have p687 : 0 ≤ (x3_1 : Int) := of_decide_eq_true (by first | (with_reducible assumption) | assumption)
                have q687 : x3_1 < (l0.length : Int) := of_decide_eq_true (by first | (with_reducible assumption) | assumption)
                obtain ⟨ad687, A687_2, c687_2, e687, hx687_0, hx687_1, hx687_2, hl687_2, hi687_2⟩ := at_T38 HR0.out x3_1 p687 q687
                cases e687
                have HR687_2 := Aside0.mk hi687_2
                have HC687_2 := Aside0.mk hl687_2
                clear hi687_2 hl687_2
                replace p687 := eq_true p687
                replace q687 := eq_true q687
                have p688 : 0 ≤ (x3_1 : Int) := of_decide_eq_true (by first | (with_reducible assumption) | assumption)
                have q688 : x3_1 < (l0.length : Int) := of_decide_eq_true (by first | (with_reducible assumption) | assumption)
                obtain ⟨ad688, A688_2, c688_2, e688, hx688_0, hx688_1, hx688_2, hl688_2, hi688_2⟩ := at_T38 HR0.out x3_1 p688 q688
                obtain rfl : ad687 = ad688 := (by injection e688)
                have HR688_2 := Aside0.mk hi688_2
                have HC688_2 := Aside0.mk hl688_2
                clear hi688_2 hl688_2
                replace p688 := eq_true p688
                replace q688 := eq_true q688
                have ea_ := Option.some.inj (hx687_2.symm.trans hx688_2)
                injection ea_ with ea_ en_ ec_
                subst ea_
                subst ec_
                clear en_
                go_wp2
                go_roundg k1
                case measure => have := HK1.out; omega
                case rel => exact ⟨(wrap64 (x3_1 + 1)), (by first | rfl | (simp; done) | (simp [*]; done)), H', ⟨by have := HK1.out; omega⟩, by repeat (first | exact Drawn0.refl _ | apply Drawn0.step)⟩
          · rw [if_neg c4] at H
            exact absurd H (by simp)
        · rw [if_neg c3] at H
          have c3b0 : decide (x3_1 < (l0.length : Int)) = false := decide_eq_false c3
          clear c3
          obtain rfl := Option.some.inj H
          go_wp2
          all_goals first | (go_ret; exact ⟨by first | rfl | (simp; done) | (simp [*]; done), by repeat (first | exact Drawn0.refl _ | apply Drawn0.step)⟩) | (exfalso; simp_all; done)

end Go.Proofs.Ytpjkaodbcclecaa.PA
