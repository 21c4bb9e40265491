/- What functions of the given program come to, and that they do: written out of the translation by a program of this session; Lean checks it. -/
import Derived.Test.YtlhcjgmdcnmnnaaPAx0
import Derived.Test.YtlhcjgmdcnmnnaaPAx10
import Derived.Test.YtlhcjgmdcnmnnaaPAx11
namespace Go.Proofs.Ytlhcjgmdcnmnnaa.PA
open Go.RowKit Go.Proofs.YtlhcjgmdcnmnnaaW.PrintWords Go.Proofs.YtlhcjgmdcnmnnaaW.PrintLast Go.Proofs.YtlhcjgmdcnmnnaaW.PrintMore
attribute [local go_sem] max2_int min2_int max_two min_two max_three min_three max_four min_four   -- for this text's walks alone
set_option linter.unusedVariables false
set_option linter.unusedSimpArgs false

/-! ### waybilllaw3_FramRows: function 10 -/
mutual
def waybilllaw3_FramRows.l0 : Nat → List (S68) → List Int → List (S68) → Int → Option (Bool)
  | 0, _, _, _, _ => none
  | k + 1, x0, x3, x4, x5 => if x5 < (x0.length : Int) then (waybilllaw3_FramRows.j1 k x0 x3 x4 x5 (decide (x5 < 8))) else (waybilllaw3_FramRows.j1 k x0 x3 x4 x5 false)
def waybilllaw3_FramRows.j1 : Nat → List (S68) → List Int → List (S68) → Int → Bool → Option (Bool)
  | 0, _, _, _, _, _ => none
  | k + 1, x0, x3, x4, x5, x19 => if x19 = true then (if 0 ≤ x5 then (if x5 < (x0.length : Int) then (if (((rd_T68 x0 x5).f2).length : Int) > 4200 then ((waybilllaw3_awake.f k).bind fun t500 => (some t500)) else ((fram_Append.f k x3 ((rd_T68 x0 x5).f0) ((rd_T68 x0 x5).f1) ((rd_T68 x0 x5).f2)).bind fun bt502 => (if (bt502.2 != (decide ((bt502.1.length : Int) > (x3.length : Int)))) = true then (none) else (if bt502.2 = true then (if x4.length < 3518437208883 then (waybilllaw3_FramRows.l0 k x0 bt502.1 (x4 ++ [(⟨(rd_T68 x0 x5).f0, (rd_T68 x0 x5).f1, (rd_T68 x0 x5).f2⟩ : S68)]) (wrap64 (x5 + 1))) else (none)) else (waybilllaw3_FramRows.l0 k x0 bt502.1 x4 (wrap64 (x5 + 1))))))) else (none)) else (none)) else (waybilllaw3_FramRows.l1 k x3 x4 0)
def waybilllaw3_FramRows.l1 : Nat → List Int → List (S68) → Int → Option (Bool)
  | 0, _, _, _ => none
  | k + 1, x3, x4, x8 => if x8 < (x4.length : Int) then ((fram_Parse.f k x3).bind fun bt511 => (if bt511.2.2.2.2 = 0 then (if 0 ≤ x8 then (if bt511.2.2.2.1 = (wrap64 (8 + (((rd_T68 x4 x8).f2).length : Int))) then (if bt511.2.2.2.1 > (x3.length : Int) then (none) else ((waybilllaw3_Same.f bt511.1 bt511.2.1 bt511.2.2.1 ((rd_T68 x4 x8).f0) ((rd_T68 x4 x8).f1) ((rd_T68 x4 x8).f2)).bind fun t521 => (if t521 = true then (if 0 ≤ bt511.2.2.2.1 then (if bt511.2.2.2.1 ≤ (x3.length : Int) then (waybilllaw3_FramRows.l1 k (x3.drop (bt511.2.2.2.1 : Int).toNat) x4 (wrap64 (x8 + 1))) else (none)) else (none)) else (none)))) else (none)) else (none)) else (none))) else (if (x3.length : Int) = 0 then ((waybilllaw3_awake.f k).bind fun t510 => (some t510)) else (none))
end
def waybilllaw3_FramRows.f (k : Nat) (l0 : List (S68)) : Option (Bool) := waybilllaw3_FramRows.l0 k l0 ([] : List Int) ([] : List (S68)) 0
theorem waybilllaw3_FramRows.mono_l : ∀ k, (∀ y0 y1 y2 y3, LeO (waybilllaw3_FramRows.l0 k y0 y1 y2 y3) (waybilllaw3_FramRows.l0 (k + 1) y0 y1 y2 y3)) ∧ (∀ y0 y1 y2 y3 y4, LeO (waybilllaw3_FramRows.j1 k y0 y1 y2 y3 y4) (waybilllaw3_FramRows.j1 (k + 1) y0 y1 y2 y3 y4)) ∧ (∀ y0 y1 y2, LeO (waybilllaw3_FramRows.l1 k y0 y1 y2) (waybilllaw3_FramRows.l1 (k + 1) y0 y1 y2))
  | 0 => ⟨fun _ _ _ _ r h => by simp [waybilllaw3_FramRows.l0] at h, fun _ _ _ _ _ r h => by simp [waybilllaw3_FramRows.j1] at h, fun _ _ _ r h => by simp [waybilllaw3_FramRows.l1] at h⟩
  | k + 1 => by
    obtain ⟨ih0, ih1, ih2⟩ := waybilllaw3_FramRows.mono_l k
    refine ⟨?_, ?_, ?_⟩
    · intro y0 y1 y2 y3
      unfold waybilllaw3_FramRows.l0
      repeat' first
      | (with_reducible exact ih0 _ _ _ _)
      | (with_reducible exact ih1 _ _ _ _ _)
      | (with_reducible exact ih2 _ _ _)
      | (with_reducible exact fram_Append.mono _ _ _ _ _)
      | (with_reducible exact fram_Parse.mono _ _)
      | (with_reducible exact waybilllaw3_awake.mono _)
      | (with_reducible exact LeO.refl _)
      | (with_reducible exact LeO.none _)
      | (with_reducible refine LeO.ite ?_ ?_)
      | (with_reducible refine LeO.bind ?_ (fun _ => ?_))
      | exact ih0 _ _ _ _
      | exact ih1 _ _ _ _ _
      | exact ih2 _ _ _
      | exact fram_Append.mono _ _ _ _ _
      | exact fram_Parse.mono _ _
      | exact waybilllaw3_awake.mono _
      | exact LeO.none _
      | refine LeO.ite ?_ ?_
      | refine LeO.bind ?_ (fun _ => ?_)
    · intro y0 y1 y2 y3 y4
      unfold waybilllaw3_FramRows.j1
      repeat' first
      | (with_reducible exact ih0 _ _ _ _)
      | (with_reducible exact ih1 _ _ _ _ _)
      | (with_reducible exact ih2 _ _ _)
      | (with_reducible exact fram_Append.mono _ _ _ _ _)
      | (with_reducible exact fram_Parse.mono _ _)
      | (with_reducible exact waybilllaw3_awake.mono _)
      | (with_reducible exact LeO.refl _)
      | (with_reducible exact LeO.none _)
      | (with_reducible refine LeO.ite ?_ ?_)
      | (with_reducible refine LeO.bind ?_ (fun _ => ?_))
      | exact ih0 _ _ _ _
      | exact ih1 _ _ _ _ _
      | exact ih2 _ _ _
      | exact fram_Append.mono _ _ _ _ _
      | exact fram_Parse.mono _ _
      | exact waybilllaw3_awake.mono _
      | exact LeO.none _
      | refine LeO.ite ?_ ?_
      | refine LeO.bind ?_ (fun _ => ?_)
    · intro y0 y1 y2
      unfold waybilllaw3_FramRows.l1
      repeat' first
      | (with_reducible exact ih0 _ _ _ _)
      | (with_reducible exact ih1 _ _ _ _ _)
      | (with_reducible exact ih2 _ _ _)
      | (with_reducible exact fram_Append.mono _ _ _ _ _)
      | (with_reducible exact fram_Parse.mono _ _)
      | (with_reducible exact waybilllaw3_awake.mono _)
      | (with_reducible exact LeO.refl _)
      | (with_reducible exact LeO.none _)
      | (with_reducible refine LeO.ite ?_ ?_)
      | (with_reducible refine LeO.bind ?_ (fun _ => ?_))
      | exact ih0 _ _ _ _
      | exact ih1 _ _ _ _ _
      | exact ih2 _ _ _
      | exact fram_Append.mono _ _ _ _ _
      | exact fram_Parse.mono _ _
      | exact waybilllaw3_awake.mono _
      | exact LeO.none _
      | refine LeO.ite ?_ ?_
      | refine LeO.bind ?_ (fun _ => ?_)
theorem waybilllaw3_FramRows.mono : ∀ a0 k, LeO (waybilllaw3_FramRows.f k a0) (waybilllaw3_FramRows.f (k + 1) a0) := by
  intro a0 k
  obtain ⟨ih0, ih1, ih2⟩ := waybilllaw3_FramRows.mono_l k
  unfold waybilllaw3_FramRows.f
  repeat' first
      | (with_reducible exact ih0 _ _ _ _)
      | (with_reducible exact ih1 _ _ _ _ _)
      | (with_reducible exact ih2 _ _ _)
      | (with_reducible exact fram_Append.mono _ _ _ _ _)
      | (with_reducible exact fram_Parse.mono _ _)
      | (with_reducible exact waybilllaw3_awake.mono _)
      | (with_reducible exact LeO.refl _)
      | (with_reducible exact LeO.none _)
      | (with_reducible refine LeO.ite ?_ ?_)
      | (with_reducible refine LeO.bind ?_ (fun _ => ?_))
      | exact ih0 _ _ _ _
      | exact ih1 _ _ _ _ _
      | exact ih2 _ _ _
      | exact fram_Append.mono _ _ _ _ _
      | exact fram_Parse.mono _ _
      | exact waybilllaw3_awake.mono _
      | exact LeO.none _
      | refine LeO.ite ?_ ?_
      | refine LeO.bind ?_ (fun _ => ?_)
def waybilllaw3_FramRows.T18 : Bool × List (List Nat × List Nat) := (true, [([], []), ([0], [0]), ([1], [1]), ([2], [2]), ([2], [2]), ([2], [2]), ([4, 5, 2], [2, 4, 5]), ([6, 2], [2, 6]), ([7, 2], [2, 7]), ([8, 2], [2, 8]), ([9, 2], [2, 9]), ([3, 10, 2], [2, 3, 10]), ([2, 11], [2, 11]), ([12, 2], [12]), ([13], [13]), ([13], [13]), ([15, 13], [13, 15]), ([14, 16, 13], [13, 14, 16]), ([13, 17], [13, 17]), ([18, 13], [18]), ([19], [19]), ([19], [19]), ([19], [19]), ([21, 22, 19], [19, 21, 22]), ([23, 19], [19, 23]), ([20, 24, 19, 19], [19, 20, 24]), ([25, 19], [19, 25]), ([19, 26], [19, 26])])
def waybilllaw3_FramRows.B18 : List Nat := [0, 1, 3, 7, 7, 7, 55, 119, 247, 503, 1015, 2047, 4095, 8191, 16383, 16383, 49151, 131071, 262143, 524287, 1048575, 1048575, 1048575, 7340031, 15728639, 33554431, 67108863, 134217727]
theorem waybilllaw3_FramRows.tab18 : rtab .any (opsOf Try.f10 18) = waybilllaw3_FramRows.T18 := by kernel_rfl
theorem waybilllaw3_FramRows.bits18 : waitsOk waybilllaw3_FramRows.T18.2 waybilllaw3_FramRows.B18 = true := by kernel_rfl
set_option maxHeartbeats 8000000 in
set_option maxRecDepth 100000 in
theorem waybilllaw3_FramRows.calls (k : Nat) (P0_ : Nat → Prop) (A0 : Option Addr) (c0 : Nat) (l0 : List (S68)) (r : Bool) (w : World) (hs0 : Kd.V k68 68 w w.heap.size (fun k_ => P0_ k_) (.slice A0 l0.length c0) l0) (h : waybilllaw3_FramRows.f k l0 = some r) :
    Calls Try.prog 10 #[.slice A0 l0.length c0] w fun e w' => e = .returned (.bool r) ∧ Below w.heap.size w w' := by
  have hu68 := Try.underlying68
  have HO0 := Aside0.mk (show Kd.V k68 68 w w.heap.size (fun k_ => (P0_ k_ ∨ w.heap.size ≤ k_)) (.slice A0 l0.length c0) l0 from Kd.V_mono hs0 (fun k_ hk => .inl hk))
  have HB := Aside0.mk (Below.refl w.heap.size w)
  have H : (waybilllaw3_FramRows.l0 k l0 ([] : List Int) ([] : List (S68)) 0) = some r := h
  clear h
  have H' := Aside0.mk H
  clear H
  go_enter Try.func10, Try.ntmps10
  go_wp2
  go_loopg [3, 4, 5] k (fun kq v3 v4 v5 w' => ∃ (x3_1 : List Int) (x4_1 : List (S68)) (x5_1 : Int), v5 = .int .i64 x5_1 ∧ Aside0 (waybilllaw3_FramRows.l0 kq l0 x3_1 x4_1 x5_1 = some r) ∧ Aside0 (kq ≤ k) ∧ Aside0 (Kd.V k68 68 w' w.heap.size (fun k_ => (P0_ k_ ∨ w.heap.size ≤ k_) ∧ some k_ ≠ (v3 : Value).ownBlock ∧ some k_ ≠ (v4 : Value).ownBlock) (.slice A0 l0.length c0) l0) ∧ Aside0 (Kd.Q (Kd.int .u8) 5 w' w.heap.size (fun k_ => (w.heap.size ≤ k_)) v3 x3_1) ∧ Aside0 (Kd.N k68 68 w' w.heap.size (fun k_ => (P0_ k_ ∨ w.heap.size ≤ k_) ∧ some k_ ≠ (v3 : Value).ownBlock) v4 x4_1) ∧ Aside0 (Below w.heap.size w w'))
  case atStart => exact ⟨(([] : List Int)), (([] : List (S68))), (0), (by first | rfl | (simp; done) | (simp [*]; done)), H', ⟨Nat.le_refl _⟩, ⟨by (with_reducible repeat (first | apply Kd.V_alloc | apply Kd.V_drewN | apply Kd.V_drew)); exact Kd.V_mono HO0.out (fun _ hk => ⟨hk, ⟨(by simp [Value.ownBlock]), (by simp [Value.ownBlock])⟩⟩)⟩, ⟨Kd.Q_of_R (by first | exact Kd.R_nil _ _ _ _ _ | exact Kd.N_nil _ _ _ _ _ | exact Kd.V_nil _ _ _ _ _ | exact Kd.Q_nil _ _ _ _ _ | exact Kd.S_nil _ _ _ _ _)⟩, ⟨by first | exact Kd.S_nil _ _ _ _ _ | exact Kd.N_nil _ _ _ _ _ | exact Kd.V_nil _ _ _ _ _ | exact Kd.Q_nil _ _ _ _ _ | exact Kd.R_nil _ _ _ _ _⟩, ⟨by repeat (first | (with_reducible first | exact HB.out | apply below_alloc | apply pw_below_drewN | apply below_drew1) | exact HB.out)⟩⟩
  case round =>
    clear H'
    try clear c1
    obtain ⟨x3_1, x4_1, x5_1, rfl, HA, HK1, HO_0, HO_3, HO_4, HB⟩ := hrel
    cases gk with
    | zero => exact absurd HA.out (by simp [waybilllaw3_FramRows.l0])
    | succ k1 =>
      have H := HA.out
      clear HA
      simp only [waybilllaw3_FramRows.l0] at H
      have HC2 := Aside0.mk H
      clear H
      go_upto_region 4 with (fail)
      go_cut [19] (fun v19 wc => ∃ (kq : Nat) (x19_1 : Bool), v19 = .bool x19_1 ∧ Aside0 (waybilllaw3_FramRows.j1 kq l0 x3_1 x4_1 x5_1 x19_1 = some r) ∧ Aside0 (kq ≤ k1) ∧ Aside0 (Kd.V k68 68 wc w.heap.size (fun k_ => (P0_ k_ ∨ w.heap.size ≤ k_) ∧ some k_ ≠ (u3 : Value).ownBlock ∧ some k_ ≠ (u4 : Value).ownBlock) (.slice A0 l0.length c0) l0) ∧ Aside0 (Kd.Q (Kd.int .u8) 5 wc w.heap.size (fun k_ => (w.heap.size ≤ k_)) u3 x3_1) ∧ Aside0 (Kd.N k68 68 wc w.heap.size (fun k_ => (P0_ k_ ∨ w.heap.size ≤ k_) ∧ some k_ ≠ (u3 : Value).ownBlock) u4 x4_1) ∧ Aside0 (Below w.heap.size w wc))
      case first =>
        have H := HC2.out
        clear HC2
        by_cases c3 : x5_1 < (l0.length : Int)
        · rw [if_pos c3] at H
          have c3b0 : decide (x5_1 < (l0.length : Int)) = true := decide_eq_true c3
          clear c3
          (first | rw [c3b0] | rw [c3b2] | (simp only [i64_w, i32_w]; rw [c3b0]) | skip)
          have H' := Aside0.mk H
          clear H
          go_wp2
          go_meet
          case rel => exact ⟨_, (decide (x5_1 < 8)), (by first | rfl | (simp; done) | (simp [*]; done)), H', ⟨by have := HK1.out; first | omega | exact Nat.le_refl _⟩, ⟨by (with_reducible repeat (first | apply Kd.V_alloc | apply Kd.V_drewN | apply Kd.V_drew)); exact HO_0.out⟩, ⟨by (with_reducible repeat (first | apply Kd.Q_alloc | apply Kd.Q_drewN | apply Kd.Q_drew)); exact HO_3.out⟩, ⟨by (with_reducible repeat (first | apply Kd.N_alloc | apply Kd.N_drewN | apply Kd.N_drew)); exact HO_4.out⟩, ⟨by repeat (first | (with_reducible first | exact HB.out | apply below_alloc | apply pw_below_drewN | apply below_drew1) | exact HB.out)⟩⟩
        · rw [if_neg c3] at H
          have c3b0 : decide (x5_1 < (l0.length : Int)) = false := decide_eq_false c3
          clear c3
          (first | rw [c3b0] | rw [c3b2] | (simp only [i64_w, i32_w]; rw [c3b0]) | skip)
          have H' := Aside0.mk H
          clear H
          go_wp2
          go_meet
          case rel => exact ⟨_, (false), (by first | rfl | (simp; done) | (simp [*]; done)), H', ⟨by have := HK1.out; first | omega | exact Nat.le_refl _⟩, ⟨by (with_reducible repeat (first | apply Kd.V_alloc | apply Kd.V_drewN | apply Kd.V_drew)); exact HO_0.out⟩, ⟨by (with_reducible repeat (first | apply Kd.Q_alloc | apply Kd.Q_drewN | apply Kd.Q_drew)); exact HO_3.out⟩, ⟨by (with_reducible repeat (first | apply Kd.N_alloc | apply Kd.N_drewN | apply Kd.N_drew)); exact HO_4.out⟩, ⟨by repeat (first | (with_reducible first | exact HB.out | apply below_alloc | apply pw_below_drewN | apply below_drew1) | exact HB.out)⟩⟩
      case rest =>
        clear HC2
        try clear c1
        try clear p2
        try clear c3
        try clear c3b0
        obtain ⟨kq, x19_1, rfl, HA, HJ1, HO_0, HO_3, HO_4, HB⟩ := hcut
        cases kq with
        | zero => exact absurd HA.out (by simp [waybilllaw3_FramRows.j1])
        | succ kj1 =>
          have H := HA.out
          clear HA
          simp only [waybilllaw3_FramRows.j1] at H
          by_cases c4 : x19_1 = true
          · subst c4
            have H1 : (if 0 ≤ x5_1 then (if x5_1 < (l0.length : Int) then (if (((rd_T68 l0 x5_1).f2).length : Int) > 4200 then ((waybilllaw3_awake.f kj1).bind fun t500 => (some t500)) else ((fram_Append.f kj1 x3_1 ((rd_T68 l0 x5_1).f0) ((rd_T68 l0 x5_1).f1) ((rd_T68 l0 x5_1).f2)).bind fun bt502 => (if (bt502.2 != (decide ((bt502.1.length : Int) > (x3_1.length : Int)))) = true then (none) else (if bt502.2 = true then (if x4_1.length < 3518437208883 then (waybilllaw3_FramRows.l0 kj1 l0 bt502.1 (x4_1 ++ [(⟨(rd_T68 l0 x5_1).f0, (rd_T68 l0 x5_1).f1, (rd_T68 l0 x5_1).f2⟩ : S68)]) (wrap64 (x5_1 + 1))) else (none)) else (waybilllaw3_FramRows.l0 kj1 l0 bt502.1 x4_1 (wrap64 (x5_1 + 1))))))) else (none)) else (none)) = some r := by rw [if_pos rfl] at H; exact H
            clear H
            have H := H1
            clear H1
            by_cases c5 : 0 ≤ x5_1
            · rw [if_pos c5] at H
              have c5b0 : decide (0 ≤ x5_1) = true := decide_eq_true c5
              clear c5
              by_cases c6 : x5_1 < (l0.length : Int)
              · rw [if_pos c6] at H
                have c6b0 : decide (x5_1 < (l0.length : Int)) = true := decide_eq_true c6
                clear c6
                by_cases c7 : (((rd_T68 l0 x5_1).f2).length : Int) > 4200
                · rw [if_pos c7] at H
                  have c7b0 : decide (4200 < (((rd_T68 l0 x5_1).f2).length : Int)) = true := decide_eq_true c7
                  have c7b1 : decide (4200 < ((rd_T68 l0 x5_1).f2).length) = true := decide_eq_true (by omega)
                  clear c7
                  replace H := Option.bind_eq_some_iff.mp H
                  obtain ⟨t500, A80, H⟩ := H
                  replace H : (some t500) = some r := H
                  have A8 := Aside0.mk A80
                  clear A80
                  obtain rfl := Option.some.inj H
                  have p499 : 0 ≤ (x5_1 : Int) := of_decide_eq_true (by first | (with_reducible assumption) | assumption)
                  have q499 : x5_1 < (l0.length : Int) := of_decide_eq_true (by first | (with_reducible assumption) | assumption)
                  obtain ⟨ad499, A499_2, c499_2, e499, hx499_0, hx499_1, hx499_2, hl499_2, hi499_2⟩ := at_T68 (Kd.V_reads' HO_0.out).2.2 x5_1 p499 q499
                  cases e499
                  obtain ⟨ce499, hce499, hMe499, hcc499⟩ := Kd.V_get HO_0.out z68 x5_1 p499 (by first | exact q499 | exact of_decide_eq_true (by first | (with_reducible assumption) | assumption) | (have e_ := (Kd.V_reads' HO_0.out).1; omega))
                  obtain ⟨ua499_2, uc499_2, rfl, ul499_2, ge499_2⟩ := k68_openF hMe499
                  have hv499_2 := hcc499 2 _ rfl
                  rw [add_field _ _ 2 (by omega)] at hv499_2
                  replace hv499_2 := Option.some.inj (hv499_2.symm.trans hx499_2)
                  injection hv499_2 with hva_ hvn_ hvc_
                  rw [hva_] at ge499_2
                  rw [hvc_] at ul499_2
                  have HL499_2 := Aside0.mk (show Kd.V (Kd.int .u8) 5 _ w.heap.size _ _ ((rd_T68 l0 x5_1).f2) from Kd.V_mk ul499_2 ge499_2)
                  clear hva_ hvn_ hvc_ ge499_2 ul499_2
                  clear hcc499 hce499
                  have HR499_2 := Aside0.mk hi499_2
                  have HC499_2 := Aside0.mk hl499_2
                  clear hi499_2 hl499_2
                  replace p499 := eq_true p499
                  replace q499 := eq_true q499
                  go_wp2_with (first | ((with_reducible refine gate_callee (f := 38) rfl ?_); refine goesL_ (some 29) rfl rfl Try.func38 (by kernel_rfl) rfl #[] rfl (by (try simp only [List.map_toArray, List.map_cons, List.map_nil]); first | done | rfl | (simp only [List.length_drop, List.length_take]; rfl)) ?_; (with_reducible refine (waybilllaw3_awake.calls kj1  t500 _ A8.out).mono ?_); rintro e w9 ⟨rfl, hb⟩; refine ⟨_, rfl, ?_⟩; have n0_ := Aside0.mk (Kd.V_below (by (with_reducible repeat (first | apply Kd.V_alloc | apply Kd.V_drewN | apply Kd.V_drew)); exact HO_0.out) hb); have n1_ := Aside0.mk (Kd.Q_below (by (with_reducible repeat (first | apply Kd.Q_alloc | apply Kd.Q_drewN | apply Kd.Q_drew)); exact HO_3.out) hb); have n2_ := Aside0.mk (Kd.N_below (by (with_reducible repeat (first | apply Kd.N_alloc | apply Kd.N_drewN | apply Kd.N_drew)); exact HO_4.out) hb); have n3_ := Aside0.mk (Kd.V_below (by (with_reducible repeat (first | apply Kd.V_alloc | apply Kd.V_drewN | apply Kd.V_drew)); exact HL499_2.out) hb); have n4_ := Aside0.mk (Kd.C_below (by repeat (first | (with_reducible exact HR499_2.out) | (with_reducible refine Kd.C_alloc ?_ _) | (with_reducible refine Kd.C_drewN ?_ _) | (with_reducible refine Kd.C_drew ?_) | exact HR499_2.out)) hb); have n5_ := Aside0.mk (below_step (by repeat (first | (with_reducible first | exact HB.out | apply below_alloc | apply pw_below_drewN | apply below_drew1) | exact HB.out)) hb); clear HO_0; clear HO_3; clear HO_4; clear HL499_2; clear HR499_2; clear HB; have HO_0 := n0_; have HO_3 := n1_; have HO_4 := n2_; have HL499_2 := n3_; have HR499_2 := n4_; have HB := n5_; clear n0_ n1_ n2_ n3_ n4_ n5_; (try clear hb); (try clear hb2); (try clear hk); (try clear hi); (try clear hge)))
                  all_goals first | (go_ret; exact ⟨by first | rfl | (simp [errW_none, errW_some]; done) | (simp [errW_none, errW_some]; rfl) | (simp [*, errW_none, errW_some]; done) | (simp [*, errW_none, errW_some]; rfl), by repeat (first | (with_reducible first | exact HB.out | apply below_alloc | apply pw_below_drewN | apply below_drew1) | exact HB.out)⟩) | (exfalso; simp_all; done)
                · rw [if_neg c7] at H
                  have c7b0 : decide (4200 < (((rd_T68 l0 x5_1).f2).length : Int)) = false := decide_eq_false c7
                  have c7b1 : decide (4200 < ((rd_T68 l0 x5_1).f2).length) = false := decide_eq_false (by omega)
                  clear c7
                  replace H := Option.bind_eq_some_iff.mp H
                  obtain ⟨⟨t502, t505⟩, A100, H⟩ := H
                  replace H : (if (t505 != (decide ((t502.length : Int) > (x3_1.length : Int)))) = true then (none) else (if t505 = true then (if x4_1.length < 3518437208883 then (waybilllaw3_FramRows.l0 kj1 l0 t502 (x4_1 ++ [(⟨(rd_T68 l0 x5_1).f0, (rd_T68 l0 x5_1).f1, (rd_T68 l0 x5_1).f2⟩ : S68)]) (wrap64 (x5_1 + 1))) else (none)) else (waybilllaw3_FramRows.l0 kj1 l0 t502 x4_1 (wrap64 (x5_1 + 1))))) = some r := H
                  have A10 := Aside0.mk A100
                  clear A100
                  by_cases c11 : (t505 != (decide ((t502.length : Int) > (x3_1.length : Int)))) = true
                  · rw [if_pos c11] at H
                    exact absurd H (by simp)
                  · rw [if_neg c11] at H
                    have c11b0 : (t505 != (decide ((t502.length : Int) > (x3_1.length : Int)))) = false := by simpa using c11
                    (try (have c11b1 : decide (t505 = (decide ((t502.length : Int) > (x3_1.length : Int)))) = true := by simpa using c11))
                    (try (have c11b2 : (t505 == (decide ((t502.length : Int) > (x3_1.length : Int)))) = true := by simpa using c11))
                    clear c11
                    by_cases c12 : t505 = true
                    · subst c12
                      (try (have c11e : decide (x3_1.length < t502.length) = true := by simpa using c11b0))
                      have H1 : (if x4_1.length < 3518437208883 then (waybilllaw3_FramRows.l0 kj1 l0 t502 (x4_1 ++ [(⟨(rd_T68 l0 x5_1).f0, (rd_T68 l0 x5_1).f1, (rd_T68 l0 x5_1).f2⟩ : S68)]) (wrap64 (x5_1 + 1))) else (none)) = some r := by rw [if_pos rfl] at H; exact H
                      clear H
                      have H := H1
                      clear H1
                      by_cases c13 : x4_1.length < 3518437208883
                      · rw [if_pos c13] at H
                        have LMc13 := Aside0.mk c13
                        clear c13
                        obtain ⟨y507, hy507⟩ : ∃ y_ : List (S68), y_ = (x4_1 ++ [(⟨(rd_T68 l0 x5_1).f0, (rd_T68 l0 x5_1).f1, (rd_T68 l0 x5_1).f2⟩ : S68)]) := ⟨_, rfl⟩
                        replace H : (waybilllaw3_FramRows.l0 kj1 l0 t502 y507 (wrap64 (x5_1 + 1))) = some r := by first | (rw [hy507]; with_reducible exact H) | (have H2_ := (Option.bind_some _ _).symm.trans H; rw [hy507]; with_reducible exact H2_) | (have H2_ := (Option.bind_some _ _).symm.trans H; with_reducible exact H2_) | with_reducible exact H | (rw [hy507]; exact H) | exact H
                        have Ny507 := Aside0.mk hy507
                        clear hy507
                        have H' := Aside0.mk H
                        clear H
                        have p499 : 0 ≤ (x5_1 : Int) := of_decide_eq_true (by first | (with_reducible assumption) | assumption)
                        have q499 : x5_1 < (l0.length : Int) := of_decide_eq_true (by first | (with_reducible assumption) | assumption)
                        obtain ⟨ad499, A499_2, c499_2, e499, hx499_0, hx499_1, hx499_2, hl499_2, hi499_2⟩ := at_T68 (Kd.V_reads' HO_0.out).2.2 x5_1 p499 q499
                        cases e499
                        obtain ⟨ce499, hce499, hMe499, hcc499⟩ := Kd.V_get HO_0.out z68 x5_1 p499 (by first | exact q499 | exact of_decide_eq_true (by first | (with_reducible assumption) | assumption) | (have e_ := (Kd.V_reads' HO_0.out).1; omega))
                        obtain ⟨ua499_2, uc499_2, rfl, ul499_2, ge499_2⟩ := k68_openF hMe499
                        have hv499_2 := hcc499 2 _ rfl
                        rw [add_field _ _ 2 (by omega)] at hv499_2
                        replace hv499_2 := Option.some.inj (hv499_2.symm.trans hx499_2)
                        injection hv499_2 with hva_ hvn_ hvc_
                        rw [hva_] at ge499_2
                        rw [hvc_] at ul499_2
                        have HL499_2 := Aside0.mk (show Kd.V (Kd.int .u8) 5 _ w.heap.size _ _ ((rd_T68 l0 x5_1).f2) from Kd.V_mk ul499_2 ge499_2)
                        clear hva_ hvn_ hvc_ ge499_2 ul499_2
                        clear hcc499 hce499
                        have HR499_2 := Aside0.mk hi499_2
                        have HC499_2 := Aside0.mk hl499_2
                        clear hi499_2 hl499_2
                        replace p499 := eq_true p499
                        replace q499 := eq_true q499
                        have p501 : 0 ≤ (x5_1 : Int) := of_decide_eq_true (by first | (with_reducible assumption) | assumption)
                        have q501 : x5_1 < (l0.length : Int) := of_decide_eq_true (by first | (with_reducible assumption) | assumption)
                        obtain ⟨ad501, A501_2, c501_2, e501, hx501_0, hx501_1, hx501_2, hl501_2, hi501_2⟩ := at_T68 (Kd.V_reads' HO_0.out).2.2 x5_1 p501 q501
                        obtain rfl : ad499 = ad501 := (by injection e501)
                        obtain ⟨ce501, hce501, hMe501, hcc501⟩ := Kd.V_get HO_0.out z68 x5_1 p501 (by first | exact q501 | exact of_decide_eq_true (by first | (with_reducible assumption) | assumption) | (have e_ := (Kd.V_reads' HO_0.out).1; omega))
                        obtain ⟨ua501_2, uc501_2, rfl, ul501_2, ge501_2⟩ := k68_openF hMe501
                        have hv501_2 := hcc501 2 _ rfl
                        rw [add_field _ _ 2 (by omega)] at hv501_2
                        replace hv501_2 := Option.some.inj (hv501_2.symm.trans hx501_2)
                        injection hv501_2 with hva_ hvn_ hvc_
                        rw [hva_] at ge501_2
                        rw [hvc_] at ul501_2
                        have HL501_2 := Aside0.mk (show Kd.V (Kd.int .u8) 5 _ w.heap.size _ _ ((rd_T68 l0 x5_1).f2) from Kd.V_mk ul501_2 ge501_2)
                        clear hva_ hvn_ hvc_ ge501_2 ul501_2
                        clear hcc501 hce501
                        have HR501_2 := Aside0.mk hi501_2
                        have HC501_2 := Aside0.mk hl501_2
                        clear hi501_2 hl501_2
                        replace p501 := eq_true p501
                        replace q501 := eq_true q501
                        have ea_ := Option.some.inj (hx499_2.symm.trans hx501_2)
                        injection ea_ with ea_ en_ ec_
                        subst ea_
                        subst ec_
                        clear en_
                        obtain ⟨Ao14, co14, eo14, _⟩ := Kd.Q_slice HO_3.out
                        subst eo14
                        go_wp2_with (first | ((with_reducible refine gate_callee (f := 39) rfl ?_); refine goesL_ (some 36) rfl rfl Try.func39 (by kernel_rfl) rfl #[.slice Ao14 x3_1.length co14, .agg #[.int .i64 ((rd_T68 l0 x5_1).f0), .int .i64 ((rd_T68 l0 x5_1).f1), .slice A499_2 ((rd_T68 l0 x5_1).f2).length c499_2]] rfl (by (try simp only [List.map_toArray, List.map_cons, List.map_nil]); first | done | rfl | (simp only [List.length_drop, List.length_take]; rfl)) ?_; (with_reducible refine (fram_Append.calls kj1 _ _ x3_1 ((rd_T68 l0 x5_1).f0) ((rd_T68 l0 x5_1).f1) _ _ ((rd_T68 l0 x5_1).f2) t502 true _ ?side1 ?side2 ?side3 ?side4 A10.out).mono ?_); (case side1 => repeat (first | exact (Kd.Q_reads' HO_3.out).2.2 | (with_reducible refine Kd.C_alloc ?_ _) | (with_reducible refine Kd.C_drewN ?_ _) | (with_reducible refine Kd.C_drew ?_))); (case side2 => exact (Kd.Q_reads' HO_3.out).2.1); (case side3 => repeat (first | exact (by repeat (first | (with_reducible exact HR501_2.out) | (with_reducible refine Kd.C_alloc ?_ _) | (with_reducible refine Kd.C_drewN ?_ _) | (with_reducible refine Kd.C_drew ?_) | exact HR501_2.out)) | (with_reducible refine Kd.C_alloc ?_ _) | (with_reducible refine Kd.C_drewN ?_ _) | (with_reducible refine Kd.C_drew ?_))); (case side4 => exact HC501_2.out); rintro e w15 ⟨v503, rfl, ho0, hb⟩; refine ⟨_, rfl, ?_⟩; have n0_ := Aside0.mk (Kd.V_elder' (by (with_reducible repeat (first | apply Kd.V_alloc | apply Kd.V_drewN | apply Kd.V_drew)); exact HO_0.out) (Kd.R_base ho0) hb); have n1_ := Aside0.mk (Kd.Q_elder' (by (with_reducible repeat (first | apply Kd.Q_alloc | apply Kd.Q_drewN | apply Kd.Q_drew)); exact HO_3.out) (Kd.R_base ho0) hb); have n2_ := Aside0.mk (Kd.N_elder' (by (with_reducible repeat (first | apply Kd.N_alloc | apply Kd.N_drewN | apply Kd.N_drew)); exact HO_4.out) (Kd.R_base ho0) hb); have n3_ := Aside0.mk (Kd.V_elder' (by (with_reducible repeat (first | apply Kd.V_alloc | apply Kd.V_drewN | apply Kd.V_drew)); exact HL499_2.out) (Kd.R_base ho0) hb); have n4_ := Aside0.mk (Kd.V_elder' (by (with_reducible repeat (first | apply Kd.V_alloc | apply Kd.V_drewN | apply Kd.V_drew)); exact HL501_2.out) (Kd.R_base ho0) hb); have n5_ := Aside0.mk (Kd.R_lower (Kd.R_new' (Kd.R_newM (M := fun k_ => (w.heap.size ≤ k_)) ho0 (below_size (by repeat (first | (with_reducible first | exact HB.out | apply below_alloc | apply pw_below_drewN | apply below_drew1) | exact HB.out))) (fun k_ h_ => h_)) (Kd.Q_lt (by (with_reducible repeat (first | apply Kd.Q_alloc | apply Kd.Q_drewN | apply Kd.Q_drew)); exact HO_3.out))) (below_size (by repeat (first | (with_reducible first | exact HB.out | apply below_alloc | apply pw_below_drewN | apply below_drew1) | exact HB.out)))); have n6_ := Aside0.mk (Kd.C_below (by repeat (first | (with_reducible exact HR499_2.out) | (with_reducible refine Kd.C_alloc ?_ _) | (with_reducible refine Kd.C_drewN ?_ _) | (with_reducible refine Kd.C_drew ?_) | exact HR499_2.out)) hb); have n7_ := Aside0.mk (Kd.C_below (by repeat (first | (with_reducible exact HR501_2.out) | (with_reducible refine Kd.C_alloc ?_ _) | (with_reducible refine Kd.C_drewN ?_ _) | (with_reducible refine Kd.C_drew ?_) | exact HR501_2.out)) hb); have n8_ := Aside0.mk (below_step (by repeat (first | (with_reducible first | exact HB.out | apply below_alloc | apply pw_below_drewN | apply below_drew1) | exact HB.out)) hb); clear HO_0; clear HO_3; clear HO_4; clear HL499_2; clear HL501_2; clear HR499_2; clear HR501_2; clear HB; have HO_0 := n0_; have HO_3 := n1_; have HO_4 := n2_; have HL499_2 := n3_; have HL501_2 := n4_; have HO504 := n5_; have HR499_2 := n6_; have HR501_2 := n7_; have HB := n8_; clear n0_ n1_ n2_ n3_ n4_ n5_ n6_ n7_ n8_; (try clear hb); (try clear hb2); (try clear hk); (try clear hi); (try clear hge); (try clear ho0); obtain ⟨Ao16, co16, eo16⟩ := Kd.R_slice HO504.out; subst eo16; have p506 : 0 ≤ (x5_1 : Int) := of_decide_eq_true (by first | (with_reducible assumption) | assumption); have q506 : x5_1 < (l0.length : Int) := of_decide_eq_true (by first | (with_reducible assumption) | assumption); obtain ⟨ad506, A506_2, c506_2, e506, hx506_0, hx506_1, hx506_2, hl506_2, hi506_2⟩ := at_T68 (Kd.V_reads' HO_0.out).2.2 x5_1 p506 q506; obtain rfl : ad499 = ad506 := (by injection e506); obtain ⟨ce506, hce506, hMe506, hcc506⟩ := Kd.V_get HO_0.out z68 x5_1 p506 (by first | exact q506 | exact of_decide_eq_true (by first | (with_reducible assumption) | assumption) | (have e_ := (Kd.V_reads' HO_0.out).1; omega)); obtain ⟨ua506_2, uc506_2, rfl, ul506_2, ge506_2⟩ := k68_openF hMe506; have hv506_2 := hcc506 2 _ rfl; rw [add_field _ _ 2 (by omega)] at hv506_2; replace hv506_2 := Option.some.inj (hv506_2.symm.trans hx506_2); injection hv506_2 with hva_ hvn_ hvc_; rw [hva_] at ge506_2; rw [hvc_] at ul506_2; have HL506_2 := Aside0.mk (show Kd.V (Kd.int .u8) 5 _ w.heap.size _ _ ((rd_T68 l0 x5_1).f2) from Kd.V_mk ul506_2 ge506_2); clear hva_ hvn_ hvc_ ge506_2 ul506_2; clear hcc506 hce506; have HR506_2 := Aside0.mk hi506_2; have HC506_2 := Aside0.mk hl506_2; clear hi506_2 hl506_2; replace p506 := eq_true p506; replace q506 := eq_true q506) | ((with_reducible refine gate_builtin (b := .append) (xs := #[.tmp 47, .tmp 52]) rfl ?_); (try (refine gate_guard (by rfl) ?_; dsimp only)); at_builtin; refine Kd.N_append k68 (w0 := w) w.heap.size rfl (.tmp 47) (.tmp 52) 66 68 (.agg #[(.int .i64 0), (.int .i64 0), (.slice none 0 0)]) 40 rfl Try.underlying66 info68 rfl (by decide) (by omega) u4 x4_1 (⟨(rd_T68 l0 x5_1).f0, (rd_T68 l0 x5_1).f1, (rd_T68 l0 x5_1).f2⟩ : S68) [.int .i64 ((rd_T68 l0 x5_1).f0), .int .i64 ((rd_T68 l0 x5_1).f1), .slice A506_2 ((rd_T68 l0 x5_1).f2).length c506_2] (fun k_ => (P0_ k_ ∨ w.heap.size ≤ k_) ∧ some k_ ≠ (.slice Ao14 x3_1.length co14 : Value).ownBlock ∧ some k_ ≠ (.slice Ao16 t502.length co16 : Value).ownBlock) (fun k_ => ((fun k_ => (P0_ k_ ∨ w.heap.size ≤ k_) ∧ some k_ ≠ (.slice Ao14 x3_1.length co14 : Value).ownBlock ∧ some k_ ≠ (.slice Ao16 t502.length co16 : Value).ownBlock)) k_ ∧ some k_ ≠ (u4 : Value).ownBlock) rfl rfl ?aP (fun _ hk => hk) ?aF ?aO ?aB ?aS ?aL ?_; (case aP => exact (k68_mkF _ _ (⟨(rd_T68 l0 x5_1).f0, (rd_T68 l0 x5_1).f1, (rd_T68 l0 x5_1).f2⟩ : S68) (Kd.V_reads' (Kd.V_mono (ok' := (fun k_ => ((fun k_ => (P0_ k_ ∨ w.heap.size ≤ k_) ∧ some k_ ≠ (.slice Ao14 x3_1.length co14 : Value).ownBlock ∧ some k_ ≠ (.slice Ao16 t502.length co16 : Value).ownBlock)) k_ ∧ some k_ ≠ (u4 : Value).ownBlock)) (HL506_2.out) (fun k_ hk => ⟨⟨hk.1.1, ⟨hk.1.2.1, hk.2⟩⟩, hk.1.2.2⟩))).2.1 (Kd.V_F (Kd.V_mono (ok' := (fun k_ => ((fun k_ => (P0_ k_ ∨ w.heap.size ≤ k_) ∧ some k_ ≠ (.slice Ao14 x3_1.length co14 : Value).ownBlock ∧ some k_ ≠ (.slice Ao16 t502.length co16 : Value).ownBlock)) k_ ∧ some k_ ≠ (u4 : Value).ownBlock)) (HL506_2.out) (fun k_ hk => ⟨⟨hk.1.1, ⟨hk.1.2.1, hk.2⟩⟩, hk.1.2.2⟩))))); (case aB => exact (by repeat (first | (with_reducible first | exact HB.out | apply below_alloc | apply pw_below_drewN | apply below_drew1) | exact HB.out))); (case aF => exact (fun k_ hk => ⟨(.inr (Nat.le_trans (below_size (by repeat (first | (with_reducible first | exact HB.out | apply below_alloc | apply pw_below_drewN | apply below_drew1) | exact HB.out))) hk)), Kd.fresh' (Kd.Q_lt (by (with_reducible repeat (first | apply Kd.Q_alloc | apply Kd.Q_drewN | apply Kd.Q_drew)); exact HO_3.out)) k_ hk, Kd.fresh' (Kd.R_lt (by (with_reducible repeat (first | apply Kd.R_alloc | apply Kd.R_drewN | apply Kd.R_drew)); exact HO504.out)) k_ hk⟩)); (case aO => exact (by (with_reducible repeat (first | apply Kd.N_alloc | apply Kd.N_drewN | apply Kd.N_drew)); exact Kd.N_mono HO_4.out (fun _ hk => ⟨hk.1.1, ⟨hk.1.2, hk.2⟩⟩))); (case aS => exact (below_size (by repeat (first | (with_reducible first | exact HB.out | apply below_alloc | apply pw_below_drewN | apply below_drew1) | exact HB.out)))); (case aL => have := LMc13.out; omega); intro v508 w17 ho hb hg hat; rw [← Ny507.out] at ho; have n0_ := Aside0.mk (Kd.V_afterv (ok := (fun k_ => (P0_ k_ ∨ w.heap.size ≤ k_) ∧ some k_ ≠ (.slice Ao14 x3_1.length co14 : Value).ownBlock ∧ some k_ ≠ (.slice Ao16 t502.length co16 : Value).ownBlock)) (by (with_reducible repeat (first | apply Kd.V_alloc | apply Kd.V_drewN | apply Kd.V_drew)); exact Kd.V_mono HO_0.out (fun _ hk => ⟨⟨hk.1.1, ⟨hk.1.2.1, hk.2⟩⟩, hk.1.2.2⟩)) hg hat); have n1_ := Aside0.mk (Kd.Q_over' (by (with_reducible repeat (first | apply Kd.Q_alloc | apply Kd.Q_drewN | apply Kd.Q_drew)); exact HO_3.out) (Kd.N_typed (by (with_reducible repeat (first | apply Kd.N_alloc | apply Kd.N_drewN | apply Kd.N_drew)); exact HO_4.out)) (by decide) hg); have n2_ := Aside0.mk (Kd.V_afterv (ok := (fun k_ => (P0_ k_ ∨ w.heap.size ≤ k_) ∧ some k_ ≠ (.slice Ao14 x3_1.length co14 : Value).ownBlock ∧ some k_ ≠ (.slice Ao16 t502.length co16 : Value).ownBlock)) (by (with_reducible repeat (first | apply Kd.V_alloc | apply Kd.V_drewN | apply Kd.V_drew)); exact Kd.V_mono HL499_2.out (fun _ hk => ⟨⟨hk.1.1, ⟨hk.1.2.1, hk.2⟩⟩, hk.1.2.2⟩)) hg hat); have n3_ := Aside0.mk (Kd.V_afterv (ok := (fun k_ => (P0_ k_ ∨ w.heap.size ≤ k_) ∧ some k_ ≠ (.slice Ao14 x3_1.length co14 : Value).ownBlock ∧ some k_ ≠ (.slice Ao16 t502.length co16 : Value).ownBlock)) (by (with_reducible repeat (first | apply Kd.V_alloc | apply Kd.V_drewN | apply Kd.V_drew)); exact Kd.V_mono HL501_2.out (fun _ hk => ⟨⟨hk.1.1, ⟨hk.1.2.1, hk.2⟩⟩, hk.1.2.2⟩)) hg hat); have n4_ := Aside0.mk (Kd.R_over' (by (with_reducible repeat (first | apply Kd.R_alloc | apply Kd.R_drewN | apply Kd.R_drew)); exact HO504.out) (Kd.N_typed (by (with_reducible repeat (first | apply Kd.N_alloc | apply Kd.N_drewN | apply Kd.N_drew)); exact HO_4.out)) (by decide) hg); have n5_ := Aside0.mk (Kd.V_afterv (ok := (fun k_ => (P0_ k_ ∨ w.heap.size ≤ k_) ∧ some k_ ≠ (.slice Ao14 x3_1.length co14 : Value).ownBlock ∧ some k_ ≠ (.slice Ao16 t502.length co16 : Value).ownBlock)) (by (with_reducible repeat (first | apply Kd.V_alloc | apply Kd.V_drewN | apply Kd.V_drew)); exact Kd.V_mono HL506_2.out (fun _ hk => ⟨⟨hk.1.1, ⟨hk.1.2.1, hk.2⟩⟩, hk.1.2.2⟩)) hg hat); have n6_ := Aside0.mk (hb); have n7_ := Aside0.mk (ho); clear HO_0; clear HO_3; clear HL499_2; clear HL501_2; clear HO504; clear HL506_2; clear HB; clear HO_4; have HO_0 := n0_; have HO_3 := n1_; have HL499_2 := n2_; have HL501_2 := n3_; have HO504 := n4_; have HL506_2 := n5_; have HB := n6_; have HO509 := n7_; clear n0_ n1_ n2_ n3_ n4_ n5_ n6_ n7_; clear ho hb hg hat))
                        go_roundg kj1
                        case measure => have := HK1.out; have := HJ1.out; omega
                        case rel => exact ⟨(t502), (y507), (wrap64 (x5_1 + 1)), (by first | rfl | (simp; done) | (simp [*]; done)), H', ⟨by have := HK1.out; have := HJ1.out; omega⟩, ⟨by (with_reducible repeat (first | apply Kd.V_alloc | apply Kd.V_drewN | apply Kd.V_drew)); exact Kd.V_mono HO_0.out (fun _ hk => ⟨hk.1.1, ⟨hk.1.2.2, hk.2⟩⟩)⟩, ⟨Kd.Q_of_R (by (with_reducible repeat (first | apply Kd.R_alloc | apply Kd.R_drewN | apply Kd.R_drew)); exact Kd.R_mono HO504.out (fun _ hk => hk.1.1))⟩, ⟨by (with_reducible repeat (first | apply Kd.N_alloc | apply Kd.N_drewN | apply Kd.N_drew)); exact Kd.N_mono HO509.out (fun _ hk => ⟨hk.1, hk.2.2⟩)⟩, ⟨by repeat (first | (with_reducible first | exact HB.out | apply below_alloc | apply pw_below_drewN | apply below_drew1) | exact HB.out)⟩⟩
                      · rw [if_neg c13] at H
                        exact absurd H (by simp)
                    · replace c12 := Bool.eq_false_iff.mpr c12
                      subst c12
                      (try (have c11e : decide (x3_1.length < t502.length) = false := by simpa using c11b0))
                      have H1 : (waybilllaw3_FramRows.l0 kj1 l0 t502 x4_1 (wrap64 (x5_1 + 1))) = some r := by rw [if_neg (show ¬ (false = true) by decide)] at H; exact H
                      clear H
                      have H := H1
                      clear H1
                      have H' := Aside0.mk H
                      clear H
                      have p499 : 0 ≤ (x5_1 : Int) := of_decide_eq_true (by first | (with_reducible assumption) | assumption)
                      have q499 : x5_1 < (l0.length : Int) := of_decide_eq_true (by first | (with_reducible assumption) | assumption)
                      obtain ⟨ad499, A499_2, c499_2, e499, hx499_0, hx499_1, hx499_2, hl499_2, hi499_2⟩ := at_T68 (Kd.V_reads' HO_0.out).2.2 x5_1 p499 q499
                      cases e499
                      obtain ⟨ce499, hce499, hMe499, hcc499⟩ := Kd.V_get HO_0.out z68 x5_1 p499 (by first | exact q499 | exact of_decide_eq_true (by first | (with_reducible assumption) | assumption) | (have e_ := (Kd.V_reads' HO_0.out).1; omega))
                      obtain ⟨ua499_2, uc499_2, rfl, ul499_2, ge499_2⟩ := k68_openF hMe499
                      have hv499_2 := hcc499 2 _ rfl
                      rw [add_field _ _ 2 (by omega)] at hv499_2
                      replace hv499_2 := Option.some.inj (hv499_2.symm.trans hx499_2)
                      injection hv499_2 with hva_ hvn_ hvc_
                      rw [hva_] at ge499_2
                      rw [hvc_] at ul499_2
                      have HL499_2 := Aside0.mk (show Kd.V (Kd.int .u8) 5 _ w.heap.size _ _ ((rd_T68 l0 x5_1).f2) from Kd.V_mk ul499_2 ge499_2)
                      clear hva_ hvn_ hvc_ ge499_2 ul499_2
                      clear hcc499 hce499
                      have HR499_2 := Aside0.mk hi499_2
                      have HC499_2 := Aside0.mk hl499_2
                      clear hi499_2 hl499_2
                      replace p499 := eq_true p499
                      replace q499 := eq_true q499
                      have p501 : 0 ≤ (x5_1 : Int) := of_decide_eq_true (by first | (with_reducible assumption) | assumption)
                      have q501 : x5_1 < (l0.length : Int) := of_decide_eq_true (by first | (with_reducible assumption) | assumption)
                      obtain ⟨ad501, A501_2, c501_2, e501, hx501_0, hx501_1, hx501_2, hl501_2, hi501_2⟩ := at_T68 (Kd.V_reads' HO_0.out).2.2 x5_1 p501 q501
                      obtain rfl : ad499 = ad501 := (by injection e501)
                      obtain ⟨ce501, hce501, hMe501, hcc501⟩ := Kd.V_get HO_0.out z68 x5_1 p501 (by first | exact q501 | exact of_decide_eq_true (by first | (with_reducible assumption) | assumption) | (have e_ := (Kd.V_reads' HO_0.out).1; omega))
                      obtain ⟨ua501_2, uc501_2, rfl, ul501_2, ge501_2⟩ := k68_openF hMe501
                      have hv501_2 := hcc501 2 _ rfl
                      rw [add_field _ _ 2 (by omega)] at hv501_2
                      replace hv501_2 := Option.some.inj (hv501_2.symm.trans hx501_2)
                      injection hv501_2 with hva_ hvn_ hvc_
                      rw [hva_] at ge501_2
                      rw [hvc_] at ul501_2
                      have HL501_2 := Aside0.mk (show Kd.V (Kd.int .u8) 5 _ w.heap.size _ _ ((rd_T68 l0 x5_1).f2) from Kd.V_mk ul501_2 ge501_2)
                      clear hva_ hvn_ hvc_ ge501_2 ul501_2
                      clear hcc501 hce501
                      have HR501_2 := Aside0.mk hi501_2
                      have HC501_2 := Aside0.mk hl501_2
                      clear hi501_2 hl501_2
                      replace p501 := eq_true p501
                      replace q501 := eq_true q501
                      have ea_ := Option.some.inj (hx499_2.symm.trans hx501_2)
                      injection ea_ with ea_ en_ ec_
                      subst ea_
                      subst ec_
                      clear en_
                      obtain ⟨Ao18, co18, eo18, _⟩ := Kd.Q_slice HO_3.out
                      subst eo18
                      go_wp2_with (first | ((with_reducible refine gate_callee (f := 39) rfl ?_); refine goesL_ (some 36) rfl rfl Try.func39 (by kernel_rfl) rfl #[.slice Ao18 x3_1.length co18, .agg #[.int .i64 ((rd_T68 l0 x5_1).f0), .int .i64 ((rd_T68 l0 x5_1).f1), .slice A499_2 ((rd_T68 l0 x5_1).f2).length c499_2]] rfl (by (try simp only [List.map_toArray, List.map_cons, List.map_nil]); first | done | rfl | (simp only [List.length_drop, List.length_take]; rfl)) ?_; (with_reducible refine (fram_Append.calls kj1 _ _ x3_1 ((rd_T68 l0 x5_1).f0) ((rd_T68 l0 x5_1).f1) _ _ ((rd_T68 l0 x5_1).f2) t502 false _ ?side1 ?side2 ?side3 ?side4 A10.out).mono ?_); (case side1 => repeat (first | exact (Kd.Q_reads' HO_3.out).2.2 | (with_reducible refine Kd.C_alloc ?_ _) | (with_reducible refine Kd.C_drewN ?_ _) | (with_reducible refine Kd.C_drew ?_))); (case side2 => exact (Kd.Q_reads' HO_3.out).2.1); (case side3 => repeat (first | exact (by repeat (first | (with_reducible exact HR501_2.out) | (with_reducible refine Kd.C_alloc ?_ _) | (with_reducible refine Kd.C_drewN ?_ _) | (with_reducible refine Kd.C_drew ?_) | exact HR501_2.out)) | (with_reducible refine Kd.C_alloc ?_ _) | (with_reducible refine Kd.C_drewN ?_ _) | (with_reducible refine Kd.C_drew ?_))); (case side4 => exact HC501_2.out); rintro e w19 ⟨v503, rfl, ho0, hb⟩; refine ⟨_, rfl, ?_⟩; have n0_ := Aside0.mk (Kd.V_elder' (by (with_reducible repeat (first | apply Kd.V_alloc | apply Kd.V_drewN | apply Kd.V_drew)); exact HO_0.out) (Kd.R_base ho0) hb); have n1_ := Aside0.mk (Kd.Q_elder' (by (with_reducible repeat (first | apply Kd.Q_alloc | apply Kd.Q_drewN | apply Kd.Q_drew)); exact HO_3.out) (Kd.R_base ho0) hb); have n2_ := Aside0.mk (Kd.N_elder' (by (with_reducible repeat (first | apply Kd.N_alloc | apply Kd.N_drewN | apply Kd.N_drew)); exact HO_4.out) (Kd.R_base ho0) hb); have n3_ := Aside0.mk (Kd.V_elder' (by (with_reducible repeat (first | apply Kd.V_alloc | apply Kd.V_drewN | apply Kd.V_drew)); exact HL499_2.out) (Kd.R_base ho0) hb); have n4_ := Aside0.mk (Kd.V_elder' (by (with_reducible repeat (first | apply Kd.V_alloc | apply Kd.V_drewN | apply Kd.V_drew)); exact HL501_2.out) (Kd.R_base ho0) hb); have n5_ := Aside0.mk (Kd.R_lower (Kd.R_new' (Kd.R_newM (M := fun k_ => (w.heap.size ≤ k_)) ho0 (below_size (by repeat (first | (with_reducible first | exact HB.out | apply below_alloc | apply pw_below_drewN | apply below_drew1) | exact HB.out))) (fun k_ h_ => h_)) (Kd.Q_lt (by (with_reducible repeat (first | apply Kd.Q_alloc | apply Kd.Q_drewN | apply Kd.Q_drew)); exact HO_3.out))) (below_size (by repeat (first | (with_reducible first | exact HB.out | apply below_alloc | apply pw_below_drewN | apply below_drew1) | exact HB.out)))); have n6_ := Aside0.mk (Kd.C_below (by repeat (first | (with_reducible exact HR499_2.out) | (with_reducible refine Kd.C_alloc ?_ _) | (with_reducible refine Kd.C_drewN ?_ _) | (with_reducible refine Kd.C_drew ?_) | exact HR499_2.out)) hb); have n7_ := Aside0.mk (Kd.C_below (by repeat (first | (with_reducible exact HR501_2.out) | (with_reducible refine Kd.C_alloc ?_ _) | (with_reducible refine Kd.C_drewN ?_ _) | (with_reducible refine Kd.C_drew ?_) | exact HR501_2.out)) hb); have n8_ := Aside0.mk (below_step (by repeat (first | (with_reducible first | exact HB.out | apply below_alloc | apply pw_below_drewN | apply below_drew1) | exact HB.out)) hb); clear HO_0; clear HO_3; clear HO_4; clear HL499_2; clear HL501_2; clear HR499_2; clear HR501_2; clear HB; have HO_0 := n0_; have HO_3 := n1_; have HO_4 := n2_; have HL499_2 := n3_; have HL501_2 := n4_; have HO504 := n5_; have HR499_2 := n6_; have HR501_2 := n7_; have HB := n8_; clear n0_ n1_ n2_ n3_ n4_ n5_ n6_ n7_ n8_; (try clear hb); (try clear hb2); (try clear hk); (try clear hi); (try clear hge); (try clear ho0); obtain ⟨Ao20, co20, eo20⟩ := Kd.R_slice HO504.out; subst eo20))
                      go_roundg kj1
                      case measure => have := HK1.out; have := HJ1.out; omega
                      case rel => exact ⟨(t502), (x4_1), (wrap64 (x5_1 + 1)), (by first | rfl | (simp; done) | (simp [*]; done)), H', ⟨by have := HK1.out; have := HJ1.out; omega⟩, ⟨by (with_reducible repeat (first | apply Kd.V_alloc | apply Kd.V_drewN | apply Kd.V_drew)); exact Kd.V_mono HO_0.out (fun _ hk => ⟨hk.1.1, ⟨hk.2, hk.1.2.2⟩⟩)⟩, ⟨Kd.Q_of_R (by (with_reducible repeat (first | apply Kd.R_alloc | apply Kd.R_drewN | apply Kd.R_drew)); exact Kd.R_mono HO504.out (fun _ hk => hk.1.1))⟩, ⟨by (with_reducible repeat (first | apply Kd.N_alloc | apply Kd.N_drewN | apply Kd.N_drew)); exact Kd.N_mono HO_4.out (fun _ hk => ⟨hk.1.1, hk.2⟩)⟩, ⟨by repeat (first | (with_reducible first | exact HB.out | apply below_alloc | apply pw_below_drewN | apply below_drew1) | exact HB.out)⟩⟩
              · rw [if_neg c6] at H
                exact absurd H (by simp)
            · rw [if_neg c5] at H
              exact absurd H (by simp)
          · replace c4 := Bool.eq_false_iff.mpr c4
            subst c4
            have H1 : (waybilllaw3_FramRows.l1 kj1 x3_1 x4_1 0) = some r := by rw [if_neg (show ¬ (false = true) by decide)] at H; exact H
            clear H
            have H := H1
            clear H1
            have H' := Aside0.mk H
            clear H
            go_wp2
            go_loopg [3, 8] kj1 (fun kq v3 v8 w' => ∃ (x3_3 : List Int) (x8_3 : Int), v8 = .int .i64 x8_3 ∧ Aside0 (waybilllaw3_FramRows.l1 kq x3_3 x4_1 x8_3 = some r) ∧ Aside0 (kq ≤ kj1) ∧ Aside0 (Kd.Q (Kd.int .u8) 5 w' w.heap.size (fun k_ => (w.heap.size ≤ k_)) v3 x3_3) ∧ Aside0 (Kd.N k68 68 w' w.heap.size (fun k_ => (P0_ k_ ∨ w.heap.size ≤ k_) ∧ some k_ ≠ (v3 : Value).ownBlock) u4 x4_1) ∧ Aside0 (Below w.heap.size w w'))
            case atStart => exact ⟨(x3_1), (0), (by first | rfl | (simp; done) | (simp [*]; done)), H', ⟨Nat.le_refl _⟩, ⟨by (with_reducible repeat (first | apply Kd.Q_alloc | apply Kd.Q_drewN | apply Kd.Q_drew)); exact HO_3.out⟩, ⟨by (with_reducible repeat (first | apply Kd.N_alloc | apply Kd.N_drewN | apply Kd.N_drew)); exact HO_4.out⟩, ⟨by repeat (first | (with_reducible first | exact HB.out | apply below_alloc | apply pw_below_drewN | apply below_drew1) | exact HB.out)⟩⟩
            case round =>
              clear H'
              try clear c1
              try clear p2
              try clear c3
              try clear c3b0
              try clear c4
              try clear p4
              try clear q4
              try clear hx4
              try clear c5
              try clear c5b0
              try clear p5
              try clear q5
              try clear hx5
              try clear c6
              try clear c6b0
              try clear p6
              try clear c7
              try clear c7b0
              try clear c7b1
              try clear c10
              try clear c11
              try clear c11b0
              try clear c11b1
              try clear c11b2
              try clear c12
              try clear c13
              try clear hx499_0
              try clear hx499_1
              try clear hx499_2
              try clear hx501_0
              try clear hx501_1
              try clear hx501_2
              try clear hx506_0
              try clear hx506_1
              try clear hx506_2
              try clear p2
              try clear p499
              try clear p501
              try clear p506
              try clear q499
              try clear q501
              try clear q506
              obtain ⟨x3_3, x8_3, rfl, HA, HK3, HO_3, HO_4, HB⟩ := hrel
              cases gk with
              | zero => exact absurd HA.out (by simp [waybilllaw3_FramRows.l1])
              | succ k3 =>
                have H := HA.out
                clear HA
                simp only [waybilllaw3_FramRows.l1] at H
                by_cases c21 : x8_3 < (x4_1.length : Int)
                · rw [if_pos c21] at H
                  have c21b0 : decide (x8_3 < (x4_1.length : Int)) = true := decide_eq_true c21
                  clear c21
                  replace H := Option.bind_eq_some_iff.mp H
                  obtain ⟨⟨t511, t512, t513, t516, t517⟩, A220, H⟩ := H
                  replace H : (if t517 = 0 then (if 0 ≤ x8_3 then (if t516 = (wrap64 (8 + (((rd_T68 x4_1 x8_3).f2).length : Int))) then (if t516 > (x3_3.length : Int) then (none) else ((waybilllaw3_Same.f t511 t512 t513 ((rd_T68 x4_1 x8_3).f0) ((rd_T68 x4_1 x8_3).f1) ((rd_T68 x4_1 x8_3).f2)).bind fun t521 => (if t521 = true then (if 0 ≤ t516 then (if t516 ≤ (x3_3.length : Int) then (waybilllaw3_FramRows.l1 k3 (x3_3.drop (t516 : Int).toNat) x4_1 (wrap64 (x8_3 + 1))) else (none)) else (none)) else (none)))) else (none)) else (none)) else (none)) = some r := H
                  have A22 := Aside0.mk A220
                  clear A220
                  by_cases c23 : t517 = 0
                  · rw [if_pos c23] at H
                    have c23b0 : (t517 == 0) = true := beq_iff_eq.mpr c23
                    have c23b1 : (t517 != 0) = false := bne_eq_false_iff_eq.mpr c23
                    clear c23
                    by_cases c24 : 0 ≤ x8_3
                    · rw [if_pos c24] at H
                      have c24b0 : decide (0 ≤ x8_3) = true := decide_eq_true c24
                      clear c24
                      by_cases c25 : t516 = (wrap64 (8 + (((rd_T68 x4_1 x8_3).f2).length : Int)))
                      · rw [if_pos c25] at H
                        have c25b0 : (t516 == (wrap64 (8 + (((rd_T68 x4_1 x8_3).f2).length : Int)))) = true := beq_iff_eq.mpr c25
                        have c25b1 : (t516 != (wrap64 (8 + (((rd_T68 x4_1 x8_3).f2).length : Int)))) = false := bne_eq_false_iff_eq.mpr c25
                        clear c25
                        by_cases c26 : t516 > (x3_3.length : Int)
                        · rw [if_pos c26] at H
                          have c26b0 : decide ((x3_3.length : Int) < t516) = true := decide_eq_true c26
                          clear c26
                          exact absurd H (by simp)
                        · rw [if_neg c26] at H
                          have c26b0 : decide ((x3_3.length : Int) < t516) = false := decide_eq_false c26
                          clear c26
                          replace H := Option.bind_eq_some_iff.mp H
                          obtain ⟨t521, A270, H⟩ := H
                          replace H : (if t521 = true then (if 0 ≤ t516 then (if t516 ≤ (x3_3.length : Int) then (waybilllaw3_FramRows.l1 k3 (x3_3.drop (t516 : Int).toNat) x4_1 (wrap64 (x8_3 + 1))) else (none)) else (none)) else (none)) = some r := H
                          have A27 := Aside0.mk A270
                          clear A270
                          by_cases c28 : t521 = true
                          · subst c28
                            have H1 : (if 0 ≤ t516 then (if t516 ≤ (x3_3.length : Int) then (waybilllaw3_FramRows.l1 k3 (x3_3.drop (t516 : Int).toNat) x4_1 (wrap64 (x8_3 + 1))) else (none)) else (none)) = some r := by rw [if_pos rfl] at H; exact H
                            clear H
                            have H := H1
                            clear H1
                            by_cases c29 : 0 ≤ t516
                            · rw [if_pos c29] at H
                              have c29b0 := eq_true c29
                              have c29b1 : decide (0 ≤ t516) = true := decide_eq_true c29
                              clear c29
                              by_cases c30 : t516 ≤ (x3_3.length : Int)
                              · rw [if_pos c30] at H
                                have c30b0 := eq_true c30
                                have c30b1 : decide (t516 ≤ (x3_3.length : Int)) = true := decide_eq_true c30
                                clear c30
                                obtain ⟨y522, hy522⟩ : ∃ y_ : List Int, y_ = (x3_3.drop (t516 : Int).toNat) := ⟨_, rfl⟩
                                replace H : (waybilllaw3_FramRows.l1 k3 y522 x4_1 (wrap64 (x8_3 + 1))) = some r := by first | (rw [hy522]; with_reducible exact H) | (have H2_ := (Option.bind_some _ _).symm.trans H; rw [hy522]; with_reducible exact H2_) | (have H2_ := (Option.bind_some _ _).symm.trans H; with_reducible exact H2_) | with_reducible exact H | (rw [hy522]; exact H) | exact H
                                have Ny522 := Aside0.mk hy522
                                clear hy522
                                have H' := Aside0.mk H
                                clear H
                                obtain ⟨Ao31, co31, eo31⟩ := Kd.N_slice HO_4.out
                                subst eo31
                                obtain ⟨Ao32, co32, eo32, _⟩ := Kd.Q_slice HO_3.out
                                subst eo32
                                try go_wp2_with (first | ((with_reducible refine gate_callee (f := 40) rfl ?_); refine goesL_ (some 63) rfl rfl Try.func40 (by kernel_rfl) rfl #[.slice Ao32 x3_3.length co32] rfl (by (try simp only [List.map_toArray, List.map_cons, List.map_nil]); first | done | rfl | (simp only [List.length_drop, List.length_take]; rfl)) ?_; (with_reducible refine (fram_Parse.calls k3 _ _ x3_3 t511 t512 t513 t516 t517 _ ?side1 ?side2 A22.out).mono ?_); (case side1 => repeat (first | exact (Kd.Q_reads' HO_3.out).2.2 | (with_reducible refine Kd.C_alloc ?_ _) | (with_reducible refine Kd.C_drewN ?_ _) | (with_reducible refine Kd.C_drew ?_))); (case side2 => exact (Kd.Q_reads' HO_3.out).2.1); rintro e w33 ⟨v514, rfl, ho0, hb⟩; refine ⟨_, rfl, ?_⟩; have n0_ := Aside0.mk (Kd.Q_elder' (by (with_reducible repeat (first | apply Kd.Q_alloc | apply Kd.Q_drewN | apply Kd.Q_drew)); exact HO_3.out) (Kd.R_base ho0) hb); have n1_ := Aside0.mk (Kd.N_elder' (by (with_reducible repeat (first | apply Kd.N_alloc | apply Kd.N_drewN | apply Kd.N_drew)); exact HO_4.out) (Kd.R_base ho0) hb); have n2_ := Aside0.mk (Kd.R_lower (Kd.R_new' (Kd.R_newM (M := fun k_ => (w.heap.size ≤ k_)) ho0 (below_size (by repeat (first | (with_reducible first | exact HB.out | apply below_alloc | apply pw_below_drewN | apply below_drew1) | exact HB.out))) (fun k_ h_ => h_)) (Kd.Q_lt (by (with_reducible repeat (first | apply Kd.Q_alloc | apply Kd.Q_drewN | apply Kd.Q_drew)); exact HO_3.out))) (below_size (by repeat (first | (with_reducible first | exact HB.out | apply below_alloc | apply pw_below_drewN | apply below_drew1) | exact HB.out)))); have n3_ := Aside0.mk (below_step (by repeat (first | (with_reducible first | exact HB.out | apply below_alloc | apply pw_below_drewN | apply below_drew1) | exact HB.out)) hb); clear HO_3; clear HO_4; clear HB; have HO_3 := n0_; have HO_4 := n1_; have HO515 := n2_; have HB := n3_; clear n0_ n1_ n2_ n3_; (try clear hb); (try clear hb2); (try clear hk); (try clear hi); (try clear hge); (try clear ho0)) | ((with_reducible refine gate_dst (N := 9) rfl ?_); (try (refine gate_guard (by rfl) ?_; dsimp only)); refine box_event ?hg (N := 9) ?hd (cs := #[.int .i64 0, .int .i64 0, .slice none 0 0]) (t := 68) ?hr ?_; (case hd => rfl); (case hg => rfl); (case hr => first | (go_simp; done) | (go_simp; rfl)); intro gb518 hg w34 hbox hb; have n0_ := Aside0.mk (Kd.Q_below (by (with_reducible repeat (first | apply Kd.Q_alloc | apply Kd.Q_drewN | apply Kd.Q_drew)); exact HO_3.out) hb); have n1_ := Aside0.mk (Kd.N_below (Kd.N_elderB (by (with_reducible repeat (first | apply Kd.N_alloc | apply Kd.N_drewN | apply Kd.N_drew)); exact HO_4.out) gb518 (Nat.le_of_eq hg.symm)) hb); have n2_ := Aside0.mk (Kd.R_below (by (with_reducible repeat (first | apply Kd.R_alloc | apply Kd.R_drewN | apply Kd.R_drew)); exact HO515.out) hb); have n3_ := Aside0.mk (below_step (by repeat (first | (with_reducible first | exact HB.out | apply below_alloc | apply pw_below_drewN | apply below_drew1) | exact HB.out)) hb); have n4_ := Aside0.mk (hbox); have n5_ := Aside0.mk ((by rw [hg]; exact (below_size (by repeat (first | (with_reducible first | exact HB.out | apply below_alloc | apply pw_below_drewN | apply below_drew1) | exact HB.out))) : w.heap.size ≤ gb518)); have n6_ := Aside0.mk ((by rw [hg]; exact (below_size (by repeat (first | (with_reducible first | exact HB.out | apply below_alloc | apply pw_below_drewN | apply below_drew1) | exact HB.out))) : w.heap.size ≤ gb518)); clear HO_3; clear HO_4; clear HO515; clear HB; have HO_3 := n0_; have HO_4 := n1_; have HO515 := n2_; have HB := n3_; have BK518 := n4_; have GW518 := n5_; have GE518 := n6_; clear n0_ n1_ n2_ n3_ n4_ n5_ n6_; clear hb hbox hg; have hcz35_0 : w34.cell? ⟨gb518, 0, none⟩ = some (.int .i64 0) := (blk_cell BK518.out 0).trans rfl; have hcz35_1 : w34.cell? ⟨gb518, 1, none⟩ = some (.int .i64 0) := (blk_cell BK518.out 1).trans rfl; have hcz35_2 : w34.cell? ⟨gb518, 2, none⟩ = some (.slice none 0 0) := (blk_cell BK518.out 2).trans rfl; have hfz35_0 := blk_frozen BK518.out 0; have hfz35_1 := blk_frozen BK518.out 1; have hfz35_2 := blk_frozen BK518.out 2; obtain ⟨Ao36, co36, eo36⟩ := Kd.R_slice HO515.out; subst eo36))
                                have n0_ : Aside0 (Kd.Q (Kd.int .u8) 5 (((w34.setCell ⟨gb518, 0, none⟩ (.int .i64 t511)).setCell ⟨gb518, 1, none⟩ (.int .i64 t512)).setCell ⟨gb518, 2, none⟩ (.slice Ao36 t513.length co36)) w.heap.size (fun k_ => (w.heap.size ≤ k_) ∧ some k_ ≠ (.slice Ao36 t513.length co36 : Value).ownBlock) (.slice Ao32 x3_3.length co32) x3_3) := ⟨by (with_reducible repeat (first | apply Kd.Q_alloc | apply Kd.Q_drewN | apply Kd.Q_drew)); exact Kd.Q_mono (Kd.Q_far (p := ⟨gb518, 2, none⟩) (Kd.Q_far (p := ⟨gb518, 1, none⟩) (Kd.Q_far (p := ⟨gb518, 0, none⟩) (Kd.Q_types HO_3.out BK518.out (by decide)) (fun _ hk => hk.2) (.int .i64 t511)) (fun _ hk => hk.2) (.int .i64 t512)) (fun _ hk => hk.2) (.slice Ao36 t513.length co36)) (fun _ hk => ⟨hk.1.1, hk.1.2⟩)⟩
                                have n1_ : Aside0 (Kd.N k68 68 (((w34.setCell ⟨gb518, 0, none⟩ (.int .i64 t511)).setCell ⟨gb518, 1, none⟩ (.int .i64 t512)).setCell ⟨gb518, 2, none⟩ (.slice Ao36 t513.length co36)) w.heap.size (fun k_ => (P0_ k_ ∨ w.heap.size ≤ k_) ∧ some k_ ≠ (.slice Ao32 x3_3.length co32 : Value).ownBlock ∧ some k_ ≠ (.slice Ao36 t513.length co36 : Value).ownBlock ∧ k_ ≠ gb518) (.slice Ao31 x4_1.length co31) x4_1) := ⟨by (with_reducible repeat (first | apply Kd.N_alloc | apply Kd.N_drewN | apply Kd.N_drew)); exact Kd.N_mono (Kd.N_far (p := ⟨gb518, 2, none⟩) (Kd.N_far (p := ⟨gb518, 1, none⟩) (Kd.N_far (p := ⟨gb518, 0, none⟩) (Kd.N_mono HO_4.out (fun k_ hk => (⟨hk, hk.2⟩ : _ ∧ k_ ≠ gb518))) (fun _ hk => hk.2) (.int .i64 t511)) (fun _ hk => hk.2) (.int .i64 t512)) (fun _ hk => hk.2) (.slice Ao36 t513.length co36)) (fun _ hk => ⟨hk.1.1.1.1, ⟨hk.1.1.1.2, ⟨hk.1.1.2, hk.1.2⟩⟩⟩)⟩
                                have n2_ : Aside0 (Kd.R (Kd.int .u8) 5 (((w34.setCell ⟨gb518, 0, none⟩ (.int .i64 t511)).setCell ⟨gb518, 1, none⟩ (.int .i64 t512)).setCell ⟨gb518, 2, none⟩ (.slice Ao36 t513.length co36)) w.heap.size (fun k_ => (w.heap.size ≤ k_) ∧ some k_ ≠ (.slice Ao32 x3_3.length co32 : Value).ownBlock) (.slice Ao36 t513.length co36) t513) := ⟨by (with_reducible repeat (first | apply Kd.R_alloc | apply Kd.R_drewN | apply Kd.R_drew)); exact Kd.R_mono (Kd.R_far (p := ⟨gb518, 2, none⟩) (Kd.R_far (p := ⟨gb518, 1, none⟩) (Kd.R_far (p := ⟨gb518, 0, none⟩) (Kd.R_types HO515.out BK518.out (by decide)) (fun _ hk => hk.2) (.int .i64 t511)) (fun _ hk => hk.2) (.int .i64 t512)) (fun _ hk => hk.2) (.slice Ao36 t513.length co36)) (fun _ hk => ⟨hk.1.1.1, hk.1.2⟩)⟩
                                have n3_ : Aside0 ((((w34.setCell ⟨gb518, 0, none⟩ (.int .i64 t511)).setCell ⟨gb518, 1, none⟩ (.int .i64 t512)).setCell ⟨gb518, 2, none⟩ (.slice Ao36 t513.length co36)).heap[gb518]? = some (.cells #[.int .i64 t511, .int .i64 t512, .slice Ao36 t513.length co36] 68 (0, 0))) := ⟨by (with_reducible repeat (first | refine blk_drewN ?_ _ | refine blk_drew ?_ | refine blk_alloc ?_ _)); refine blk_put (cs := #[.int .i64 t511, .int .i64 t512, .slice none 0 0]) ?_ 2 _ rfl; (with_reducible repeat (first | refine blk_drewN ?_ _ | refine blk_drew ?_ | refine blk_alloc ?_ _)); refine blk_put (cs := #[.int .i64 t511, .int .i64 0, .slice none 0 0]) ?_ 1 _ rfl; (with_reducible repeat (first | refine blk_drewN ?_ _ | refine blk_drew ?_ | refine blk_alloc ?_ _)); refine blk_put (cs := #[.int .i64 0, .int .i64 0, .slice none 0 0]) ?_ 0 _ rfl; (with_reducible repeat (first | refine blk_drewN ?_ _ | refine blk_drew ?_ | refine blk_alloc ?_ _)); exact BK518.out⟩
                                have n4_ : Aside0 (Below w.heap.size w (((w34.setCell ⟨gb518, 0, none⟩ (.int .i64 t511)).setCell ⟨gb518, 1, none⟩ (.int .i64 t512)).setCell ⟨gb518, 2, none⟩ (.slice Ao36 t513.length co36))) := ⟨by repeat (first | (with_reducible first | exact HB.out | apply below_alloc | apply pw_below_drewN | apply below_drew1 | refine below_set ?_ GE518.out) | exact HB.out)⟩
                                (try clear HO_3)
                                (try clear HO_4)
                                (try clear HO515)
                                (try clear BK518)
                                (try clear HB)
                                generalize (((w34.setCell ⟨gb518, 0, none⟩ (.int .i64 t511)).setCell ⟨gb518, 1, none⟩ (.int .i64 t512)).setCell ⟨gb518, 2, none⟩ (.slice Ao36 t513.length co36)) = w37 at n0_ n1_ n2_ n3_ n4_ ⊢
                                have HO_3 := n0_
                                have HO_4 := n1_
                                have HO515 := n2_
                                have BK518 := n3_
                                have HB := n4_
                                clear n0_ n1_ n2_ n3_ n4_
                                have n0_ := Aside0.mk (Kd.Q_drew HO_3.out)
                                have n1_ := Aside0.mk (Kd.N_drew HO_4.out)
                                have n2_ := Aside0.mk (Kd.R_drew HO515.out)
                                have n3_ := Aside0.mk (blk_drew BK518.out)
                                have n4_ := Aside0.mk (below_drew1 HB.out)
                                clear HO_3
                                clear HO_4
                                clear HO515
                                clear BK518
                                clear HB
                                have HO_3 := n0_
                                have HO_4 := n1_
                                have HO515 := n2_
                                have BK518 := n3_
                                have HB := n4_
                                clear n0_ n1_ n2_ n3_ n4_
                                have p519 : 0 ≤ (x8_3 : Int) := of_decide_eq_true (by first | (with_reducible assumption) | assumption)
                                have q519 : x8_3 < (x4_1.length : Int) := of_decide_eq_true (by first | (with_reducible assumption) | assumption)
                                obtain ⟨ad519, A519_2, c519_2, e519, hx519_0, hx519_1, hx519_2, hl519_2, hi519_2⟩ := at_T68 (Kd.N_reads' HO_4.out).2.2 x8_3 p519 q519
                                cases e519
                                obtain ⟨ce519, hce519, hMe519, hcc519⟩ := Kd.N_get HO_4.out z68 x8_3 p519 (by first | exact q519 | exact of_decide_eq_true (by first | (with_reducible assumption) | assumption) | (have e_ := (Kd.N_reads' HO_4.out).1; omega))
                                obtain ⟨ua519_2, uc519_2, rfl, ul519_2, ge519_2⟩ := k68_openF hMe519
                                have hv519_2 := hcc519 2 _ rfl
                                rw [add_field _ _ 2 (by omega)] at hv519_2
                                replace hv519_2 := Option.some.inj (hv519_2.symm.trans hx519_2)
                                injection hv519_2 with hva_ hvn_ hvc_
                                rw [hva_] at ge519_2
                                rw [hvc_] at ul519_2
                                have HL519_2 := Aside0.mk (show Kd.V (Kd.int .u8) 5 _ w.heap.size _ _ ((rd_T68 x4_1 x8_3).f2) from Kd.V_mk ul519_2 ge519_2)
                                clear hva_ hvn_ hvc_ ge519_2 ul519_2
                                clear hcc519 hce519
                                have HR519_2 := Aside0.mk hi519_2
                                have HC519_2 := Aside0.mk hl519_2
                                clear hi519_2 hl519_2
                                replace p519 := eq_true p519
                                replace q519 := eq_true q519
                                have p520 : 0 ≤ (x8_3 : Int) := of_decide_eq_true (by first | (with_reducible assumption) | assumption)
                                have q520 : x8_3 < (x4_1.length : Int) := of_decide_eq_true (by first | (with_reducible assumption) | assumption)
                                obtain ⟨ad520, A520_2, c520_2, e520, hx520_0, hx520_1, hx520_2, hl520_2, hi520_2⟩ := at_T68 (Kd.N_reads' HO_4.out).2.2 x8_3 p520 q520
                                obtain rfl : ad519 = ad520 := (by injection e520)
                                obtain ⟨ce520, hce520, hMe520, hcc520⟩ := Kd.N_get HO_4.out z68 x8_3 p520 (by first | exact q520 | exact of_decide_eq_true (by first | (with_reducible assumption) | assumption) | (have e_ := (Kd.N_reads' HO_4.out).1; omega))
                                obtain ⟨ua520_2, uc520_2, rfl, ul520_2, ge520_2⟩ := k68_openF hMe520
                                have hv520_2 := hcc520 2 _ rfl
                                rw [add_field _ _ 2 (by omega)] at hv520_2
                                replace hv520_2 := Option.some.inj (hv520_2.symm.trans hx520_2)
                                injection hv520_2 with hva_ hvn_ hvc_
                                rw [hva_] at ge520_2
                                rw [hvc_] at ul520_2
                                have HL520_2 := Aside0.mk (show Kd.V (Kd.int .u8) 5 _ w.heap.size _ _ ((rd_T68 x4_1 x8_3).f2) from Kd.V_mk ul520_2 ge520_2)
                                clear hva_ hvn_ hvc_ ge520_2 ul520_2
                                clear hcc520 hce520
                                have HR520_2 := Aside0.mk hi520_2
                                have HC520_2 := Aside0.mk hl520_2
                                clear hi520_2 hl520_2
                                replace p520 := eq_true p520
                                replace q520 := eq_true q520
                                have ea_ := Option.some.inj (hx519_2.symm.trans hx520_2)
                                injection ea_ with ea_ en_ ec_
                                subst ea_
                                subst ec_
                                clear en_
                                refine start_ (n := 28) (S := fun w' => w'.cell? ⟨gb518, 0, none⟩ = some (.int .i64 t511) ∧ w'.cell? ⟨gb518, 1, none⟩ = some (.int .i64 t512) ∧ w'.cell? ⟨gb518, 2, none⟩ = some (.slice Ao36 t513.length co36) ∧ w'.cell? (ad519.add ((x8_3).toNat * 3)) = some (.int .i64 ((rd_T68 x4_1 x8_3).f0)) ∧ w'.cell? ⟨(ad519.add ((x8_3).toNat * 3)).block, (ad519.add ((x8_3).toNat * 3)).off + 1, none⟩ = some (.int .i64 ((rd_T68 x4_1 x8_3).f1)) ∧ w'.cell? ⟨(ad519.add ((x8_3).toNat * 3)).block, (ad519.add ((x8_3).toNat * 3)).off + 2, none⟩ = some (.slice A519_2 ((rd_T68 x4_1 x8_3).f2).length c519_2) ∧ w'.cell? (ad519.add ((x8_3).toNat * 3)) = some (.int .i64 ((rd_T68 x4_1 x8_3).f0)) ∧ w'.cell? ⟨(ad519.add ((x8_3).toNat * 3)).block, (ad519.add ((x8_3).toNat * 3)).off + 1, none⟩ = some (.int .i64 ((rd_T68 x4_1 x8_3).f1)) ∧ w'.cell? ⟨(ad519.add ((x8_3).toNat * 3)).block, (ad519.add ((x8_3).toNat * 3)).off + 2, none⟩ = some (.slice A519_2 ((rd_T68 x4_1 x8_3).f2).length c519_2)) (ds := []) #[false, false, false, false, false, false, false, false, false, false, false, false, false, false, false, false, false, false, false, false, false, false, false, false, false, false, false, false] (by kernel_rfl) rfl rfl ⟨(blk_cell BK518.out 0).trans rfl, (blk_cell BK518.out 1).trans rfl, (blk_cell BK518.out 2).trans rfl, hx519_0, hx519_1, hx519_2, hx520_0, hx520_1, hx520_2⟩ (fun hHeld => ?_); refine with_tabW waybilllaw3_FramRows.tab18 waybilllaw3_FramRows.bits18 (fun HT_ HW_ => ?_)
                                generalize w37.drew = w38 at HO_3 HO_4 HO515 BK518 HB HL519_2 HL520_2 HR519_2 HR520_2 hx519_0 hx519_1 hx519_2 hx520_0 hx520_1 hx520_2 hHeld ⊢
                                refine pure_ (i := 0) (N := some 67) (v := ?_) (a' := ?_) #[true, false, false, false, false, false, false, false, false, false, false, false, false, false, false, false, false, false, false, false, false, false, false, false, false, false, false, false] rfl rfl (any_of HT_.out (by kernel_rfl)) (fun _ _ _ h => h) (Or.inl ⟨by rfl, ?_⟩) ?_ ?_
                                rotate_left
                                · intro w'
                                  go_simp
                                  with_reducible rfl
                                rotate_left
                                · simp only [Act.put, List.setIfInBounds_toArray, List.set_cons_zero, List.set_cons_succ, i64_w, i32_w]
                                  rfl
                                refine pure_ (i := 1) (N := some 68) (v := ?_) (a' := ?_) #[true, true, false, false, false, false, false, false, false, false, false, false, false, false, false, false, false, false, false, false, false, false, false, false, false, false, false, false] rfl rfl (any_of HT_.out (by kernel_rfl)) (fun _ _ _ h => h) (Or.inl ⟨by rfl, ?_⟩) ?_ ?_
                                rotate_left
                                · intro w'
                                  go_simp
                                  with_reducible rfl
                                rotate_left
                                · simp only [Act.put, List.setIfInBounds_toArray, List.set_cons_zero, List.set_cons_succ, i64_w, i32_w]
                                  rfl
                                refine pure_ (i := 2) (N := some 69) (v := ?_) (a' := ?_) #[true, true, true, false, false, false, false, false, false, false, false, false, false, false, false, false, false, false, false, false, false, false, false, false, false, false, false, false] rfl rfl (any_of HT_.out (by kernel_rfl)) (fun _ _ _ h => h) (Or.inl ⟨by rfl, ?_⟩) ?_ ?_
                                rotate_left
                                · intro w'
                                  go_simp
                                  with_reducible rfl
                                rotate_left
                                · simp only [Act.put, List.setIfInBounds_toArray, List.set_cons_zero, List.set_cons_succ, i64_w, i32_w]
                                  rfl
                                refine pure_ (i := 3) (N := some 70) (v := ?_) (a' := ?_) #[true, true, true, true, false, false, false, false, false, false, false, false, false, false, false, false, false, false, false, false, false, false, false, false, false, false, false, false] rfl rfl (any_of HT_.out (by kernel_rfl)) (fun _ _ _ h => h) (Or.inl ⟨by rfl, ?_⟩) ?_ ?_
                                rotate_left
                                · intro w'
                                  go_simp
                                  with_reducible rfl
                                rotate_left
                                · simp only [Act.put, List.setIfInBounds_toArray, List.set_cons_zero, List.set_cons_succ, i64_w, i32_w]
                                  rfl
                                refine pure_ (i := 4) (N := some 71) (v := ?_) (a' := ?_) #[true, true, true, true, true, false, false, false, false, false, false, false, false, false, false, false, false, false, false, false, false, false, false, false, false, false, false, false] rfl rfl (any_of HT_.out (by kernel_rfl)) (fun _ _ _ h => h) (Or.inl ⟨by rfl, ?_⟩) ?_ ?_
                                rotate_left
                                · intro w'
                                  go_simp
                                  with_reducible rfl
                                rotate_left
                                · simp only [Act.put, List.setIfInBounds_toArray, List.set_cons_zero, List.set_cons_succ, i64_w, i32_w]
                                  rfl
                                refine pure_ (i := 5) (N := some 72) (v := ?_) (a' := ?_) #[true, true, true, true, true, true, false, false, false, false, false, false, false, false, false, false, false, false, false, false, false, false, false, false, false, false, false, false] rfl rfl (any_of HT_.out (by kernel_rfl)) (fun _ _ _ h => h) (Or.inl ⟨by rfl, ?_⟩) ?_ ?_
                                rotate_left
                                · intro w'
                                  go_simp
                                  with_reducible rfl
                                rotate_left
                                · simp only [Act.put, List.setIfInBounds_toArray, List.set_cons_zero, List.set_cons_succ, i64_w, i32_w]
                                  rfl
                                refine pure_ (i := 6) (N := some 73) (v := ?_) (a' := ?_) #[true, true, true, true, true, true, true, false, false, false, false, false, false, false, false, false, false, false, false, false, false, false, false, false, false, false, false, false] rfl rfl (any_of HT_.out (by kernel_rfl)) (fun _ _ _ h => h) (Or.inl ⟨by rfl, ?_⟩) ?_ ?_
                                rotate_left
                                · intro w'
                                  go_simp
                                  with_reducible rfl
                                rotate_left
                                · simp only [Act.put, List.setIfInBounds_toArray, List.set_cons_zero, List.set_cons_succ, i64_w, i32_w]
                                  rfl
                                refine pure_ (i := 7) (N := some 74) (v := ?_) (a' := ?_) #[true, true, true, true, true, true, true, true, false, false, false, false, false, false, false, false, false, false, false, false, false, false, false, false, false, false, false, false] rfl rfl (any_of HT_.out (by kernel_rfl)) (fun _ _ _ h => h) (Or.inl ⟨by rfl, ?_⟩) ?_ ?_
                                rotate_left
                                · intro w'
                                  go_simp
                                  with_reducible rfl
                                rotate_left
                                · simp only [Act.put, List.setIfInBounds_toArray, List.set_cons_zero, List.set_cons_succ, i64_w, i32_w]
                                  rfl
                                refine take_ (i := 8) (N := some 75) (v := ?_) (a' := ?_) #[true, true, true, true, true, true, true, true, true, false, false, false, false, false, false, false, false, false, false, false, false, false, false, false, false, false, false, false] rfl rfl (take_ofW HT_.out HW_.out (by kernel_rfl)) (fun _ _ _ h => h) (Or.inl ⟨by rfl, ?_⟩) hHeld ?_ ?_
                                rotate_left
                                · rintro w' ⟨s0, s1, s2, s3, s4, s5, s6, s7, s8⟩
                                  go_simp
                                  with_reducible rfl
                                rotate_left
                                · simp only [Act.put, List.setIfInBounds_toArray, List.set_cons_zero, List.set_cons_succ, i64_w, i32_w]
                                  rfl
                                refine pure_ (i := 9) (N := some 76) (v := ?_) (a' := ?_) #[true, true, true, true, true, true, true, true, true, true, false, false, false, false, false, false, false, false, false, false, false, false, false, false, false, false, false, false] rfl rfl (any_of HT_.out (by kernel_rfl)) (fun _ _ _ h => h) (Or.inl ⟨by rfl, ?_⟩) ?_ ?_
                                rotate_left
                                · intro w'
                                  go_simp
                                  with_reducible rfl
                                rotate_left
                                · simp only [Act.put, List.setIfInBounds_toArray, List.set_cons_zero, List.set_cons_succ, i64_w, i32_w]
                                  rfl
                                refine pure_ (i := 10) (N := some 77) (v := ?_) (a' := ?_) #[true, true, true, true, true, true, true, true, true, true, true, false, false, false, false, false, false, false, false, false, false, false, false, false, false, false, false, false] rfl rfl (any_of HT_.out (by kernel_rfl)) (fun _ _ _ h => h) (Or.inl ⟨by rfl, ?_⟩) ?_ ?_
                                rotate_left
                                · intro w'
                                  go_simp
                                  with_reducible rfl
                                rotate_left
                                · simp only [Act.put, List.setIfInBounds_toArray, List.set_cons_zero, List.set_cons_succ, i64_w, i32_w]
                                  rfl
                                refine pure_ (i := 11) (N := some 78) (v := ?_) (a' := ?_) #[true, true, true, true, true, true, true, true, true, true, true, true, false, false, false, false, false, false, false, false, false, false, false, false, false, false, false, false] rfl rfl (any_of HT_.out (by kernel_rfl)) (fun _ _ _ h => h) (Or.inl ⟨by rfl, ?_⟩) ?_ ?_
                                rotate_left
                                · intro w'
                                  go_simp
                                  with_reducible rfl
                                rotate_left
                                · simp only [Act.put, List.setIfInBounds_toArray, List.set_cons_zero, List.set_cons_succ, i64_w, i32_w]
                                  rfl
                                refine pure_ (i := 12) (N := some 79) (v := ?_) (a' := ?_) #[true, true, true, true, true, true, true, true, true, true, true, true, true, false, false, false, false, false, false, false, false, false, false, false, false, false, false, false] rfl rfl (any_of HT_.out (by kernel_rfl)) (fun _ _ _ h => h) (Or.inl ⟨by rfl, ?_⟩) ?_ ?_
                                rotate_left
                                · intro w'
                                  go_simp
                                  with_reducible rfl
                                rotate_left
                                · simp only [Act.put, List.setIfInBounds_toArray, List.set_cons_zero, List.set_cons_succ, i64_w, i32_w]
                                  rfl
                                refine pure_ (i := 13) (N := some 80) (v := ?_) (a' := ?_) #[true, true, true, true, true, true, true, true, true, true, true, true, true, true, false, false, false, false, false, false, false, false, false, false, false, false, false, false] rfl rfl (any_of HT_.out (by kernel_rfl)) (fun _ _ _ h => h) (Or.inl ⟨by rfl, ?_⟩) ?_ ?_
                                rotate_left
                                · intro w'
                                  go_simp
                                  with_reducible rfl
                                rotate_left
                                · simp only [Act.put, List.setIfInBounds_toArray, List.set_cons_zero, List.set_cons_succ, i64_w, i32_w]
                                  rfl
                                refine pure_ (i := 14) (N := some 81) (v := ?_) (a' := ?_) #[true, true, true, true, true, true, true, true, true, true, true, true, true, true, true, false, false, false, false, false, false, false, false, false, false, false, false, false] rfl rfl (any_of HT_.out (by kernel_rfl)) (fun _ _ _ h => h) (Or.inl ⟨by rfl, ?_⟩) ?_ ?_
                                rotate_left
                                · intro w'
                                  go_simp
                                  with_reducible rfl
                                rotate_left
                                · simp only [Act.put, List.setIfInBounds_toArray, List.set_cons_zero, List.set_cons_succ, i64_w, i32_w]
                                  rfl
                                refine pure_ (i := 15) (N := some 82) (v := ?_) (a' := ?_) #[true, true, true, true, true, true, true, true, true, true, true, true, true, true, true, true, false, false, false, false, false, false, false, false, false, false, false, false] rfl rfl (any_of HT_.out (by kernel_rfl)) (fun _ _ _ h => h) (Or.inl ⟨by rfl, ?_⟩) ?_ ?_
                                rotate_left
                                · intro w'
                                  go_simp
                                  with_reducible rfl
                                rotate_left
                                · simp only [Act.put, List.setIfInBounds_toArray, List.set_cons_zero, List.set_cons_succ, i64_w, i32_w]
                                  rfl
                                refine pure_ (i := 16) (N := some 83) (v := ?_) (a' := ?_) #[true, true, true, true, true, true, true, true, true, true, true, true, true, true, true, true, true, false, false, false, false, false, false, false, false, false, false, false] rfl rfl (any_of HT_.out (by kernel_rfl)) (fun _ _ _ h => h) (Or.inl ⟨by rfl, ?_⟩) ?_ ?_
                                rotate_left
                                · intro w'
                                  go_simp
                                  with_reducible rfl
                                rotate_left
                                · simp only [Act.put, List.setIfInBounds_toArray, List.set_cons_zero, List.set_cons_succ, i64_w, i32_w]
                                  rfl
                                refine pure_ (i := 17) (N := some 84) (v := ?_) (a' := ?_) #[true, true, true, true, true, true, true, true, true, true, true, true, true, true, true, true, true, true, false, false, false, false, false, false, false, false, false, false] rfl rfl (any_of HT_.out (by kernel_rfl)) (fun _ _ _ h => h) (Or.inl ⟨by rfl, ?_⟩) ?_ ?_
                                rotate_left
                                · intro w'
                                  go_simp
                                  with_reducible rfl
                                rotate_left
                                · simp only [Act.put, List.setIfInBounds_toArray, List.set_cons_zero, List.set_cons_succ, i64_w, i32_w]
                                  rfl
                                refine pure_ (i := 18) (N := some 85) (v := ?_) (a' := ?_) #[true, true, true, true, true, true, true, true, true, true, true, true, true, true, true, true, true, true, true, false, false, false, false, false, false, false, false, false] rfl rfl (any_of HT_.out (by kernel_rfl)) (fun _ _ _ h => h) (Or.inl ⟨by rfl, ?_⟩) ?_ ?_
                                rotate_left
                                · intro w'
                                  go_simp
                                  with_reducible rfl
                                rotate_left
                                · simp only [Act.put, List.setIfInBounds_toArray, List.set_cons_zero, List.set_cons_succ, i64_w, i32_w]
                                  rfl
                                refine pure_ (i := 19) (N := some 86) (v := ?_) (a' := ?_) #[true, true, true, true, true, true, true, true, true, true, true, true, true, true, true, true, true, true, true, true, false, false, false, false, false, false, false, false] rfl rfl (any_of HT_.out (by kernel_rfl)) (fun _ _ _ h => h) (Or.inl ⟨by rfl, ?_⟩) ?_ ?_
                                rotate_left
                                · intro w'
                                  go_simp
                                  with_reducible rfl
                                rotate_left
                                · simp only [Act.put, List.setIfInBounds_toArray, List.set_cons_zero, List.set_cons_succ, i64_w, i32_w]
                                  rfl
                                refine pure_ (i := 21) (N := some 88) (v := ?_) (a' := ?_) #[true, true, true, true, true, true, true, true, true, true, true, true, true, true, true, true, true, true, true, true, false, true, false, false, false, false, false, false] rfl rfl (any_of HT_.out (by kernel_rfl)) (fun _ _ _ h => h) (Or.inl ⟨by rfl, ?_⟩) ?_ ?_
                                rotate_left
                                · intro w'
                                  go_simp
                                  with_reducible rfl
                                rotate_left
                                · simp only [Act.put, List.setIfInBounds_toArray, List.set_cons_zero, List.set_cons_succ, i64_w, i32_w]
                                  rfl
                                refine pure_ (i := 22) (N := some 89) (v := ?_) (a' := ?_) #[true, true, true, true, true, true, true, true, true, true, true, true, true, true, true, true, true, true, true, true, false, true, true, false, false, false, false, false] rfl rfl (any_of HT_.out (by kernel_rfl)) (fun _ _ _ h => h) (Or.inl ⟨by rfl, ?_⟩) ?_ ?_
                                rotate_left
                                · intro w'
                                  go_simp
                                  with_reducible rfl
                                rotate_left
                                · simp only [Act.put, List.setIfInBounds_toArray, List.set_cons_zero, List.set_cons_succ, i64_w, i32_w]
                                  rfl
                                refine pure_ (i := 23) (N := some 90) (v := ?_) (a' := ?_) #[true, true, true, true, true, true, true, true, true, true, true, true, true, true, true, true, true, true, true, true, false, true, true, true, false, false, false, false] rfl rfl (any_of HT_.out (by kernel_rfl)) (fun _ _ _ h => h) (Or.inl ⟨by rfl, ?_⟩) ?_ ?_
                                rotate_left
                                · intro w'
                                  go_simp
                                  with_reducible rfl
                                rotate_left
                                · simp only [Act.put, List.setIfInBounds_toArray, List.set_cons_zero, List.set_cons_succ, i64_w, i32_w]
                                  rfl
                                refine take_ (i := 20) (N := some 87) (v := ?_) (a' := ?_) #[true, true, true, true, true, true, true, true, true, true, true, true, true, true, true, true, true, true, true, true, true, true, true, true, false, false, false, false] rfl rfl (take_ofW HT_.out HW_.out (by kernel_rfl)) (fun _ _ _ h => h) (Or.inl ⟨by rfl, ?_⟩) hHeld ?_ ?_
                                rotate_left
                                · rintro w' ⟨s0, s1, s2, s3, s4, s5, s6, s7, s8⟩
                                  go_simp
                                  with_reducible rfl
                                rotate_left
                                · simp only [Act.put, List.setIfInBounds_toArray, List.set_cons_zero, List.set_cons_succ, i64_w, i32_w]
                                  rfl
                                refine take_ (i := 24) (N := some 91) (v := ?_) (a' := ?_) #[true, true, true, true, true, true, true, true, true, true, true, true, true, true, true, true, true, true, true, true, true, true, true, true, true, false, false, false] rfl rfl (take_ofW HT_.out HW_.out (by kernel_rfl)) (fun _ _ _ h => h) (Or.inl ⟨by rfl, ?_⟩) hHeld ?_ ?_
                                rotate_left
                                · rintro w' ⟨s0, s1, s2, s3, s4, s5, s6, s7, s8⟩
                                  go_simp
                                  with_reducible rfl
                                rotate_left
                                · simp only [Act.put, List.setIfInBounds_toArray, List.set_cons_zero, List.set_cons_succ, i64_w, i32_w]
                                  rfl
                                refine one_ (i := 25) (N := some 92) #[true, true, true, true, true, true, true, true, true, true, true, true, true, true, true, true, true, true, true, true, true, true, true, true, true, true, false, false] rfl rfl (one_of HT_.out (by kernel_rfl)) (by decide) (fun K hK => ?_)
                                refine goes_ Try.func41 (by kernel_rfl) rfl #[.agg #[.int .i64 t511, .int .i64 t512, .slice Ao36 t513.length co36], .agg #[.int .i64 ((rd_T68 x4_1 x8_3).f0), .int .i64 ((rd_T68 x4_1 x8_3).f1), .slice A519_2 ((rd_T68 x4_1 x8_3).f2).length c519_2]] (by rfl) rfl rfl (by (try simp only [List.map_toArray, List.map_cons, List.map_nil]); first | done | rfl | (simp only [List.length_drop, List.length_take]; rfl)) ?_
                                with_reducible refine (waybilllaw3_Same.calls t511 t512 _ _ t513 ((rd_T68 x4_1 x8_3).f0) ((rd_T68 x4_1 x8_3).f1) _ _ ((rd_T68 x4_1 x8_3).f2) true _ ?side1 ?side2 ?side3 ?side4 A27.out).mono ?_
                                (case side1 => repeat (first | exact (Kd.R_reads' HO515.out).2.2 | (with_reducible refine Kd.C_alloc ?_ _) | (with_reducible refine Kd.C_drewN ?_ _) | (with_reducible refine Kd.C_drew ?_)))
                                (case side2 => exact (Kd.R_reads' HO515.out).2.1)
                                (case side3 => repeat (first | exact (by repeat (first | (with_reducible exact HR520_2.out) | (with_reducible refine Kd.C_alloc ?_ _) | (with_reducible refine Kd.C_drewN ?_ _) | (with_reducible refine Kd.C_drew ?_) | exact HR520_2.out)) | (with_reducible refine Kd.C_alloc ?_ _) | (with_reducible refine Kd.C_drewN ?_ _) | (with_reducible refine Kd.C_drew ?_)))
                                (case side4 => exact HC520_2.out)
                                rintro e w39 ⟨rfl, hb⟩
                                have HS3_ := (hb.cell (World.block_lt_of_cell? _ _ (hHeld.2.2.2.1))).trans (hHeld.2.2.2.1)
                                have HS4_ := (hb.cell (World.block_lt_of_cell? _ _ (hHeld.2.2.2.2.1))).trans (hHeld.2.2.2.2.1)
                                have HS5_ := (hb.cell (World.block_lt_of_cell? _ _ (hHeld.2.2.2.2.2.1))).trans (hHeld.2.2.2.2.2.1)
                                have HS6_ := (hb.cell (World.block_lt_of_cell? _ _ (hHeld.2.2.2.2.2.2.1))).trans (hHeld.2.2.2.2.2.2.1)
                                have HS7_ := (hb.cell (World.block_lt_of_cell? _ _ (hHeld.2.2.2.2.2.2.2.1))).trans (hHeld.2.2.2.2.2.2.2.1)
                                have HS8_ := (hb.cell (World.block_lt_of_cell? _ _ (hHeld.2.2.2.2.2.2.2.2))).trans (hHeld.2.2.2.2.2.2.2.2)
                                refine ⟨_, rfl, ?_⟩
                                have n0_ := Aside0.mk (Kd.Q_below (by (with_reducible repeat (first | apply Kd.Q_alloc | apply Kd.Q_drewN | apply Kd.Q_drew)); exact HO_3.out) hb)
                                have n1_ := Aside0.mk (Kd.N_below (by (with_reducible repeat (first | apply Kd.N_alloc | apply Kd.N_drewN | apply Kd.N_drew)); exact HO_4.out) hb)
                                have n2_ := Aside0.mk (Kd.R_below (by (with_reducible repeat (first | apply Kd.R_alloc | apply Kd.R_drewN | apply Kd.R_drew)); exact HO515.out) hb)
                                have n3_ := Aside0.mk (Kd.V_below (by (with_reducible repeat (first | apply Kd.V_alloc | apply Kd.V_drewN | apply Kd.V_drew)); exact HL519_2.out) hb)
                                have n4_ := Aside0.mk (Kd.V_below (by (with_reducible repeat (first | apply Kd.V_alloc | apply Kd.V_drewN | apply Kd.V_drew)); exact HL520_2.out) hb)
                                have n5_ := Aside0.mk (blk_below (g := gb518) (o := .cells #[.int .i64 t511, .int .i64 t512, .slice Ao36 t513.length co36] 68 (0, 0)) (by (with_reducible repeat (first | refine blk_drewN ?_ _ | refine blk_drew ?_ | refine blk_alloc ?_ _)); exact BK518.out) hb)
                                have n6_ := Aside0.mk (Kd.C_below (by repeat (first | (with_reducible exact HR519_2.out) | (with_reducible refine Kd.C_alloc ?_ _) | (with_reducible refine Kd.C_drewN ?_ _) | (with_reducible refine Kd.C_drew ?_) | exact HR519_2.out)) hb)
                                have n7_ := Aside0.mk (Kd.C_below (by repeat (first | (with_reducible exact HR520_2.out) | (with_reducible refine Kd.C_alloc ?_ _) | (with_reducible refine Kd.C_drewN ?_ _) | (with_reducible refine Kd.C_drew ?_) | exact HR520_2.out)) hb)
                                have n8_ := Aside0.mk (below_step (by repeat (first | (with_reducible first | exact HB.out | apply below_alloc | apply pw_below_drewN | apply below_drew1 | refine below_set ?_ GE518.out) | exact HB.out)) hb)
                                clear HO_3
                                clear HO_4
                                clear HO515
                                clear HL519_2
                                clear HL520_2
                                clear BK518
                                clear HR519_2
                                clear HR520_2
                                clear HB
                                have HO_3 := n0_
                                have HO_4 := n1_
                                have HO515 := n2_
                                have HL519_2 := n3_
                                have HL520_2 := n4_
                                have BK518 := n5_
                                have HR519_2 := n6_
                                have HR520_2 := n7_
                                have HB := n8_
                                clear n0_ n1_ n2_ n3_ n4_ n5_ n6_ n7_ n8_
                                (try clear hb)
                                (try clear hb2)
                                (try clear hk)
                                (try clear hi)
                                (try clear hge)
                                refine hK.out _ _ ⟨(blk_cell BK518.out 0).trans rfl, (blk_cell BK518.out 1).trans rfl, (blk_cell BK518.out 2).trans rfl, HS3_, HS4_, HS5_, HS6_, HS7_, HS8_⟩ (fun hHeld => ?_)
                                clear hK K
                                refine norm_ (a' := ?_) ?_ ?_
                                rotate_left
                                · show Act.put _ (some 92) _ = _
                                  simp only [Act.put, List.setIfInBounds_toArray, List.set_cons_zero, List.set_cons_succ, i64_w, i32_w]
                                  rfl
                                refine pure_ (i := 26) (N := some 93) (v := ?_) (a' := ?_) #[true, true, true, true, true, true, true, true, true, true, true, true, true, true, true, true, true, true, true, true, true, true, true, true, true, true, true, false] rfl rfl (any_of HT_.out (by kernel_rfl)) (fun _ _ _ h => h) (Or.inl ⟨by rfl, ?_⟩) ?_ ?_
                                rotate_left
                                · intro w'
                                  go_simp
                                  with_reducible rfl
                                rotate_left
                                · simp only [Act.put, List.setIfInBounds_toArray, List.set_cons_zero, List.set_cons_succ, i64_w, i32_w]
                                  rfl
                                refine pure_ (i := 27) (N := some 94) (v := ?_) (a' := ?_) #[true, true, true, true, true, true, true, true, true, true, true, true, true, true, true, true, true, true, true, true, true, true, true, true, true, true, true, true] rfl rfl (any_of HT_.out (by kernel_rfl)) (fun _ _ _ h => h) (Or.inl ⟨by rfl, ?_⟩) ?_ ?_
                                rotate_left
                                · intro w'
                                  go_simp
                                  with_reducible rfl
                                rotate_left
                                · simp only [Act.put, List.setIfInBounds_toArray, List.set_cons_zero, List.set_cons_succ, i64_w, i32_w]
                                  rfl
                                refine done_ (done_of HT_.out (by kernel_rfl)) ?_
                                have q40 : (t516 : Int) ≤ ((x3_3.length : Int) : Int) := of_decide_eq_true (by first | (with_reducible assumption) | assumption)
                                obtain ⟨i040, hi040, _, hsz40, _⟩ := info_parts info5
                                have hcut40 := cut_from (P := Try.prog) 26 5 .i64 Try.underlying26 hi040 1 hsz40 Ao32 x3_3.length co32 t516 (of_decide_eq_true (by first | (with_reducible assumption) | assumption)) q40
                                have hr40 := Kd.Q_drop (k := (t516 : Int).toNat) HO_3.out (by omega)
                                obtain ⟨A40, hA40⟩ : ∃ A1, A1 = (if co32 = (t516 : Int).toNat then Ao32 else (Ao32 : Option Addr).map (·.add ((t516 : Int).toNat * 1))) := ⟨_, rfl⟩
                                obtain ⟨c40, hc40⟩ : ∃ c1, c1 = co32 - (t516 : Int).toNat := ⟨_, rfl⟩
                                have hy40 : y522.length = x3_3.length - (t516 : Int).toNat := (by rw [Ny522.out, List.length_drop])
                                rw [← Ny522.out] at hr40
                                rw [← hy40, ← hA40, ← hc40] at hcut40
                                replace hr40 : Kd.Q (Kd.int .u8) 5 w39 w.heap.size (fun k_ => (w.heap.size ≤ k_) ∧ some k_ ≠ (.slice Ao36 t513.length co36 : Value).ownBlock) (.slice A40 y522.length c40) y522 := (by rw [hA40, hc40, hy40]; exact hr40)
                                have HE40 : Aside0 ((Value.slice A40 y522.length c40).ownBlock = (.slice Ao32 x3_3.length co32 : Value).ownBlock) := ⟨by rw [hA40]; split <;> (cases (Ao32 : Option Addr) <;> first | rfl | (simp only [Option.map_some, Value.ownBlock, Addr.add]; split <;> rfl))⟩
                                clear hy40 hi040 hsz40 HO_3 hA40 hc40
                                have HO524 := Aside0.mk hr40
                                clear hr40
                                replace q40 := eq_true q40
                                have n_ := Aside0.mk (Kd.N_mono (ok' := fun k_ => (((P0_ k_ ∨ w.heap.size ≤ k_)) ∧ (some k_ ≠ (.slice A40 y522.length c40 : Value).ownBlock ∧ (some k_ ≠ (.slice Ao36 t513.length co36 : Value).ownBlock ∧ k_ ≠ gb518)))) HO_4.out (fun k_ hk => ⟨hk.1, ⟨(by rw [HE40.out]; exact hk.2.1), ⟨hk.2.2.1, hk.2.2.2⟩⟩⟩))
                                clear HO_4
                                have HO_4 := n_
                                clear n_
                                have n_ := Aside0.mk (Kd.R_mono (ok' := fun k_ => (((w.heap.size ≤ k_)) ∧ some k_ ≠ (.slice A40 y522.length c40 : Value).ownBlock)) HO515.out (fun k_ hk => ⟨hk.1, (by rw [HE40.out]; exact hk.2)⟩))
                                clear HO515
                                have HO515 := n_
                                clear n_
                                have n_ := Aside0.mk (Kd.V_mono (ok' := fun k_ => ((((P0_ k_ ∨ w.heap.size ≤ k_)) ∧ (some k_ ≠ (.slice A40 y522.length c40 : Value).ownBlock ∧ (some k_ ≠ (.slice Ao36 t513.length co36 : Value).ownBlock ∧ k_ ≠ gb518))) ∧ some k_ ≠ (.slice (some ad519) x4_1.length co31 : Value).ownBlock)) HL519_2.out (fun k_ hk => ⟨⟨hk.1.1, ⟨(by rw [HE40.out]; exact hk.1.2.1), ⟨hk.1.2.2.1, hk.1.2.2.2⟩⟩⟩, hk.2⟩))
                                clear HL519_2
                                have HL519_2 := n_
                                clear n_
                                have n_ := Aside0.mk (Kd.V_mono (ok' := fun k_ => ((((P0_ k_ ∨ w.heap.size ≤ k_)) ∧ (some k_ ≠ (.slice A40 y522.length c40 : Value).ownBlock ∧ (some k_ ≠ (.slice Ao36 t513.length co36 : Value).ownBlock ∧ k_ ≠ gb518))) ∧ some k_ ≠ (.slice (some ad519) x4_1.length co31 : Value).ownBlock)) HL520_2.out (fun k_ hk => ⟨⟨hk.1.1, ⟨(by rw [HE40.out]; exact hk.1.2.1), ⟨hk.1.2.2.1, hk.1.2.2.2⟩⟩⟩, hk.2⟩))
                                clear HL520_2
                                have HL520_2 := n_
                                clear n_
                                try go_wp2
                                go_roundg k3
                                case measure => have := HK1.out; have := HJ1.out; have := HK3.out; omega
                                case rel => exact ⟨(y522), (wrap64 (x8_3 + 1)), (by first | rfl | (simp; done) | (simp [*]; done)), H', ⟨by have := HK1.out; have := HJ1.out; have := HK3.out; omega⟩, ⟨by (with_reducible repeat (first | apply Kd.Q_alloc | apply Kd.Q_drewN | apply Kd.Q_drew)); exact Kd.Q_mono HO524.out (fun _ hk => hk.1)⟩, ⟨by (with_reducible repeat (first | apply Kd.N_alloc | apply Kd.N_drewN | apply Kd.N_drew)); exact Kd.N_mono HO_4.out (fun _ hk => ⟨hk.1, hk.2.1⟩)⟩, ⟨by repeat (first | (with_reducible first | exact HB.out | apply below_alloc | apply pw_below_drewN | apply below_drew1 | refine below_set ?_ GE518.out) | exact HB.out)⟩⟩
                              · rw [if_neg c30] at H
                                exact absurd H (by simp)
                            · rw [if_neg c29] at H
                              exact absurd H (by simp)
                          · replace c28 := Bool.eq_false_iff.mpr c28
                            subst c28
                            have H1 : (none) = some r := by rw [if_neg (show ¬ (false = true) by decide)] at H; exact H
                            clear H
                            have H := H1
                            clear H1
                            exact absurd H (by simp)
                      · rw [if_neg c25] at H
                        have c25b0 : (t516 == (wrap64 (8 + (((rd_T68 x4_1 x8_3).f2).length : Int)))) = false := beq_eq_false_iff_ne.mpr c25
                        have c25b1 : (t516 != (wrap64 (8 + (((rd_T68 x4_1 x8_3).f2).length : Int)))) = true := bne_iff_ne.mpr c25
                        exact absurd H (by simp)
                    · rw [if_neg c24] at H
                      exact absurd H (by simp)
                  · rw [if_neg c23] at H
                    have c23b0 : (t517 == 0) = false := beq_eq_false_iff_ne.mpr c23
                    have c23b1 : (t517 != 0) = true := bne_iff_ne.mpr c23
                    exact absurd H (by simp)
                · rw [if_neg c21] at H
                  have c21b0 : decide (x8_3 < (x4_1.length : Int)) = false := decide_eq_false c21
                  clear c21
                  by_cases c41 : (x3_3.length : Int) = 0
                  · rw [if_pos c41] at H
                    have c41b0 : ((x3_3.length : Int) == 0) = true := beq_iff_eq.mpr c41
                    have c41b1 : ((x3_3.length : Int) != 0) = false := bne_eq_false_iff_eq.mpr c41
                    clear c41
                    replace H := Option.bind_eq_some_iff.mp H
                    obtain ⟨t510, A420, H⟩ := H
                    replace H : (some t510) = some r := H
                    have A42 := Aside0.mk A420
                    clear A420
                    obtain rfl := Option.some.inj H
                    obtain ⟨Ao43, co43, eo43⟩ := Kd.N_slice HO_4.out
                    subst eo43
                    obtain ⟨Ao44, co44, eo44, _⟩ := Kd.Q_slice HO_3.out
                    subst eo44
                    go_wp2_with (first | (go_at_call 38; (with_reducible refine (waybilllaw3_awake.calls k3  t510 _ A42.out).mono ?_); rintro e w45 ⟨rfl, hb⟩; have n0_ := Aside0.mk (Kd.Q_below (by (with_reducible repeat (first | apply Kd.Q_alloc | apply Kd.Q_drewN | apply Kd.Q_drew)); exact HO_3.out) hb); have n1_ := Aside0.mk (Kd.N_below (by (with_reducible repeat (first | apply Kd.N_alloc | apply Kd.N_drewN | apply Kd.N_drew)); exact HO_4.out) hb); have n2_ := Aside0.mk (below_step (by repeat (first | (with_reducible first | exact HB.out | apply below_alloc | apply pw_below_drewN | apply below_drew1) | exact HB.out)) hb); clear HO_3; clear HO_4; clear HB; have HO_3 := n0_; have HO_4 := n1_; have HB := n2_; clear n0_ n1_ n2_; (try clear hb); (try clear hb2); (try clear hk); (try clear hi); (try clear hge)))
                    all_goals first | (go_ret; exact ⟨by first | rfl | (simp [errW_none, errW_some]; done) | (simp [errW_none, errW_some]; rfl) | (simp [*, errW_none, errW_some]; done) | (simp [*, errW_none, errW_some]; rfl), by repeat (first | (with_reducible first | exact HB.out | apply below_alloc | apply pw_below_drewN | apply below_drew1) | exact HB.out)⟩) | (exfalso; simp_all; done)
                  · rw [if_neg c41] at H
                    exact absurd H (by simp)

end Go.Proofs.Ytlhcjgmdcnmnnaa.PA
