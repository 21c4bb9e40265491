/- What functions of the given program come to, and that they do: written out of the translation by a program of this session; Lean checks it. -/
import Derived.Test.YtpjkaodbcclecaaPAx0
import Derived.Test.YtpjkaodbcclecaaPAx18
import Derived.Test.YtpjkaodbcclecaaPAx22
namespace Go.Proofs.Ytpjkaodbcclecaa.PA
open Go.RowKit Go.Proofs.YtpjkaodbcclecaaW.PrintWords Go.Proofs.YtpjkaodbcclecaaW.PrintLast Go.Proofs.YtpjkaodbcclecaaW.PrintMore
attribute [local go_sem] max2_int min2_int max_two min_two max_three min_three max_four min_four   -- for this text's walks alone
set_option linter.unusedVariables false
set_option linter.unusedSimpArgs false

/-! ### waybilllaw13_UnitBounds: function 5 -/
mutual
def waybilllaw13_UnitBounds.l0 : Nat → Int → Int → Int → ByteArray → Int → Option (Bool)
  | 0, _, _, _, _, _ => none
  | k + 1, x0, x1, x2, x7, x8 => if x8 < x0 then (if x7.size + 1 ≤ 9223372036854775807 then (waybilllaw13_UnitBounds.l0 k x0 x1 x2 (x7 ++ (⟨#[107]⟩ : ByteArray)) (wrap64 (x8 + 1))) else (none)) else (if 0 ≤ x1 then (if (x1 : Int).toNat ≤ 281474976710656 then ((unit_Append.f k (([(⟨x7, false, (List.replicate (x1 : Int).toNat 0)⟩ : S38)] : List (S38)))).bind fun bt650 => ((unit_Append.f k (([(⟨(⟨#[107]⟩ : ByteArray), true, (([120] : List Int))⟩ : S38)] : List (S38)))).bind fun bt660 => ((unit_Append.f k (([(⟨(⟨#[]⟩ : ByteArray), false, ([] : List Int)⟩ : S38)] : List (S38)))).bind fun bt667 => (waybilllaw13_UnitBounds.l1 k x0 x1 x2 bt650.1 bt650.2 bt660.2 bt667.2 ([] : List (S38)) 0)))) else (none)) else (none))
def waybilllaw13_UnitBounds.l1 : Nat → Int → Int → Int → List Int → Bool → Bool → Bool → List (S38) → Int → Option (Bool)
  | 0, _, _, _, _, _, _, _, _, _ => none
  | k + 1, x0, x1, x2, x10, x11, x13, x15, x16, x17 => if x17 < x2 then (if 9993 ≤ 281474976710656 then (if x16.length < 2932031007402 then (waybilllaw13_UnitBounds.l1 k x0 x1 x2 x10 x11 x13 x15 (x16 ++ [(⟨(⟨#[107]⟩ : ByteArray), false, (List.replicate 9993 0)⟩ : S38)]) (wrap64 (x17 + 1))) else (none)) else (none)) else ((unit_Append.f k x16).bind fun bt677 => (if x0 ≤ 130 then (if (x11 == (decide (x1 ≤ 11000))) = true then (if x11 = true then (if (x10.length : Int) = (wrap64 ((wrap64 (6 + x0)) + x1)) then (if x13 = true then (none) else (if x15 = true then (none) else (if (bt677.2 == (decide (x2 ≤ 19))) = true then (if bt677.2 = true then (if (bt677.1.length : Int) = (wrap64 (10000 * x2)) then ((waybilllaw13_awake.f k).bind fun t681 => (some t681)) else (none)) else ((waybilllaw13_awake.f k).bind fun t682 => (some t682))) else (none)))) else (none)) else (if x13 = true then (none) else (if x15 = true then (none) else (if (bt677.2 == (decide (x2 ≤ 19))) = true then (if bt677.2 = true then (if (bt677.1.length : Int) = (wrap64 (10000 * x2)) then ((waybilllaw13_awake.f k).bind fun t683 => (some t683)) else (none)) else ((waybilllaw13_awake.f k).bind fun t684 => (some t684))) else (none))))) else (none)) else (if (x11 == false) = true then (if x11 = true then (if (x10.length : Int) = (wrap64 ((wrap64 (6 + x0)) + x1)) then (if x13 = true then (none) else (if x15 = true then (none) else (if (bt677.2 == (decide (x2 ≤ 19))) = true then (if bt677.2 = true then (if (bt677.1.length : Int) = (wrap64 (10000 * x2)) then ((waybilllaw13_awake.f k).bind fun t685 => (some t685)) else (none)) else ((waybilllaw13_awake.f k).bind fun t686 => (some t686))) else (none)))) else (none)) else (if x13 = true then (none) else (if x15 = true then (none) else (if (bt677.2 == (decide (x2 ≤ 19))) = true then (if bt677.2 = true then (if (bt677.1.length : Int) = (wrap64 (10000 * x2)) then ((waybilllaw13_awake.f k).bind fun t687 => (some t687)) else (none)) else ((waybilllaw13_awake.f k).bind fun t688 => (some t688))) else (none))))) else (none))))
end
def waybilllaw13_UnitBounds.f (k : Nat) (a0 : Int) (a1 : Int) (a2 : Int) : Option (Bool) := waybilllaw13_UnitBounds.l0 k (wrap64 (127 + (Go.bits .and .i64 a0 7))) (wrap64 (10996 + (Go.bits .and .i64 a1 7))) (Go.bits .and .i64 a2 31) (⟨#[]⟩ : ByteArray) 0
theorem waybilllaw13_UnitBounds.mono_l : ∀ k, (∀ y0 y1 y2 y3 y4, LeO (waybilllaw13_UnitBounds.l0 k y0 y1 y2 y3 y4) (waybilllaw13_UnitBounds.l0 (k + 1) y0 y1 y2 y3 y4)) ∧ (∀ y0 y1 y2 y3 y4 y5 y6 y7 y8, LeO (waybilllaw13_UnitBounds.l1 k y0 y1 y2 y3 y4 y5 y6 y7 y8) (waybilllaw13_UnitBounds.l1 (k + 1) y0 y1 y2 y3 y4 y5 y6 y7 y8))
  | 0 => ⟨fun _ _ _ _ _ r h => by simp [waybilllaw13_UnitBounds.l0] at h, fun _ _ _ _ _ _ _ _ _ r h => by simp [waybilllaw13_UnitBounds.l1] at h⟩
  | k + 1 => by
    obtain ⟨ih0, ih1⟩ := waybilllaw13_UnitBounds.mono_l k
    refine ⟨?_, ?_⟩
    · intro y0 y1 y2 y3 y4
      unfold waybilllaw13_UnitBounds.l0
      repeat' first
      | (with_reducible exact ih0 _ _ _ _ _)
      | (with_reducible exact ih1 _ _ _ _ _ _ _ _ _)
      | (with_reducible exact unit_Append.mono _ _)
      | (with_reducible exact waybilllaw13_awake.mono _)
      | (with_reducible exact LeO.refl _)
      | (with_reducible exact LeO.none _)
      | (with_reducible refine LeO.ite ?_ ?_)
      | (with_reducible refine LeO.bind ?_ (fun _ => ?_))
      | exact ih0 _ _ _ _ _
      | exact ih1 _ _ _ _ _ _ _ _ _
      | exact unit_Append.mono _ _
      | exact waybilllaw13_awake.mono _
      | exact LeO.none _
      | refine LeO.ite ?_ ?_
      | refine LeO.bind ?_ (fun _ => ?_)
    · intro y0 y1 y2 y3 y4 y5 y6 y7 y8
      unfold waybilllaw13_UnitBounds.l1
      repeat' first
      | (with_reducible exact ih0 _ _ _ _ _)
      | (with_reducible exact ih1 _ _ _ _ _ _ _ _ _)
      | (with_reducible exact unit_Append.mono _ _)
      | (with_reducible exact waybilllaw13_awake.mono _)
      | (with_reducible exact LeO.refl _)
      | (with_reducible exact LeO.none _)
      | (with_reducible refine LeO.ite ?_ ?_)
      | (with_reducible refine LeO.bind ?_ (fun _ => ?_))
      | exact ih0 _ _ _ _ _
      | exact ih1 _ _ _ _ _ _ _ _ _
      | exact unit_Append.mono _ _
      | exact waybilllaw13_awake.mono _
      | exact LeO.none _
      | refine LeO.ite ?_ ?_
      | refine LeO.bind ?_ (fun _ => ?_)
theorem waybilllaw13_UnitBounds.mono : ∀ a0 a1 a2 k, LeO (waybilllaw13_UnitBounds.f k a0 a1 a2) (waybilllaw13_UnitBounds.f (k + 1) a0 a1 a2) := by
  intro a0 a1 a2 k
  obtain ⟨ih0, ih1⟩ := waybilllaw13_UnitBounds.mono_l k
  unfold waybilllaw13_UnitBounds.f
  repeat' first
      | (with_reducible exact ih0 _ _ _ _ _)
      | (with_reducible exact ih1 _ _ _ _ _ _ _ _ _)
      | (with_reducible exact unit_Append.mono _ _)
      | (with_reducible exact waybilllaw13_awake.mono _)
      | (with_reducible exact LeO.refl _)
      | (with_reducible exact LeO.none _)
      | (with_reducible refine LeO.ite ?_ ?_)
      | (with_reducible refine LeO.bind ?_ (fun _ => ?_))
      | exact ih0 _ _ _ _ _
      | exact ih1 _ _ _ _ _ _ _ _ _
      | exact unit_Append.mono _ _
      | exact waybilllaw13_awake.mono _
      | exact LeO.none _
      | refine LeO.ite ?_ ?_
      | refine LeO.bind ?_ (fun _ => ?_)
set_option maxHeartbeats 8000000 in
set_option maxRecDepth 100000 in
theorem waybilllaw13_UnitBounds.calls (k : Nat) (a0 : Int) (a1 : Int) (a2 : Int) (r : Bool) (w : World) (h : waybilllaw13_UnitBounds.f k a0 a1 a2 = some r) :
    Calls Try.prog 5 #[.int .i64 a0, .int .i64 a1, .int .i64 a2] w fun e w' => e = .returned (.bool r) ∧ Below w.heap.size w w' := by
  have hu38 := Try.underlying38
  have HB := Aside0.mk (Below.refl w.heap.size w)
  have H : (waybilllaw13_UnitBounds.l0 k (wrap64 (127 + (Go.bits .and .i64 a0 7))) (wrap64 (10996 + (Go.bits .and .i64 a1 7))) (Go.bits .and .i64 a2 31) (⟨#[]⟩ : ByteArray) 0) = some r := h
  clear h
  have H' := Aside0.mk H
  clear H
  go_enter Try.func5, Try.ntmps5
  go_wp2
  go_loopg [7, 8] k (fun kq v7 v8 w' => ∃ (x7_1 : ByteArray) (x8_1 : Int), v7 = .string x7_1 ∧ v8 = .int .i64 x8_1 ∧ Aside0 (waybilllaw13_UnitBounds.l0 kq (wrap64 (127 + (Go.bits .and .i64 a0 7))) (wrap64 (10996 + (Go.bits .and .i64 a1 7))) (Go.bits .and .i64 a2 31) x7_1 x8_1 = some r) ∧ Aside0 (kq ≤ k) ∧ Aside0 (Below w.heap.size w w'))
  case atStart => exact ⟨((⟨#[]⟩ : ByteArray)), (0), (by first | rfl | (simp; done) | (simp [*]; done)), (by first | rfl | (simp; done) | (simp [*]; done)), H', ⟨Nat.le_refl _⟩, ⟨by repeat (first | (with_reducible first | exact HB.out | apply below_alloc | apply pw_below_drewN | apply below_drew1) | exact HB.out)⟩⟩
  case round =>
    clear H'
    try clear p2
    obtain ⟨x7_1, x8_1, rfl, rfl, HA, HK1, HB⟩ := hrel
    cases gk with
    | zero => exact absurd HA.out (by simp [waybilllaw13_UnitBounds.l0])
    | succ k1 =>
      have H := HA.out
      clear HA
      simp only [waybilllaw13_UnitBounds.l0] at H
      by_cases c4 : x8_1 < (wrap64 (127 + (Go.bits .and .i64 a0 7)))
      · rw [if_pos c4] at H
        have c4b0 : decide (x8_1 < (wrap64 (127 + (Go.bits .and .i64 a0 7)))) = true := decide_eq_true c4
        clear c4
        by_cases c5 : x7_1.size + 1 ≤ 9223372036854775807
        · rw [if_pos c5] at H
          have c5b0 := eq_true c5
          have c5b1 : decide (x7_1.size + 1 ≤ 9223372036854775807) = true := decide_eq_true c5
          try have c5b2 : (9223372036854775807 < x7_1.size + 1) = False := eq_false (Nat.not_lt.2 c5)
          have H' := Aside0.mk H
          clear H
          go_wp2
          go_roundg k1
          case measure => have := HK1.out; omega
          case rel => exact ⟨(x7_1 ++ (⟨#[107]⟩ : ByteArray)), (wrap64 (x8_1 + 1)), (by first | rfl | (simp; done) | (simp [*]; done)), (by first | rfl | (simp; done) | (simp [*]; done)), H', ⟨by have := HK1.out; omega⟩, ⟨by repeat (first | (with_reducible first | exact HB.out | apply below_alloc | apply pw_below_drewN | apply below_drew1) | exact HB.out)⟩⟩
        · rw [if_neg c5] at H
          exact absurd H (by simp)
      · rw [if_neg c4] at H
        have c4b0 : decide (x8_1 < (wrap64 (127 + (Go.bits .and .i64 a0 7)))) = false := decide_eq_false c4
        clear c4
        obtain ⟨ji6, hji6⟩ : ∃ j_ : Int, (wrap64 (10996 + (Go.bits .and .i64 a1 7))) = j_ := ⟨_, rfl⟩
        replace H : (if 0 ≤ (ji6) then (if ((ji6) : Int).toNat ≤ 281474976710656 then ((unit_Append.f k1 (([(⟨x7_1, false, (List.replicate ((ji6) : Int).toNat 0)⟩ : S38)] : List (S38)))).bind fun bt650 => ((unit_Append.f k1 (([(⟨(⟨#[107]⟩ : ByteArray), true, (([120] : List Int))⟩ : S38)] : List (S38)))).bind fun bt660 => ((unit_Append.f k1 (([(⟨(⟨#[]⟩ : ByteArray), false, ([] : List Int)⟩ : S38)] : List (S38)))).bind fun bt667 => (waybilllaw13_UnitBounds.l1 k1 (wrap64 (127 + (Go.bits .and .i64 a0 7))) (ji6) (Go.bits .and .i64 a2 31) bt650.1 bt650.2 bt660.2 bt667.2 ([] : List (S38)) 0)))) else (none)) else (none)) = some r := by first | (rw [hji6] at H; exact H) | (simp only [hji6] at H ⊢; exact H)
        have hji6w : (IntKind.i64.wrap (10996 + (Go.bits .and .i64 a1 7))) = ji6 := (i64_w _).trans hji6
        (try rw [hji6])
        by_cases c7 : 0 ≤ (ji6)
        · rw [if_pos c7] at H
          have c7b0 := eq_true c7
          have c7b1 : decide (0 ≤ (ji6)) = true := decide_eq_true c7
          clear c7
          by_cases c8 : ((ji6) : Int).toNat ≤ 281474976710656
          · rw [if_pos c8] at H
            have c8b0 := eq_true c8
            have c8b1 : decide (((ji6) : Int).toNat ≤ 281474976710656) = true := decide_eq_true c8
            clear c8
            obtain ⟨y644, hy644⟩ : ∃ y_ : List Int, y_ = (List.replicate ((ji6) : Int).toNat 0) := ⟨_, rfl⟩
            replace H : ((unit_Append.f k1 (([(⟨x7_1, false, y644⟩ : S38)] : List (S38)))).bind fun bt650 => ((unit_Append.f k1 (([(⟨(⟨#[107]⟩ : ByteArray), true, (([120] : List Int))⟩ : S38)] : List (S38)))).bind fun bt660 => ((unit_Append.f k1 (([(⟨(⟨#[]⟩ : ByteArray), false, ([] : List Int)⟩ : S38)] : List (S38)))).bind fun bt667 => (waybilllaw13_UnitBounds.l1 k1 (wrap64 (127 + (Go.bits .and .i64 a0 7))) (ji6) (Go.bits .and .i64 a2 31) bt650.1 bt650.2 bt660.2 bt667.2 ([] : List (S38)) 0)))) = some r := by first | (rw [hy644]; with_reducible exact H) | (have H2_ := (Option.bind_some _ _).symm.trans H; rw [hy644]; with_reducible exact H2_) | (have H2_ := (Option.bind_some _ _).symm.trans H; with_reducible exact H2_) | with_reducible exact H | (rw [hy644]; exact H) | exact H
            have Ny644 := Aside0.mk hy644
            clear hy644
            obtain ⟨y647, hy647⟩ : ∃ y_ : List (S38), y_ = (([(⟨x7_1, false, y644⟩ : S38)] : List (S38))) := ⟨_, rfl⟩
            replace H : ((unit_Append.f k1 y647).bind fun bt650 => ((unit_Append.f k1 (([(⟨(⟨#[107]⟩ : ByteArray), true, (([120] : List Int))⟩ : S38)] : List (S38)))).bind fun bt660 => ((unit_Append.f k1 (([(⟨(⟨#[]⟩ : ByteArray), false, ([] : List Int)⟩ : S38)] : List (S38)))).bind fun bt667 => (waybilllaw13_UnitBounds.l1 k1 (wrap64 (127 + (Go.bits .and .i64 a0 7))) (ji6) (Go.bits .and .i64 a2 31) bt650.1 bt650.2 bt660.2 bt667.2 ([] : List (S38)) 0)))) = some r := by first | (rw [hy647]; with_reducible exact H) | (have H2_ := (Option.bind_some _ _).symm.trans H; rw [hy647]; with_reducible exact H2_) | (have H2_ := (Option.bind_some _ _).symm.trans H; with_reducible exact H2_) | with_reducible exact H | (rw [hy647]; exact H) | exact H
            have Ny647 := Aside0.mk hy647
            clear hy647
            replace H := Option.bind_eq_some_iff.mp H
            obtain ⟨⟨t650, t651⟩, A90, H⟩ := H
            replace H : ((unit_Append.f k1 (([(⟨(⟨#[107]⟩ : ByteArray), true, (([120] : List Int))⟩ : S38)] : List (S38)))).bind fun bt660 => ((unit_Append.f k1 (([(⟨(⟨#[]⟩ : ByteArray), false, ([] : List Int)⟩ : S38)] : List (S38)))).bind fun bt667 => (waybilllaw13_UnitBounds.l1 k1 (wrap64 (127 + (Go.bits .and .i64 a0 7))) (ji6) (Go.bits .and .i64 a2 31) t650 t651 bt660.2 bt667.2 ([] : List (S38)) 0))) = some r := H
            have A9 := Aside0.mk A90
            clear A90
            obtain ⟨y654, hy654⟩ : ∃ y_ : List Int, y_ = (([120] : List Int)) := ⟨_, rfl⟩
            replace H : ((unit_Append.f k1 (([(⟨(⟨#[107]⟩ : ByteArray), true, y654⟩ : S38)] : List (S38)))).bind fun bt660 => ((unit_Append.f k1 (([(⟨(⟨#[]⟩ : ByteArray), false, ([] : List Int)⟩ : S38)] : List (S38)))).bind fun bt667 => (waybilllaw13_UnitBounds.l1 k1 (wrap64 (127 + (Go.bits .and .i64 a0 7))) (ji6) (Go.bits .and .i64 a2 31) t650 t651 bt660.2 bt667.2 ([] : List (S38)) 0))) = some r := by first | (rw [hy654]; with_reducible exact H) | (have H2_ := (Option.bind_some _ _).symm.trans H; rw [hy654]; with_reducible exact H2_) | (have H2_ := (Option.bind_some _ _).symm.trans H; with_reducible exact H2_) | with_reducible exact H | (rw [hy654]; exact H) | exact H
            have Ny654 := Aside0.mk hy654
            clear hy654
            obtain ⟨y657, hy657⟩ : ∃ y_ : List (S38), y_ = (([(⟨(⟨#[107]⟩ : ByteArray), true, y654⟩ : S38)] : List (S38))) := ⟨_, rfl⟩
            replace H : ((unit_Append.f k1 y657).bind fun bt660 => ((unit_Append.f k1 (([(⟨(⟨#[]⟩ : ByteArray), false, ([] : List Int)⟩ : S38)] : List (S38)))).bind fun bt667 => (waybilllaw13_UnitBounds.l1 k1 (wrap64 (127 + (Go.bits .and .i64 a0 7))) (ji6) (Go.bits .and .i64 a2 31) t650 t651 bt660.2 bt667.2 ([] : List (S38)) 0))) = some r := by first | (rw [hy657]; with_reducible exact H) | (have H2_ := (Option.bind_some _ _).symm.trans H; rw [hy657]; with_reducible exact H2_) | (have H2_ := (Option.bind_some _ _).symm.trans H; with_reducible exact H2_) | with_reducible exact H | (rw [hy657]; exact H) | exact H
            have Ny657 := Aside0.mk hy657
            clear hy657
            replace H := Option.bind_eq_some_iff.mp H
            obtain ⟨⟨t660, t661⟩, A100, H⟩ := H
            replace H : ((unit_Append.f k1 (([(⟨(⟨#[]⟩ : ByteArray), false, ([] : List Int)⟩ : S38)] : List (S38)))).bind fun bt667 => (waybilllaw13_UnitBounds.l1 k1 (wrap64 (127 + (Go.bits .and .i64 a0 7))) (ji6) (Go.bits .and .i64 a2 31) t650 t651 t661 bt667.2 ([] : List (S38)) 0)) = some r := H
            have A10 := Aside0.mk A100
            clear A100
            obtain ⟨y664, hy664⟩ : ∃ y_ : List (S38), y_ = (([(⟨(⟨#[]⟩ : ByteArray), false, ([] : List Int)⟩ : S38)] : List (S38))) := ⟨_, rfl⟩
            replace H : ((unit_Append.f k1 y664).bind fun bt667 => (waybilllaw13_UnitBounds.l1 k1 (wrap64 (127 + (Go.bits .and .i64 a0 7))) (ji6) (Go.bits .and .i64 a2 31) t650 t651 t661 bt667.2 ([] : List (S38)) 0)) = some r := by first | (rw [hy664]; with_reducible exact H) | (have H2_ := (Option.bind_some _ _).symm.trans H; rw [hy664]; with_reducible exact H2_) | (have H2_ := (Option.bind_some _ _).symm.trans H; with_reducible exact H2_) | with_reducible exact H | (rw [hy664]; exact H) | exact H
            have Ny664 := Aside0.mk hy664
            clear hy664
            replace H := Option.bind_eq_some_iff.mp H
            obtain ⟨⟨t667, t668⟩, A110, H⟩ := H
            replace H : (waybilllaw13_UnitBounds.l1 k1 (wrap64 (127 + (Go.bits .and .i64 a0 7))) (ji6) (Go.bits .and .i64 a2 31) t650 t651 t661 t668 ([] : List (S38)) 0) = some r := H
            have A11 := Aside0.mk A110
            clear A110
            have H' := Aside0.mk H
            clear H
            go_wp2_with (first | ((with_reducible refine gate_dst (N := 37) rfl ?_); (try (refine gate_guard (by rfl) ?_; dsimp only)); refine Kd.R_make (Kd.int .u8) _ 5 rfl (N := 37) rfl 26 _ _ rfl (ji6) rfl rfl Try.underlying26 (.int .u8 0) 1 info5 rfl (by decide) (by omega) 0 (ok := fun _ => True) (okp := fun _ => True) rfl (fun _ hk => hk) trivial (of_decide_eq_true (by first | (with_reducible assumption) | assumption)) (Nat.le_trans (Nat.mul_le_mul_right _ (of_decide_eq_true (by first | (with_reducible assumption) | assumption) : (ji6).toNat ≤ 281474976710656)) (by omega)) (Below.refl _ _) (Nat.le_refl _) ?_; intro v645 w12 ho13 hb hg_ hnew_; clear hg_ hnew_; (first | rw [← Ny644.out] at ho13 | (simp only [Int.reduceToNat] at ho13; rw [← Ny644.out] at ho13)); have n0_ := Aside0.mk (Kd.R_lower ho13 (below_size (by repeat (first | (with_reducible first | exact HB.out | apply below_alloc | apply pw_below_drewN | apply below_drew1) | exact HB.out)))); have n1_ := Aside0.mk (below_step (by repeat (first | (with_reducible first | exact HB.out | apply below_alloc | apply pw_below_drewN | apply below_drew1) | exact HB.out)) hb); clear HB; have HO646 := n0_; have HB := n1_; clear n0_ n1_; clear hb ho13; obtain ⟨Ao14, co14, eo14⟩ := Kd.R_slice HO646.out; subst eo14) | ((with_reducible refine gate_dst (N := 39) rfl ?_); (try (refine gate_guard (by rfl) ?_; dsimp only)); refine Kd.N_lit k38 _ 38 ?hg (N' := 39) ?hd (xs := ([(⟨x7_1, false, y644⟩ : S38)] : List (S38))) (inner := [.string x7_1, .bool false, .slice Ao14 y644.length co14]) (ok := (fun _ => True)) (okp := (fun _ => True)) ?hr ?hp (fun _ hk => hk) ((show ∀ k_, w12.heap.size ≤ k_ → (fun _ => True) k_ from fun k_ hk => trivial) _ (Nat.le_refl _)) (Below.refl _ _) (Nat.le_refl _) (by simp) ?_; (case hd => rfl); (case hg => rfl); (case hr => first | (go_simp; done) | (go_simp; rfl)); (case hp => exact (Reps.c3 (show Kd.FK k38 _ _ (⟨x7_1, false, y644⟩ : S38) [.string x7_1, .bool false, .slice Ao14 y644.length co14] from (k38_mkF _ _ (⟨x7_1, false, y644⟩ : S38) (Kd.R_reads' (Kd.R_mono (ok' := (fun _ => True)) (HO646.out) (fun k_ hk => trivial))).2.1 (Kd.R_F (Kd.R_mono (ok' := (fun _ => True)) (HO646.out) (fun k_ hk => trivial))))) (Reps.none _ _))); intro v648 w15 ho16 hb hg_ hnew_; clear hg_ hnew_; (first | rw [← Ny647.out] at ho16 | (simp only [Int.reduceToNat] at ho16; rw [← Ny647.out] at ho16)); have n0_ := Aside0.mk (Kd.N_lower ho16 (below_size (by repeat (first | (with_reducible first | exact HB.out | apply below_alloc | apply pw_below_drewN | apply below_drew1) | exact HB.out)))); have n1_ := Aside0.mk (below_step (by repeat (first | (with_reducible first | exact HB.out | apply below_alloc | apply pw_below_drewN | apply below_drew1) | exact HB.out)) hb); clear HB; clear HO646; have HO649 := n0_; have HB := n1_; clear n0_ n1_; clear hb ho16; obtain ⟨Ao17, co17, eo17⟩ := Kd.N_slice HO649.out; subst eo17) | ((with_reducible refine gate_callee (f := 20) rfl ?_); refine goesL_ (some 42) rfl rfl Try.func20 (by kernel_rfl) rfl #[.slice Ao17 y647.length co17] rfl (by (try simp only [List.map_toArray, List.map_cons, List.map_nil]); first | done | rfl | (simp only [List.length_drop, List.length_take]; rfl)) ?_; (with_reducible refine (unit_Append.calls k1 _ _ y647 t650 t651 _ ?side1 ?side2 A9.out).mono ?_); (case side1 => repeat (first | exact (Kd.N_reads' HO649.out).2.2 | (with_reducible refine Kd.C_alloc ?_ _) | (with_reducible refine Kd.C_drewN ?_ _) | (with_reducible refine Kd.C_drew ?_))); (case side2 => exact (Kd.N_reads' HO649.out).2.1); rintro e w18 ⟨v652, rfl, ho0, hb⟩; refine ⟨_, rfl, ?_⟩; have n0_ := Aside0.mk (Kd.N_elder' (by (with_reducible repeat (first | apply Kd.N_alloc | apply Kd.N_drewN | apply Kd.N_drew)); exact HO649.out) (Kd.R_base ho0) hb); have n1_ := Aside0.mk (Kd.R_lower ho0 (below_size (by repeat (first | (with_reducible first | exact HB.out | apply below_alloc | apply pw_below_drewN | apply below_drew1) | exact HB.out)))); have n2_ := Aside0.mk (below_step (by repeat (first | (with_reducible first | exact HB.out | apply below_alloc | apply pw_below_drewN | apply below_drew1) | exact HB.out)) hb); clear HO649; clear HB; have HO649 := n0_; have HO653 := n1_; have HB := n2_; clear n0_ n1_ n2_; (try clear hb); (try clear hb2); (try clear hk); (try clear hi); (try clear hge); (try clear ho0)) | ((with_reducible refine gate_dst (N := 46) rfl ?_); (try (refine gate_guard (by rfl) ?_; dsimp only)); refine Kd.V_const _ 5 26 ?hg (N := 46) ?hd (xs := ([120] : List Int)) (inner := [.int .u8 120]) rfl rfl rfl rfl ?hr ?hp Try.underlying26 Try.underlying5 (Below.refl _ _) (Nat.le_refl _) (by simp) ?_; (case hd => rfl); (case hg => rfl); (case hr => first | (go_simp; done) | (go_simp; rfl)); (case hp => intro v_; first | rfl | (go_simp; done)); intro v655 w19 ho20 hb hg_ hnew_; clear hg_ hnew_; (first | rw [← Ny654.out] at ho20 | (simp only [Int.reduceToNat] at ho20; rw [← Ny654.out] at ho20)); have n0_ := Aside0.mk (Kd.N_below (by (with_reducible repeat (first | apply Kd.N_alloc | apply Kd.N_drewN | apply Kd.N_drew)); exact HO649.out) hb); have n1_ := Aside0.mk (Kd.R_below (by (with_reducible repeat (first | apply Kd.R_alloc | apply Kd.R_drewN | apply Kd.R_drew)); exact HO653.out) hb); have n2_ := Aside0.mk (Kd.V_lower (Kd.V_mono (ok' := fun k_ => some k_ ≠ (.slice Ao17 y647.length co17 : Value).ownBlock ∧ some k_ ≠ (v652 : Value).ownBlock) ho20 (fun k_ hk_ => ⟨(Kd.fresh' (Kd.N_lt (by (with_reducible repeat (first | apply Kd.N_alloc | apply Kd.N_drewN | apply Kd.N_drew)); exact HO649.out)) k_ hk_), (Kd.fresh' (Kd.R_lt (by (with_reducible repeat (first | apply Kd.R_alloc | apply Kd.R_drewN | apply Kd.R_drew)); exact HO653.out)) k_ hk_)⟩)) (below_size (by repeat (first | (with_reducible first | exact HB.out | apply below_alloc | apply pw_below_drewN | apply below_drew1) | exact HB.out)))); have n3_ := Aside0.mk (below_step (by repeat (first | (with_reducible first | exact HB.out | apply below_alloc | apply pw_below_drewN | apply below_drew1) | exact HB.out)) hb); clear HO649; clear HO653; clear HB; have HO649 := n0_; have HO653 := n1_; have HO656 := n2_; have HB := n3_; clear n0_ n1_ n2_ n3_; clear hb ho20; obtain ⟨Ao21, co21, eo21⟩ := Kd.V_slice HO656.out; subst eo21) | ((with_reducible refine gate_dst (N := 49) rfl ?_); (try (refine gate_guard (by rfl) ?_; dsimp only)); refine Kd.N_lit k38 _ 38 ?hg (N' := 49) ?hd (xs := ([(⟨(⟨#[107]⟩ : ByteArray), true, y654⟩ : S38)] : List (S38))) (inner := [.string (⟨#[107]⟩ : ByteArray), .bool true, .slice Ao21 y654.length co21]) (ok := (fun k_ => some k_ ≠ (.slice Ao17 y647.length co17 : Value).ownBlock ∧ some k_ ≠ (v652 : Value).ownBlock)) (okp := (fun k_ => some k_ ≠ (.slice Ao17 y647.length co17 : Value).ownBlock ∧ some k_ ≠ (v652 : Value).ownBlock)) ?hr ?hp (fun _ hk => hk) ((show ∀ k_, w19.heap.size ≤ k_ → (fun k_ => some k_ ≠ (.slice Ao17 y647.length co17 : Value).ownBlock ∧ some k_ ≠ (v652 : Value).ownBlock) k_ from fun k_ hk => ⟨Kd.fresh' (Kd.N_lt (by (with_reducible repeat (first | apply Kd.N_alloc | apply Kd.N_drewN | apply Kd.N_drew)); exact HO649.out)) k_ hk, Kd.fresh' (Kd.R_lt (by (with_reducible repeat (first | apply Kd.R_alloc | apply Kd.R_drewN | apply Kd.R_drew)); exact HO653.out)) k_ hk⟩) _ (Nat.le_refl _)) (Below.refl _ _) (Nat.le_refl _) (by simp) ?_; (case hd => rfl); (case hg => rfl); (case hr => first | (go_simp; done) | (go_simp; rfl)); (case hp => exact (Reps.c3 (show Kd.FK k38 _ _ (⟨(⟨#[107]⟩ : ByteArray), true, y654⟩ : S38) [.string (⟨#[107]⟩ : ByteArray), .bool true, .slice Ao21 y654.length co21] from (k38_mkF _ _ (⟨(⟨#[107]⟩ : ByteArray), true, y654⟩ : S38) (Kd.V_reads' (Kd.V_mono (ok' := (fun k_ => some k_ ≠ (.slice Ao17 y647.length co17 : Value).ownBlock ∧ some k_ ≠ (v652 : Value).ownBlock)) (HO656.out) (fun k_ hk => ⟨hk.1, hk.2⟩))).2.1 (Kd.V_F (Kd.V_mono (ok' := (fun k_ => some k_ ≠ (.slice Ao17 y647.length co17 : Value).ownBlock ∧ some k_ ≠ (v652 : Value).ownBlock)) (HO656.out) (fun k_ hk => ⟨hk.1, hk.2⟩))))) (Reps.none _ _))); intro v658 w22 ho23 hb hg_ hnew_; clear hg_ hnew_; (first | rw [← Ny657.out] at ho23 | (simp only [Int.reduceToNat] at ho23; rw [← Ny657.out] at ho23)); have n0_ := Aside0.mk (Kd.N_elder' (by (with_reducible repeat (first | apply Kd.N_alloc | apply Kd.N_drewN | apply Kd.N_drew)); exact HO649.out) (Kd.N_base ho23) hb); have n1_ := Aside0.mk (Kd.R_below (by (with_reducible repeat (first | apply Kd.R_alloc | apply Kd.R_drewN | apply Kd.R_drew)); exact HO653.out) hb); have n2_ := Aside0.mk (Kd.V_elder' (by (with_reducible repeat (first | apply Kd.V_alloc | apply Kd.V_drewN | apply Kd.V_drew)); exact HO656.out) (Kd.N_base ho23) hb); have n3_ := Aside0.mk (Kd.N_lower ho23 (below_size (by repeat (first | (with_reducible first | exact HB.out | apply below_alloc | apply pw_below_drewN | apply below_drew1) | exact HB.out)))); have n4_ := Aside0.mk (below_step (by repeat (first | (with_reducible first | exact HB.out | apply below_alloc | apply pw_below_drewN | apply below_drew1) | exact HB.out)) hb); clear HO649; clear HO653; clear HO656; clear HB; have HO649 := n0_; have HO653 := n1_; have HO656 := n2_; have HO659 := n3_; have HB := n4_; clear n0_ n1_ n2_ n3_ n4_; clear hb ho23; obtain ⟨Ao24, co24, eo24⟩ := Kd.N_slice HO659.out; subst eo24) | ((with_reducible refine gate_callee (f := 20) rfl ?_); refine goesL_ (some 50) rfl rfl Try.func20 (by kernel_rfl) rfl #[.slice Ao24 y657.length co24] rfl (by (try simp only [List.map_toArray, List.map_cons, List.map_nil]); first | done | rfl | (simp only [List.length_drop, List.length_take]; rfl)) ?_; (with_reducible refine (unit_Append.calls k1 _ _ y657 t660 t661 _ ?side1 ?side2 A10.out).mono ?_); (case side1 => repeat (first | exact (Kd.N_reads' HO659.out).2.2 | (with_reducible refine Kd.C_alloc ?_ _) | (with_reducible refine Kd.C_drewN ?_ _) | (with_reducible refine Kd.C_drew ?_))); (case side2 => exact (Kd.N_reads' HO659.out).2.1); rintro e w25 ⟨v662, rfl, ho0, hb⟩; refine ⟨_, rfl, ?_⟩; have n0_ := Aside0.mk (Kd.N_elder' (by (with_reducible repeat (first | apply Kd.N_alloc | apply Kd.N_drewN | apply Kd.N_drew)); exact HO649.out) (Kd.R_base ho0) hb); have n1_ := Aside0.mk (Kd.R_elder' (by (with_reducible repeat (first | apply Kd.R_alloc | apply Kd.R_drewN | apply Kd.R_drew)); exact HO653.out) (Kd.R_base ho0) hb); have n2_ := Aside0.mk (Kd.V_elder' (by (with_reducible repeat (first | apply Kd.V_alloc | apply Kd.V_drewN | apply Kd.V_drew)); exact HO656.out) (Kd.R_base ho0) hb); have n3_ := Aside0.mk (Kd.N_elder' (by (with_reducible repeat (first | apply Kd.N_alloc | apply Kd.N_drewN | apply Kd.N_drew)); exact HO659.out) (Kd.R_base ho0) hb); have n4_ := Aside0.mk (Kd.R_lower (Kd.R_new' ho0 (Kd.R_lt (by (with_reducible repeat (first | apply Kd.R_alloc | apply Kd.R_drewN | apply Kd.R_drew)); exact HO653.out))) (below_size (by repeat (first | (with_reducible first | exact HB.out | apply below_alloc | apply pw_below_drewN | apply below_drew1) | exact HB.out)))); have n5_ := Aside0.mk (below_step (by repeat (first | (with_reducible first | exact HB.out | apply below_alloc | apply pw_below_drewN | apply below_drew1) | exact HB.out)) hb); clear HO649; clear HO653; clear HO656; clear HO659; clear HB; have HO649 := n0_; have HO653 := n1_; have HO656 := n2_; have HO659 := n3_; have HO663 := n4_; have HB := n5_; clear n0_ n1_ n2_ n3_ n4_ n5_; (try clear hb); (try clear hb2); (try clear hk); (try clear hi); (try clear hge); (try clear ho0)) | ((with_reducible refine gate_dst (N := 55) rfl ?_); (try (refine gate_guard (by rfl) ?_; dsimp only)); refine Kd.N_lit k38 _ 38 ?hg (N' := 55) ?hd (xs := ([(⟨(⟨#[]⟩ : ByteArray), false, ([] : List Int)⟩ : S38)] : List (S38))) (inner := [.string (⟨#[]⟩ : ByteArray), .bool false, .slice none 0 0]) (ok := (fun k_ => some k_ ≠ (.slice Ao17 y647.length co17 : Value).ownBlock ∧ some k_ ≠ (v652 : Value).ownBlock ∧ some k_ ≠ (.slice Ao24 y657.length co24 : Value).ownBlock ∧ some k_ ≠ (v662 : Value).ownBlock)) (okp := (fun k_ => some k_ ≠ (.slice Ao17 y647.length co17 : Value).ownBlock ∧ some k_ ≠ (v652 : Value).ownBlock ∧ some k_ ≠ (.slice Ao24 y657.length co24 : Value).ownBlock ∧ some k_ ≠ (v662 : Value).ownBlock)) ?hr ?hp (fun _ hk => hk) ((show ∀ k_, w25.heap.size ≤ k_ → (fun k_ => some k_ ≠ (.slice Ao17 y647.length co17 : Value).ownBlock ∧ some k_ ≠ (v652 : Value).ownBlock ∧ some k_ ≠ (.slice Ao24 y657.length co24 : Value).ownBlock ∧ some k_ ≠ (v662 : Value).ownBlock) k_ from fun k_ hk => ⟨Kd.fresh' (Kd.N_lt (by (with_reducible repeat (first | apply Kd.N_alloc | apply Kd.N_drewN | apply Kd.N_drew)); exact HO649.out)) k_ hk, Kd.fresh' (Kd.R_lt (by (with_reducible repeat (first | apply Kd.R_alloc | apply Kd.R_drewN | apply Kd.R_drew)); exact HO653.out)) k_ hk, Kd.fresh' (Kd.N_lt (by (with_reducible repeat (first | apply Kd.N_alloc | apply Kd.N_drewN | apply Kd.N_drew)); exact HO659.out)) k_ hk, Kd.fresh' (Kd.R_lt (by (with_reducible repeat (first | apply Kd.R_alloc | apply Kd.R_drewN | apply Kd.R_drew)); exact HO663.out)) k_ hk⟩) _ (Nat.le_refl _)) (Below.refl _ _) (Nat.le_refl _) (by simp) ?_; (case hd => rfl); (case hg => rfl); (case hr => first | (go_simp; done) | (go_simp; rfl)); (case hp => exact (Reps.c3 (show Kd.FK k38 _ _ (⟨(⟨#[]⟩ : ByteArray), false, ([] : List Int)⟩ : S38) [.string (⟨#[]⟩ : ByteArray), .bool false, .slice none 0 0] from (k38_mkF _ _ (⟨(⟨#[]⟩ : ByteArray), false, ([] : List Int)⟩ : S38) (Nat.le_refl _) (Kd.F_nil _ _ _))) (Reps.none _ _))); intro v665 w26 ho27 hb hg_ hnew_; clear hg_ hnew_; (first | rw [← Ny664.out] at ho27 | (simp only [Int.reduceToNat] at ho27; rw [← Ny664.out] at ho27)); have n0_ := Aside0.mk (Kd.N_elder' (by (with_reducible repeat (first | apply Kd.N_alloc | apply Kd.N_drewN | apply Kd.N_drew)); exact HO649.out) (Kd.N_base ho27) hb); have n1_ := Aside0.mk (Kd.R_below (by (with_reducible repeat (first | apply Kd.R_alloc | apply Kd.R_drewN | apply Kd.R_drew)); exact HO653.out) hb); have n2_ := Aside0.mk (Kd.V_elder' (by (with_reducible repeat (first | apply Kd.V_alloc | apply Kd.V_drewN | apply Kd.V_drew)); exact HO656.out) (Kd.N_base ho27) hb); have n3_ := Aside0.mk (Kd.N_elder' (by (with_reducible repeat (first | apply Kd.N_alloc | apply Kd.N_drewN | apply Kd.N_drew)); exact HO659.out) (Kd.N_base ho27) hb); have n4_ := Aside0.mk (Kd.R_below (by (with_reducible repeat (first | apply Kd.R_alloc | apply Kd.R_drewN | apply Kd.R_drew)); exact HO663.out) hb); have n5_ := Aside0.mk (Kd.N_lower ho27 (below_size (by repeat (first | (with_reducible first | exact HB.out | apply below_alloc | apply pw_below_drewN | apply below_drew1) | exact HB.out)))); have n6_ := Aside0.mk (below_step (by repeat (first | (with_reducible first | exact HB.out | apply below_alloc | apply pw_below_drewN | apply below_drew1) | exact HB.out)) hb); clear HO649; clear HO653; clear HO656; clear HO659; clear HO663; clear HB; have HO649 := n0_; have HO653 := n1_; have HO656 := n2_; have HO659 := n3_; have HO663 := n4_; have HO666 := n5_; have HB := n6_; clear n0_ n1_ n2_ n3_ n4_ n5_ n6_; clear hb ho27; obtain ⟨Ao28, co28, eo28⟩ := Kd.N_slice HO666.out; subst eo28) | ((with_reducible refine gate_callee (f := 20) rfl ?_); refine goesL_ (some 56) rfl rfl Try.func20 (by kernel_rfl) rfl #[.slice Ao28 y664.length co28] rfl (by (try simp only [List.map_toArray, List.map_cons, List.map_nil]); first | done | rfl | (simp only [List.length_drop, List.length_take]; rfl)) ?_; (with_reducible refine (unit_Append.calls k1 _ _ y664 t667 t668 _ ?side1 ?side2 A11.out).mono ?_); (case side1 => repeat (first | exact (Kd.N_reads' HO666.out).2.2 | (with_reducible refine Kd.C_alloc ?_ _) | (with_reducible refine Kd.C_drewN ?_ _) | (with_reducible refine Kd.C_drew ?_))); (case side2 => exact (Kd.N_reads' HO666.out).2.1); rintro e w29 ⟨v669, rfl, ho0, hb⟩; refine ⟨_, rfl, ?_⟩; have n0_ := Aside0.mk (Kd.N_elder' (by (with_reducible repeat (first | apply Kd.N_alloc | apply Kd.N_drewN | apply Kd.N_drew)); exact HO649.out) (Kd.R_base ho0) hb); have n1_ := Aside0.mk (Kd.R_elder' (by (with_reducible repeat (first | apply Kd.R_alloc | apply Kd.R_drewN | apply Kd.R_drew)); exact HO653.out) (Kd.R_base ho0) hb); have n2_ := Aside0.mk (Kd.V_elder' (by (with_reducible repeat (first | apply Kd.V_alloc | apply Kd.V_drewN | apply Kd.V_drew)); exact HO656.out) (Kd.R_base ho0) hb); have n3_ := Aside0.mk (Kd.N_elder' (by (with_reducible repeat (first | apply Kd.N_alloc | apply Kd.N_drewN | apply Kd.N_drew)); exact HO659.out) (Kd.R_base ho0) hb); have n4_ := Aside0.mk (Kd.R_elder' (by (with_reducible repeat (first | apply Kd.R_alloc | apply Kd.R_drewN | apply Kd.R_drew)); exact HO663.out) (Kd.R_base ho0) hb); have n5_ := Aside0.mk (Kd.N_elder' (by (with_reducible repeat (first | apply Kd.N_alloc | apply Kd.N_drewN | apply Kd.N_drew)); exact HO666.out) (Kd.R_base ho0) hb); have n6_ := Aside0.mk (Kd.R_lower (Kd.R_new' (Kd.R_new' ho0 (Kd.R_lt (by (with_reducible repeat (first | apply Kd.R_alloc | apply Kd.R_drewN | apply Kd.R_drew)); exact HO653.out))) (Kd.R_lt (by (with_reducible repeat (first | apply Kd.R_alloc | apply Kd.R_drewN | apply Kd.R_drew)); exact HO663.out))) (below_size (by repeat (first | (with_reducible first | exact HB.out | apply below_alloc | apply pw_below_drewN | apply below_drew1) | exact HB.out)))); have n7_ := Aside0.mk (below_step (by repeat (first | (with_reducible first | exact HB.out | apply below_alloc | apply pw_below_drewN | apply below_drew1) | exact HB.out)) hb); clear HO649; clear HO653; clear HO656; clear HO659; clear HO663; clear HO666; clear HB; have HO649 := n0_; have HO653 := n1_; have HO656 := n2_; have HO659 := n3_; have HO663 := n4_; have HO666 := n5_; have HO670 := n6_; have HB := n7_; clear n0_ n1_ n2_ n3_ n4_ n5_ n6_ n7_; (try clear hb); (try clear hb2); (try clear hk); (try clear hi); (try clear hge); (try clear ho0)))
            go_loopg [16, 17] k1 (fun kq v16 v17 w' => ∃ (x16_2 : List (S38)) (x17_2 : Int), v17 = .int .i64 x17_2 ∧ Aside0 (waybilllaw13_UnitBounds.l1 kq (wrap64 (127 + (Go.bits .and .i64 a0 7))) (ji6) (Go.bits .and .i64 a2 31) t650 t651 t661 t668 x16_2 x17_2 = some r) ∧ Aside0 (kq ≤ k1) ∧ Aside0 (Kd.R (Kd.int .u8) 5 w' w.heap.size (fun _ => True) v652 t650) ∧ Aside0 (Kd.N k38 38 w' w.heap.size (fun k_ => some k_ ≠ (v652 : Value).ownBlock) v16 x16_2) ∧ Aside0 (Below w.heap.size w w'))
            case atStart => exact ⟨(([] : List (S38))), (0), (by first | rfl | (simp; done) | (simp [*]; done)), H', ⟨Nat.le_refl _⟩, ⟨by (with_reducible repeat (first | apply Kd.R_alloc | apply Kd.R_drewN | apply Kd.R_drew)); exact Kd.R_mono HO653.out (fun _ hk => trivial)⟩, ⟨by first | exact Kd.S_nil _ _ _ _ _ | exact Kd.N_nil _ _ _ _ _ | exact Kd.V_nil _ _ _ _ _ | exact Kd.Q_nil _ _ _ _ _ | exact Kd.R_nil _ _ _ _ _⟩, ⟨by repeat (first | (with_reducible first | exact HB.out | apply below_alloc | apply pw_below_drewN | apply below_drew1) | exact HB.out)⟩⟩
            case round =>
              clear H'
              try clear c2
              try clear p2
              try clear c3
              try clear c4
              try clear c4b0
              try clear c5
              try clear c5b0
              try clear c5b1
              try clear c5b2
              try clear p6
              try clear c7
              try clear c7b0
              try clear c7b1
              try clear c8
              try clear c8b0
              try clear c8b1
              try clear c20
              try clear p2
              obtain ⟨x16_2, x17_2, rfl, HA, HK2, HO_10, HO_16, HB⟩ := hrel
              cases gk with
              | zero => exact absurd HA.out (by simp [waybilllaw13_UnitBounds.l1])
              | succ k2 =>
                have H := HA.out
                clear HA
                simp only [waybilllaw13_UnitBounds.l1] at H
                by_cases c30 : x17_2 < (Go.bits .and .i64 a2 31)
                · rw [if_pos c30] at H
                  have c30b0 : decide (x17_2 < (Go.bits .and .i64 a2 31)) = true := decide_eq_true c30
                  clear c30
                  by_cases c31 : 9993 ≤ 281474976710656
                  · rw [if_pos c31] at H
                    have c31b0 := eq_true c31
                    have c31b1 : decide (9993 ≤ 281474976710656) = true := decide_eq_true c31
                    clear c31
                    obtain ⟨y671, hy671⟩ : ∃ y_ : List Int, y_ = (List.replicate 9993 0) := ⟨_, rfl⟩
                    replace H : (if x16_2.length < 2932031007402 then (waybilllaw13_UnitBounds.l1 k2 (wrap64 (127 + (Go.bits .and .i64 a0 7))) (ji6) (Go.bits .and .i64 a2 31) t650 t651 t661 t668 (x16_2 ++ [(⟨(⟨#[107]⟩ : ByteArray), false, y671⟩ : S38)]) (wrap64 (x17_2 + 1))) else (none)) = some r := by first | (rw [hy671]; with_reducible exact H) | (have H2_ := (Option.bind_some _ _).symm.trans H; rw [hy671]; with_reducible exact H2_) | (have H2_ := (Option.bind_some _ _).symm.trans H; with_reducible exact H2_) | with_reducible exact H | (rw [hy671]; exact H) | exact H
                    have Ny671 := Aside0.mk hy671
                    clear hy671
                    by_cases c32 : x16_2.length < 2932031007402
                    · rw [if_pos c32] at H
                      have LMc32 := Aside0.mk c32
                      clear c32
                      obtain ⟨y674, hy674⟩ : ∃ y_ : List (S38), y_ = (x16_2 ++ [(⟨(⟨#[107]⟩ : ByteArray), false, y671⟩ : S38)]) := ⟨_, rfl⟩
                      replace H : (waybilllaw13_UnitBounds.l1 k2 (wrap64 (127 + (Go.bits .and .i64 a0 7))) (ji6) (Go.bits .and .i64 a2 31) t650 t651 t661 t668 y674 (wrap64 (x17_2 + 1))) = some r := by first | (rw [hy674]; with_reducible exact H) | (have H2_ := (Option.bind_some _ _).symm.trans H; rw [hy674]; with_reducible exact H2_) | (have H2_ := (Option.bind_some _ _).symm.trans H; with_reducible exact H2_) | with_reducible exact H | (rw [hy674]; exact H) | exact H
                      have Ny674 := Aside0.mk hy674
                      clear hy674
                      have H' := Aside0.mk H
                      clear H
                      go_wp2_with (first | ((with_reducible refine gate_dst (N := 65) rfl ?_); (try (refine gate_guard (by rfl) ?_; dsimp only)); refine Kd.R_make (Kd.int .u8) _ 5 rfl (N := 65) rfl 26 _ _ rfl 9993 rfl rfl Try.underlying26 (.int .u8 0) 1 info5 rfl (by decide) (by omega) 0 (ok := fun _ => True) (okp := fun _ => True) rfl (fun _ hk => hk) trivial (by omega) (by omega) (Below.refl _ _) (Nat.le_refl _) ?_; intro v672 w33 ho34 hb hg_ hnew_; clear hg_ hnew_; (first | rw [← Ny671.out] at ho34 | (simp only [Int.reduceToNat] at ho34; rw [← Ny671.out] at ho34)); have n0_ := Aside0.mk (Kd.R_elder' (by (with_reducible repeat (first | apply Kd.R_alloc | apply Kd.R_drewN | apply Kd.R_drew)); exact HO_10.out) (Kd.R_base ho34) hb); have n1_ := Aside0.mk (Kd.N_elder' (by (with_reducible repeat (first | apply Kd.N_alloc | apply Kd.N_drewN | apply Kd.N_drew)); exact HO_16.out) (Kd.R_base ho34) hb); have n2_ := Aside0.mk (Kd.R_lower (Kd.R_new' ho34 (Kd.R_lt (by (with_reducible repeat (first | apply Kd.R_alloc | apply Kd.R_drewN | apply Kd.R_drew)); exact HO_10.out))) (below_size (by repeat (first | (with_reducible first | exact HB.out | apply below_alloc | apply pw_below_drewN | apply below_drew1) | exact HB.out)))); have n3_ := Aside0.mk (below_step (by repeat (first | (with_reducible first | exact HB.out | apply below_alloc | apply pw_below_drewN | apply below_drew1) | exact HB.out)) hb); clear HO_10; clear HO_16; clear HB; have HO_10 := n0_; have HO_16 := n1_; have HO673 := n2_; have HB := n3_; clear n0_ n1_ n2_ n3_; clear hb ho34; obtain ⟨Ao35, co35, eo35⟩ := Kd.R_slice HO673.out; subst eo35) | ((with_reducible refine gate_builtin (b := .append) (xs := #[.tmp 64, .tmp 67]) rfl ?_); (try (refine gate_guard (by rfl) ?_; dsimp only)); at_builtin; refine Kd.N_append k38 (w0 := w) w.heap.size rfl (.tmp 64) (.tmp 67) 39 38 (.agg #[(.string ⟨#[]⟩), (.bool false), (.slice none 0 0)]) 48 rfl Try.underlying39 info38 rfl (by decide) (by omega) u16 x16_2 (⟨(⟨#[107]⟩ : ByteArray), false, y671⟩ : S38) [.string (⟨#[107]⟩ : ByteArray), .bool false, .slice Ao35 y671.length co35] (fun k_ => some k_ ≠ (v652 : Value).ownBlock) (fun k_ => ((fun k_ => some k_ ≠ (v652 : Value).ownBlock)) k_ ∧ some k_ ≠ (u16 : Value).ownBlock) rfl rfl ?aP (fun _ hk => hk) ?aF ?aO ?aB ?aS ?aL ?_; (case aP => exact (k38_mkF _ _ (⟨(⟨#[107]⟩ : ByteArray), false, y671⟩ : S38) (Kd.R_reads' (Kd.R_mono (ok' := (fun k_ => ((fun k_ => some k_ ≠ (v652 : Value).ownBlock)) k_ ∧ some k_ ≠ (u16 : Value).ownBlock)) (Kd.R_apart' (HO673.out) (Kd.N_typed HO_16.out) (by decide)) (fun k_ hk => ⟨hk.1.2, hk.2⟩))).2.1 (Kd.R_F (Kd.R_mono (ok' := (fun k_ => ((fun k_ => some k_ ≠ (v652 : Value).ownBlock)) k_ ∧ some k_ ≠ (u16 : Value).ownBlock)) (Kd.R_apart' (HO673.out) (Kd.N_typed HO_16.out) (by decide)) (fun k_ hk => ⟨hk.1.2, hk.2⟩))))); (case aB => exact (by repeat (first | (with_reducible first | exact HB.out | apply below_alloc | apply pw_below_drewN | apply below_drew1) | exact HB.out))); (case aF => exact (fun k_ hk => Kd.fresh' (Kd.R_lt (by (with_reducible repeat (first | apply Kd.R_alloc | apply Kd.R_drewN | apply Kd.R_drew)); exact HO_10.out)) k_ hk)); (case aO => exact (by (with_reducible repeat (first | apply Kd.N_alloc | apply Kd.N_drewN | apply Kd.N_drew)); exact Kd.N_mono HO_16.out (fun _ hk => hk.1))); (case aS => exact (below_size (by repeat (first | (with_reducible first | exact HB.out | apply below_alloc | apply pw_below_drewN | apply below_drew1) | exact HB.out)))); (case aL => have := LMc32.out; omega); intro v675 w36 ho hb hg hat; rw [← Ny674.out] at ho; have n0_ := Aside0.mk (Kd.R_over' (by (with_reducible repeat (first | apply Kd.R_alloc | apply Kd.R_drewN | apply Kd.R_drew)); exact HO_10.out) (Kd.N_typed (by (with_reducible repeat (first | apply Kd.N_alloc | apply Kd.N_drewN | apply Kd.N_drew)); exact HO_16.out)) (by decide) hg); have n1_ := Aside0.mk (hb); have n2_ := Aside0.mk (ho); clear HO_10; clear HB; clear HO_16; clear HO673; have HO_10 := n0_; have HB := n1_; have HO676 := n2_; clear n0_ n1_ n2_; clear ho hb hg hat))
                      go_roundg k2
                      case measure => have := HK1.out; have := HK2.out; omega
                      case rel => exact ⟨(y674), (wrap64 (x17_2 + 1)), (by first | rfl | (simp; done) | (simp [*]; done)), H', ⟨by have := HK1.out; have := HK2.out; omega⟩, ⟨by (with_reducible repeat (first | apply Kd.R_alloc | apply Kd.R_drewN | apply Kd.R_drew)); exact Kd.R_mono HO_10.out (fun _ hk => trivial)⟩, ⟨by (with_reducible repeat (first | apply Kd.N_alloc | apply Kd.N_drewN | apply Kd.N_drew)); exact HO676.out⟩, ⟨by repeat (first | (with_reducible first | exact HB.out | apply below_alloc | apply pw_below_drewN | apply below_drew1) | exact HB.out)⟩⟩
                    · rw [if_neg c32] at H
                      exact absurd H (by simp)
                  · rw [if_neg c31] at H
                    exact absurd H (by simp)
                · rw [if_neg c30] at H
                  have c30b0 : decide (x17_2 < (Go.bits .and .i64 a2 31)) = false := decide_eq_false c30
                  clear c30
                  replace H := Option.bind_eq_some_iff.mp H
                  obtain ⟨⟨t677, t678⟩, A370, H⟩ := H
                  replace H : (if (wrap64 (127 + (Go.bits .and .i64 a0 7))) ≤ 130 then (if (t651 == (decide ((ji6) ≤ 11000))) = true then (if t651 = true then (if (t650.length : Int) = (wrap64 ((wrap64 (6 + (wrap64 (127 + (Go.bits .and .i64 a0 7))))) + (ji6))) then (if t661 = true then (none) else (if t668 = true then (none) else (if (t678 == (decide ((Go.bits .and .i64 a2 31) ≤ 19))) = true then (if t678 = true then (if (t677.length : Int) = (wrap64 (10000 * (Go.bits .and .i64 a2 31))) then ((waybilllaw13_awake.f k2).bind fun t681 => (some t681)) else (none)) else ((waybilllaw13_awake.f k2).bind fun t682 => (some t682))) else (none)))) else (none)) else (if t661 = true then (none) else (if t668 = true then (none) else (if (t678 == (decide ((Go.bits .and .i64 a2 31) ≤ 19))) = true then (if t678 = true then (if (t677.length : Int) = (wrap64 (10000 * (Go.bits .and .i64 a2 31))) then ((waybilllaw13_awake.f k2).bind fun t683 => (some t683)) else (none)) else ((waybilllaw13_awake.f k2).bind fun t684 => (some t684))) else (none))))) else (none)) else (if (t651 == false) = true then (if t651 = true then (if (t650.length : Int) = (wrap64 ((wrap64 (6 + (wrap64 (127 + (Go.bits .and .i64 a0 7))))) + (ji6))) then (if t661 = true then (none) else (if t668 = true then (none) else (if (t678 == (decide ((Go.bits .and .i64 a2 31) ≤ 19))) = true then (if t678 = true then (if (t677.length : Int) = (wrap64 (10000 * (Go.bits .and .i64 a2 31))) then ((waybilllaw13_awake.f k2).bind fun t685 => (some t685)) else (none)) else ((waybilllaw13_awake.f k2).bind fun t686 => (some t686))) else (none)))) else (none)) else (if t661 = true then (none) else (if t668 = true then (none) else (if (t678 == (decide ((Go.bits .and .i64 a2 31) ≤ 19))) = true then (if t678 = true then (if (t677.length : Int) = (wrap64 (10000 * (Go.bits .and .i64 a2 31))) then ((waybilllaw13_awake.f k2).bind fun t687 => (some t687)) else (none)) else ((waybilllaw13_awake.f k2).bind fun t688 => (some t688))) else (none))))) else (none))) = some r := H
                  have A37 := Aside0.mk A370
                  clear A370
                  by_cases c38 : (wrap64 (127 + (Go.bits .and .i64 a0 7))) ≤ 130
                  · rw [if_pos c38] at H
                    have c38b0 : decide ((wrap64 (127 + (Go.bits .and .i64 a0 7))) ≤ 130) = true := decide_eq_true c38
                    clear c38
                    by_cases c39 : (t651 == (decide ((ji6) ≤ 11000))) = true
                    · rw [if_pos c39] at H
                      have c39b0 : (t651 == (decide ((ji6) ≤ 11000))) = true := c39
                      (try (have c39b1 : decide (t651 = (decide ((ji6) ≤ 11000))) = true := by simpa using c39))
                      (try (have c39b2 : (t651 == (decide ((ji6) ≤ 11000))) = true := by simpa using c39))
                      clear c39
                      by_cases c40 : t651 = true
                      · subst c40
                        have H1 : (if (t650.length : Int) = (wrap64 ((wrap64 (6 + (wrap64 (127 + (Go.bits .and .i64 a0 7))))) + (ji6))) then (if t661 = true then (none) else (if t668 = true then (none) else (if (t678 == (decide ((Go.bits .and .i64 a2 31) ≤ 19))) = true then (if t678 = true then (if (t677.length : Int) = (wrap64 (10000 * (Go.bits .and .i64 a2 31))) then ((waybilllaw13_awake.f k2).bind fun t681 => (some t681)) else (none)) else ((waybilllaw13_awake.f k2).bind fun t682 => (some t682))) else (none)))) else (none)) = some r := by rw [if_pos rfl] at H; exact H
                        clear H
                        have H := H1
                        clear H1
                        by_cases c41 : (t650.length : Int) = (wrap64 ((wrap64 (6 + (wrap64 (127 + (Go.bits .and .i64 a0 7))))) + (ji6)))
                        · rw [if_pos c41] at H
                          have c41b0 : ((t650.length : Int) == (wrap64 ((wrap64 (6 + (wrap64 (127 + (Go.bits .and .i64 a0 7))))) + (ji6)))) = true := beq_iff_eq.mpr c41
                          have c41b1 : ((t650.length : Int) != (wrap64 ((wrap64 (6 + (wrap64 (127 + (Go.bits .and .i64 a0 7))))) + (ji6)))) = false := bne_eq_false_iff_eq.mpr c41
                          clear c41
                          by_cases c42 : t661 = true
                          · subst c42
                            have H1 : (none) = some r := by rw [if_pos rfl] at H; exact H
                            clear H
                            have H := H1
                            clear H1
                            exact absurd H (by simp)
                          · replace c42 := Bool.eq_false_iff.mpr c42
                            subst c42
                            have H1 : (if t668 = true then (none) else (if (t678 == (decide ((Go.bits .and .i64 a2 31) ≤ 19))) = true then (if t678 = true then (if (t677.length : Int) = (wrap64 (10000 * (Go.bits .and .i64 a2 31))) then ((waybilllaw13_awake.f k2).bind fun t681 => (some t681)) else (none)) else ((waybilllaw13_awake.f k2).bind fun t682 => (some t682))) else (none))) = some r := by rw [if_neg (show ¬ (false = true) by decide)] at H; exact H
                            clear H
                            have H := H1
                            clear H1
                            by_cases c43 : t668 = true
                            · subst c43
                              have H1 : (none) = some r := by rw [if_pos rfl] at H; exact H
                              clear H
                              have H := H1
                              clear H1
                              exact absurd H (by simp)
                            · replace c43 := Bool.eq_false_iff.mpr c43
                              subst c43
                              have H1 : (if (t678 == (decide ((Go.bits .and .i64 a2 31) ≤ 19))) = true then (if t678 = true then (if (t677.length : Int) = (wrap64 (10000 * (Go.bits .and .i64 a2 31))) then ((waybilllaw13_awake.f k2).bind fun t681 => (some t681)) else (none)) else ((waybilllaw13_awake.f k2).bind fun t682 => (some t682))) else (none)) = some r := by rw [if_neg (show ¬ (false = true) by decide)] at H; exact H
                              clear H
                              have H := H1
                              clear H1
                              by_cases c44 : (t678 == (decide ((Go.bits .and .i64 a2 31) ≤ 19))) = true
                              · rw [if_pos c44] at H
                                have c44b0 : (t678 == (decide ((Go.bits .and .i64 a2 31) ≤ 19))) = true := c44
                                (try (have c44b1 : decide (t678 = (decide ((Go.bits .and .i64 a2 31) ≤ 19))) = true := by simpa using c44))
                                (try (have c44b2 : (t678 == (decide ((Go.bits .and .i64 a2 31) ≤ 19))) = true := by simpa using c44))
                                clear c44
                                by_cases c45 : t678 = true
                                · subst c45
                                  have H1 : (if (t677.length : Int) = (wrap64 (10000 * (Go.bits .and .i64 a2 31))) then ((waybilllaw13_awake.f k2).bind fun t681 => (some t681)) else (none)) = some r := by rw [if_pos rfl] at H; exact H
                                  clear H
                                  have H := H1
                                  clear H1
                                  by_cases c46 : (t677.length : Int) = (wrap64 (10000 * (Go.bits .and .i64 a2 31)))
                                  · rw [if_pos c46] at H
                                    have c46b0 : ((t677.length : Int) == (wrap64 (10000 * (Go.bits .and .i64 a2 31)))) = true := beq_iff_eq.mpr c46
                                    have c46b1 : ((t677.length : Int) != (wrap64 (10000 * (Go.bits .and .i64 a2 31)))) = false := bne_eq_false_iff_eq.mpr c46
                                    clear c46
                                    replace H := Option.bind_eq_some_iff.mp H
                                    obtain ⟨t681, A470, H⟩ := H
                                    replace H : (some t681) = some r := H
                                    have A47 := Aside0.mk A470
                                    clear A470
                                    obtain rfl := Option.some.inj H
                                    obtain ⟨Ao48, co48, eo48⟩ := Kd.N_slice HO_16.out
                                    subst eo48
                                    go_wp2_with (first | ((with_reducible refine gate_callee (f := 20) rfl ?_); refine goesL_ (some 71) rfl rfl Try.func20 (by kernel_rfl) rfl #[.slice Ao48 x16_2.length co48] rfl (by (try simp only [List.map_toArray, List.map_cons, List.map_nil]); first | done | rfl | (simp only [List.length_drop, List.length_take]; rfl)) ?_; (with_reducible refine (unit_Append.calls k2 _ _ x16_2 t677 true _ ?side1 ?side2 A37.out).mono ?_); (case side1 => repeat (first | exact (Kd.N_reads' HO_16.out).2.2 | (with_reducible refine Kd.C_alloc ?_ _) | (with_reducible refine Kd.C_drewN ?_ _) | (with_reducible refine Kd.C_drew ?_))); (case side2 => exact (Kd.N_reads' HO_16.out).2.1); rintro e w49 ⟨v679, rfl, ho0, hb⟩; refine ⟨_, rfl, ?_⟩; have n0_ := Aside0.mk (Kd.R_elder' (by (with_reducible repeat (first | apply Kd.R_alloc | apply Kd.R_drewN | apply Kd.R_drew)); exact HO_10.out) (Kd.R_base ho0) hb); have n1_ := Aside0.mk (Kd.N_elder' (by (with_reducible repeat (first | apply Kd.N_alloc | apply Kd.N_drewN | apply Kd.N_drew)); exact HO_16.out) (Kd.R_base ho0) hb); have n2_ := Aside0.mk (Kd.R_lower (Kd.R_new' ho0 (Kd.R_lt (by (with_reducible repeat (first | apply Kd.R_alloc | apply Kd.R_drewN | apply Kd.R_drew)); exact HO_10.out))) (below_size (by repeat (first | (with_reducible first | exact HB.out | apply below_alloc | apply pw_below_drewN | apply below_drew1) | exact HB.out)))); have n3_ := Aside0.mk (below_step (by repeat (first | (with_reducible first | exact HB.out | apply below_alloc | apply pw_below_drewN | apply below_drew1) | exact HB.out)) hb); clear HO_10; clear HO_16; clear HB; have HO_10 := n0_; have HO_16 := n1_; have HO680 := n2_; have HB := n3_; clear n0_ n1_ n2_ n3_; (try clear hb); (try clear hb2); (try clear hk); (try clear hi); (try clear hge); (try clear ho0); obtain ⟨Ao50, co50, eo50⟩ := Kd.R_slice HO_10.out; subst eo50; obtain ⟨Ao51, co51, eo51⟩ := Kd.R_slice HO680.out; subst eo51) | (go_at_call 21; (with_reducible refine (waybilllaw13_awake.calls k2  t681 _ A47.out).mono ?_); rintro e w52 ⟨rfl, hb⟩; have n0_ := Aside0.mk (Kd.R_below (by (with_reducible repeat (first | apply Kd.R_alloc | apply Kd.R_drewN | apply Kd.R_drew)); exact HO_10.out) hb); have n1_ := Aside0.mk (Kd.N_below (by (with_reducible repeat (first | apply Kd.N_alloc | apply Kd.N_drewN | apply Kd.N_drew)); exact HO_16.out) hb); have n2_ := Aside0.mk (Kd.R_below (by (with_reducible repeat (first | apply Kd.R_alloc | apply Kd.R_drewN | apply Kd.R_drew)); exact HO680.out) hb); have n3_ := Aside0.mk (below_step (by repeat (first | (with_reducible first | exact HB.out | apply below_alloc | apply pw_below_drewN | apply below_drew1) | exact HB.out)) hb); clear HO_10; clear HO_16; clear HO680; clear HB; have HO_10 := n0_; have HO_16 := n1_; have HO680 := n2_; have HB := n3_; clear n0_ n1_ n2_ n3_; (try clear hb); (try clear hb2); (try clear hk); (try clear hi); (try clear hge)))
                                    all_goals first | (go_ret; exact ⟨by first | rfl | (simp [errW_none, errW_some]; done) | (simp [errW_none, errW_some]; rfl) | (simp only [← hji6]; first | rfl | (simp [errW_none, errW_some]; done) | (simp [errW_none, errW_some]; rfl)) | (simp [*, errW_none, errW_some]; done) | (simp [*, errW_none, errW_some]; rfl), by repeat (first | (with_reducible first | exact HB.out | apply below_alloc | apply pw_below_drewN | apply below_drew1) | exact HB.out)⟩) | (exfalso; simp_all; done)
                                  · rw [if_neg c46] at H
                                    exact absurd H (by simp)
                                · replace c45 := Bool.eq_false_iff.mpr c45
                                  subst c45
                                  have H1 : ((waybilllaw13_awake.f k2).bind fun t682 => (some t682)) = some r := by rw [if_neg (show ¬ (false = true) by decide)] at H; exact H
                                  clear H
                                  have H := H1
                                  clear H1
                                  replace H := Option.bind_eq_some_iff.mp H
                                  obtain ⟨t682, A530, H⟩ := H
                                  replace H : (some t682) = some r := H
                                  have A53 := Aside0.mk A530
                                  clear A530
                                  obtain rfl := Option.some.inj H
                                  obtain ⟨Ao54, co54, eo54⟩ := Kd.N_slice HO_16.out
                                  subst eo54
                                  go_wp2_with (first | ((with_reducible refine gate_callee (f := 20) rfl ?_); refine goesL_ (some 71) rfl rfl Try.func20 (by kernel_rfl) rfl #[.slice Ao54 x16_2.length co54] rfl (by (try simp only [List.map_toArray, List.map_cons, List.map_nil]); first | done | rfl | (simp only [List.length_drop, List.length_take]; rfl)) ?_; (with_reducible refine (unit_Append.calls k2 _ _ x16_2 t677 false _ ?side1 ?side2 A37.out).mono ?_); (case side1 => repeat (first | exact (Kd.N_reads' HO_16.out).2.2 | (with_reducible refine Kd.C_alloc ?_ _) | (with_reducible refine Kd.C_drewN ?_ _) | (with_reducible refine Kd.C_drew ?_))); (case side2 => exact (Kd.N_reads' HO_16.out).2.1); rintro e w55 ⟨v679, rfl, ho0, hb⟩; refine ⟨_, rfl, ?_⟩; have n0_ := Aside0.mk (Kd.R_elder' (by (with_reducible repeat (first | apply Kd.R_alloc | apply Kd.R_drewN | apply Kd.R_drew)); exact HO_10.out) (Kd.R_base ho0) hb); have n1_ := Aside0.mk (Kd.N_elder' (by (with_reducible repeat (first | apply Kd.N_alloc | apply Kd.N_drewN | apply Kd.N_drew)); exact HO_16.out) (Kd.R_base ho0) hb); have n2_ := Aside0.mk (Kd.R_lower (Kd.R_new' ho0 (Kd.R_lt (by (with_reducible repeat (first | apply Kd.R_alloc | apply Kd.R_drewN | apply Kd.R_drew)); exact HO_10.out))) (below_size (by repeat (first | (with_reducible first | exact HB.out | apply below_alloc | apply pw_below_drewN | apply below_drew1) | exact HB.out)))); have n3_ := Aside0.mk (below_step (by repeat (first | (with_reducible first | exact HB.out | apply below_alloc | apply pw_below_drewN | apply below_drew1) | exact HB.out)) hb); clear HO_10; clear HO_16; clear HB; have HO_10 := n0_; have HO_16 := n1_; have HO680 := n2_; have HB := n3_; clear n0_ n1_ n2_ n3_; (try clear hb); (try clear hb2); (try clear hk); (try clear hi); (try clear hge); (try clear ho0); obtain ⟨Ao56, co56, eo56⟩ := Kd.R_slice HO_10.out; subst eo56) | (go_at_call 21; (with_reducible refine (waybilllaw13_awake.calls k2  t682 _ A53.out).mono ?_); rintro e w57 ⟨rfl, hb⟩; have n0_ := Aside0.mk (Kd.R_below (by (with_reducible repeat (first | apply Kd.R_alloc | apply Kd.R_drewN | apply Kd.R_drew)); exact HO_10.out) hb); have n1_ := Aside0.mk (Kd.N_below (by (with_reducible repeat (first | apply Kd.N_alloc | apply Kd.N_drewN | apply Kd.N_drew)); exact HO_16.out) hb); have n2_ := Aside0.mk (Kd.R_below (by (with_reducible repeat (first | apply Kd.R_alloc | apply Kd.R_drewN | apply Kd.R_drew)); exact HO680.out) hb); have n3_ := Aside0.mk (below_step (by repeat (first | (with_reducible first | exact HB.out | apply below_alloc | apply pw_below_drewN | apply below_drew1) | exact HB.out)) hb); clear HO_10; clear HO_16; clear HO680; clear HB; have HO_10 := n0_; have HO_16 := n1_; have HO680 := n2_; have HB := n3_; clear n0_ n1_ n2_ n3_; (try clear hb); (try clear hb2); (try clear hk); (try clear hi); (try clear hge)))
                                  all_goals first | (go_ret; exact ⟨by first | rfl | (simp [errW_none, errW_some]; done) | (simp [errW_none, errW_some]; rfl) | (simp only [← hji6]; first | rfl | (simp [errW_none, errW_some]; done) | (simp [errW_none, errW_some]; rfl)) | (simp [*, errW_none, errW_some]; done) | (simp [*, errW_none, errW_some]; rfl), by repeat (first | (with_reducible first | exact HB.out | apply below_alloc | apply pw_below_drewN | apply below_drew1) | exact HB.out)⟩) | (exfalso; simp_all; done)
                              · rw [if_neg c44] at H
                                exact absurd H (by simp)
                        · rw [if_neg c41] at H
                          exact absurd H (by simp)
                      · replace c40 := Bool.eq_false_iff.mpr c40
                        subst c40
                        have H1 : (if t661 = true then (none) else (if t668 = true then (none) else (if (t678 == (decide ((Go.bits .and .i64 a2 31) ≤ 19))) = true then (if t678 = true then (if (t677.length : Int) = (wrap64 (10000 * (Go.bits .and .i64 a2 31))) then ((waybilllaw13_awake.f k2).bind fun t683 => (some t683)) else (none)) else ((waybilllaw13_awake.f k2).bind fun t684 => (some t684))) else (none)))) = some r := by rw [if_neg (show ¬ (false = true) by decide)] at H; exact H
                        clear H
                        have H := H1
                        clear H1
                        by_cases c58 : t661 = true
                        · subst c58
                          have H1 : (none) = some r := by rw [if_pos rfl] at H; exact H
                          clear H
                          have H := H1
                          clear H1
                          exact absurd H (by simp)
                        · replace c58 := Bool.eq_false_iff.mpr c58
                          subst c58
                          have H1 : (if t668 = true then (none) else (if (t678 == (decide ((Go.bits .and .i64 a2 31) ≤ 19))) = true then (if t678 = true then (if (t677.length : Int) = (wrap64 (10000 * (Go.bits .and .i64 a2 31))) then ((waybilllaw13_awake.f k2).bind fun t683 => (some t683)) else (none)) else ((waybilllaw13_awake.f k2).bind fun t684 => (some t684))) else (none))) = some r := by rw [if_neg (show ¬ (false = true) by decide)] at H; exact H
                          clear H
                          have H := H1
                          clear H1
                          by_cases c59 : t668 = true
                          · subst c59
                            have H1 : (none) = some r := by rw [if_pos rfl] at H; exact H
                            clear H
                            have H := H1
                            clear H1
                            exact absurd H (by simp)
                          · replace c59 := Bool.eq_false_iff.mpr c59
                            subst c59
                            have H1 : (if (t678 == (decide ((Go.bits .and .i64 a2 31) ≤ 19))) = true then (if t678 = true then (if (t677.length : Int) = (wrap64 (10000 * (Go.bits .and .i64 a2 31))) then ((waybilllaw13_awake.f k2).bind fun t683 => (some t683)) else (none)) else ((waybilllaw13_awake.f k2).bind fun t684 => (some t684))) else (none)) = some r := by rw [if_neg (show ¬ (false = true) by decide)] at H; exact H
                            clear H
                            have H := H1
                            clear H1
                            by_cases c60 : (t678 == (decide ((Go.bits .and .i64 a2 31) ≤ 19))) = true
                            · rw [if_pos c60] at H
                              have c60b0 : (t678 == (decide ((Go.bits .and .i64 a2 31) ≤ 19))) = true := c60
                              (try (have c60b1 : decide (t678 = (decide ((Go.bits .and .i64 a2 31) ≤ 19))) = true := by simpa using c60))
                              (try (have c60b2 : (t678 == (decide ((Go.bits .and .i64 a2 31) ≤ 19))) = true := by simpa using c60))
                              clear c60
                              by_cases c61 : t678 = true
                              · subst c61
                                have H1 : (if (t677.length : Int) = (wrap64 (10000 * (Go.bits .and .i64 a2 31))) then ((waybilllaw13_awake.f k2).bind fun t683 => (some t683)) else (none)) = some r := by rw [if_pos rfl] at H; exact H
                                clear H
                                have H := H1
                                clear H1
                                by_cases c62 : (t677.length : Int) = (wrap64 (10000 * (Go.bits .and .i64 a2 31)))
                                · rw [if_pos c62] at H
                                  have c62b0 : ((t677.length : Int) == (wrap64 (10000 * (Go.bits .and .i64 a2 31)))) = true := beq_iff_eq.mpr c62
                                  have c62b1 : ((t677.length : Int) != (wrap64 (10000 * (Go.bits .and .i64 a2 31)))) = false := bne_eq_false_iff_eq.mpr c62
                                  clear c62
                                  replace H := Option.bind_eq_some_iff.mp H
                                  obtain ⟨t683, A630, H⟩ := H
                                  replace H : (some t683) = some r := H
                                  have A63 := Aside0.mk A630
                                  clear A630
                                  obtain rfl := Option.some.inj H
                                  obtain ⟨Ao64, co64, eo64⟩ := Kd.N_slice HO_16.out
                                  subst eo64
                                  go_wp2_with (first | ((with_reducible refine gate_callee (f := 20) rfl ?_); refine goesL_ (some 71) rfl rfl Try.func20 (by kernel_rfl) rfl #[.slice Ao64 x16_2.length co64] rfl (by (try simp only [List.map_toArray, List.map_cons, List.map_nil]); first | done | rfl | (simp only [List.length_drop, List.length_take]; rfl)) ?_; (with_reducible refine (unit_Append.calls k2 _ _ x16_2 t677 true _ ?side1 ?side2 A37.out).mono ?_); (case side1 => repeat (first | exact (Kd.N_reads' HO_16.out).2.2 | (with_reducible refine Kd.C_alloc ?_ _) | (with_reducible refine Kd.C_drewN ?_ _) | (with_reducible refine Kd.C_drew ?_))); (case side2 => exact (Kd.N_reads' HO_16.out).2.1); rintro e w65 ⟨v679, rfl, ho0, hb⟩; refine ⟨_, rfl, ?_⟩; have n0_ := Aside0.mk (Kd.R_elder' (by (with_reducible repeat (first | apply Kd.R_alloc | apply Kd.R_drewN | apply Kd.R_drew)); exact HO_10.out) (Kd.R_base ho0) hb); have n1_ := Aside0.mk (Kd.N_elder' (by (with_reducible repeat (first | apply Kd.N_alloc | apply Kd.N_drewN | apply Kd.N_drew)); exact HO_16.out) (Kd.R_base ho0) hb); have n2_ := Aside0.mk (Kd.R_lower (Kd.R_new' ho0 (Kd.R_lt (by (with_reducible repeat (first | apply Kd.R_alloc | apply Kd.R_drewN | apply Kd.R_drew)); exact HO_10.out))) (below_size (by repeat (first | (with_reducible first | exact HB.out | apply below_alloc | apply pw_below_drewN | apply below_drew1) | exact HB.out)))); have n3_ := Aside0.mk (below_step (by repeat (first | (with_reducible first | exact HB.out | apply below_alloc | apply pw_below_drewN | apply below_drew1) | exact HB.out)) hb); clear HO_10; clear HO_16; clear HB; have HO_10 := n0_; have HO_16 := n1_; have HO680 := n2_; have HB := n3_; clear n0_ n1_ n2_ n3_; (try clear hb); (try clear hb2); (try clear hk); (try clear hi); (try clear hge); (try clear ho0); obtain ⟨Ao66, co66, eo66⟩ := Kd.R_slice HO680.out; subst eo66) | (go_at_call 21; (with_reducible refine (waybilllaw13_awake.calls k2  t683 _ A63.out).mono ?_); rintro e w67 ⟨rfl, hb⟩; have n0_ := Aside0.mk (Kd.R_below (by (with_reducible repeat (first | apply Kd.R_alloc | apply Kd.R_drewN | apply Kd.R_drew)); exact HO_10.out) hb); have n1_ := Aside0.mk (Kd.N_below (by (with_reducible repeat (first | apply Kd.N_alloc | apply Kd.N_drewN | apply Kd.N_drew)); exact HO_16.out) hb); have n2_ := Aside0.mk (Kd.R_below (by (with_reducible repeat (first | apply Kd.R_alloc | apply Kd.R_drewN | apply Kd.R_drew)); exact HO680.out) hb); have n3_ := Aside0.mk (below_step (by repeat (first | (with_reducible first | exact HB.out | apply below_alloc | apply pw_below_drewN | apply below_drew1) | exact HB.out)) hb); clear HO_10; clear HO_16; clear HO680; clear HB; have HO_10 := n0_; have HO_16 := n1_; have HO680 := n2_; have HB := n3_; clear n0_ n1_ n2_ n3_; (try clear hb); (try clear hb2); (try clear hk); (try clear hi); (try clear hge)))
                                  all_goals first | (go_ret; exact ⟨by first | rfl | (simp [errW_none, errW_some]; done) | (simp [errW_none, errW_some]; rfl) | (simp only [← hji6]; first | rfl | (simp [errW_none, errW_some]; done) | (simp [errW_none, errW_some]; rfl)) | (simp [*, errW_none, errW_some]; done) | (simp [*, errW_none, errW_some]; rfl), by repeat (first | (with_reducible first | exact HB.out | apply below_alloc | apply pw_below_drewN | apply below_drew1) | exact HB.out)⟩) | (exfalso; simp_all; done)
                                · rw [if_neg c62] at H
                                  exact absurd H (by simp)
                              · replace c61 := Bool.eq_false_iff.mpr c61
                                subst c61
                                have H1 : ((waybilllaw13_awake.f k2).bind fun t684 => (some t684)) = some r := by rw [if_neg (show ¬ (false = true) by decide)] at H; exact H
                                clear H
                                have H := H1
                                clear H1
                                replace H := Option.bind_eq_some_iff.mp H
                                obtain ⟨t684, A680, H⟩ := H
                                replace H : (some t684) = some r := H
                                have A68 := Aside0.mk A680
                                clear A680
                                obtain rfl := Option.some.inj H
                                obtain ⟨Ao69, co69, eo69⟩ := Kd.N_slice HO_16.out
                                subst eo69
                                go_wp2_with (first | ((with_reducible refine gate_callee (f := 20) rfl ?_); refine goesL_ (some 71) rfl rfl Try.func20 (by kernel_rfl) rfl #[.slice Ao69 x16_2.length co69] rfl (by (try simp only [List.map_toArray, List.map_cons, List.map_nil]); first | done | rfl | (simp only [List.length_drop, List.length_take]; rfl)) ?_; (with_reducible refine (unit_Append.calls k2 _ _ x16_2 t677 false _ ?side1 ?side2 A37.out).mono ?_); (case side1 => repeat (first | exact (Kd.N_reads' HO_16.out).2.2 | (with_reducible refine Kd.C_alloc ?_ _) | (with_reducible refine Kd.C_drewN ?_ _) | (with_reducible refine Kd.C_drew ?_))); (case side2 => exact (Kd.N_reads' HO_16.out).2.1); rintro e w70 ⟨v679, rfl, ho0, hb⟩; refine ⟨_, rfl, ?_⟩; have n0_ := Aside0.mk (Kd.R_elder' (by (with_reducible repeat (first | apply Kd.R_alloc | apply Kd.R_drewN | apply Kd.R_drew)); exact HO_10.out) (Kd.R_base ho0) hb); have n1_ := Aside0.mk (Kd.N_elder' (by (with_reducible repeat (first | apply Kd.N_alloc | apply Kd.N_drewN | apply Kd.N_drew)); exact HO_16.out) (Kd.R_base ho0) hb); have n2_ := Aside0.mk (Kd.R_lower (Kd.R_new' ho0 (Kd.R_lt (by (with_reducible repeat (first | apply Kd.R_alloc | apply Kd.R_drewN | apply Kd.R_drew)); exact HO_10.out))) (below_size (by repeat (first | (with_reducible first | exact HB.out | apply below_alloc | apply pw_below_drewN | apply below_drew1) | exact HB.out)))); have n3_ := Aside0.mk (below_step (by repeat (first | (with_reducible first | exact HB.out | apply below_alloc | apply pw_below_drewN | apply below_drew1) | exact HB.out)) hb); clear HO_10; clear HO_16; clear HB; have HO_10 := n0_; have HO_16 := n1_; have HO680 := n2_; have HB := n3_; clear n0_ n1_ n2_ n3_; (try clear hb); (try clear hb2); (try clear hk); (try clear hi); (try clear hge); (try clear ho0)) | (go_at_call 21; (with_reducible refine (waybilllaw13_awake.calls k2  t684 _ A68.out).mono ?_); rintro e w71 ⟨rfl, hb⟩; have n0_ := Aside0.mk (Kd.R_below (by (with_reducible repeat (first | apply Kd.R_alloc | apply Kd.R_drewN | apply Kd.R_drew)); exact HO_10.out) hb); have n1_ := Aside0.mk (Kd.N_below (by (with_reducible repeat (first | apply Kd.N_alloc | apply Kd.N_drewN | apply Kd.N_drew)); exact HO_16.out) hb); have n2_ := Aside0.mk (Kd.R_below (by (with_reducible repeat (first | apply Kd.R_alloc | apply Kd.R_drewN | apply Kd.R_drew)); exact HO680.out) hb); have n3_ := Aside0.mk (below_step (by repeat (first | (with_reducible first | exact HB.out | apply below_alloc | apply pw_below_drewN | apply below_drew1) | exact HB.out)) hb); clear HO_10; clear HO_16; clear HO680; clear HB; have HO_10 := n0_; have HO_16 := n1_; have HO680 := n2_; have HB := n3_; clear n0_ n1_ n2_ n3_; (try clear hb); (try clear hb2); (try clear hk); (try clear hi); (try clear hge)))
                                all_goals first | (go_ret; exact ⟨by first | rfl | (simp [errW_none, errW_some]; done) | (simp [errW_none, errW_some]; rfl) | (simp only [← hji6]; first | rfl | (simp [errW_none, errW_some]; done) | (simp [errW_none, errW_some]; rfl)) | (simp [*, errW_none, errW_some]; done) | (simp [*, errW_none, errW_some]; rfl), by repeat (first | (with_reducible first | exact HB.out | apply below_alloc | apply pw_below_drewN | apply below_drew1) | exact HB.out)⟩) | (exfalso; simp_all; done)
                            · rw [if_neg c60] at H
                              exact absurd H (by simp)
                    · rw [if_neg c39] at H
                      exact absurd H (by simp)
                  · rw [if_neg c38] at H
                    have c38b0 : decide ((wrap64 (127 + (Go.bits .and .i64 a0 7))) ≤ 130) = false := decide_eq_false c38
                    clear c38
                    by_cases c72 : (t651 == false) = true
                    · rw [if_pos c72] at H
                      have c72b0 : (t651 == false) = true := c72
                      (try (have c72b1 : decide (t651 = false) = true := by simpa using c72))
                      (try (have c72b2 : (t651 == false) = true := by simpa using c72))
                      clear c72
                      by_cases c73 : t651 = true
                      · subst c73
                        have H1 : (if (t650.length : Int) = (wrap64 ((wrap64 (6 + (wrap64 (127 + (Go.bits .and .i64 a0 7))))) + (ji6))) then (if t661 = true then (none) else (if t668 = true then (none) else (if (t678 == (decide ((Go.bits .and .i64 a2 31) ≤ 19))) = true then (if t678 = true then (if (t677.length : Int) = (wrap64 (10000 * (Go.bits .and .i64 a2 31))) then ((waybilllaw13_awake.f k2).bind fun t685 => (some t685)) else (none)) else ((waybilllaw13_awake.f k2).bind fun t686 => (some t686))) else (none)))) else (none)) = some r := by rw [if_pos rfl] at H; exact H
                        clear H
                        have H := H1
                        clear H1
                        by_cases c74 : (t650.length : Int) = (wrap64 ((wrap64 (6 + (wrap64 (127 + (Go.bits .and .i64 a0 7))))) + (ji6)))
                        · rw [if_pos c74] at H
                          have c74b0 : ((t650.length : Int) == (wrap64 ((wrap64 (6 + (wrap64 (127 + (Go.bits .and .i64 a0 7))))) + (ji6)))) = true := beq_iff_eq.mpr c74
                          have c74b1 : ((t650.length : Int) != (wrap64 ((wrap64 (6 + (wrap64 (127 + (Go.bits .and .i64 a0 7))))) + (ji6)))) = false := bne_eq_false_iff_eq.mpr c74
                          clear c74
                          by_cases c75 : t661 = true
                          · subst c75
                            have H1 : (none) = some r := by rw [if_pos rfl] at H; exact H
                            clear H
                            have H := H1
                            clear H1
                            exact absurd H (by simp)
                          · replace c75 := Bool.eq_false_iff.mpr c75
                            subst c75
                            have H1 : (if t668 = true then (none) else (if (t678 == (decide ((Go.bits .and .i64 a2 31) ≤ 19))) = true then (if t678 = true then (if (t677.length : Int) = (wrap64 (10000 * (Go.bits .and .i64 a2 31))) then ((waybilllaw13_awake.f k2).bind fun t685 => (some t685)) else (none)) else ((waybilllaw13_awake.f k2).bind fun t686 => (some t686))) else (none))) = some r := by rw [if_neg (show ¬ (false = true) by decide)] at H; exact H
                            clear H
                            have H := H1
                            clear H1
                            by_cases c76 : t668 = true
                            · subst c76
                              have H1 : (none) = some r := by rw [if_pos rfl] at H; exact H
                              clear H
                              have H := H1
                              clear H1
                              exact absurd H (by simp)
                            · replace c76 := Bool.eq_false_iff.mpr c76
                              subst c76
                              have H1 : (if (t678 == (decide ((Go.bits .and .i64 a2 31) ≤ 19))) = true then (if t678 = true then (if (t677.length : Int) = (wrap64 (10000 * (Go.bits .and .i64 a2 31))) then ((waybilllaw13_awake.f k2).bind fun t685 => (some t685)) else (none)) else ((waybilllaw13_awake.f k2).bind fun t686 => (some t686))) else (none)) = some r := by rw [if_neg (show ¬ (false = true) by decide)] at H; exact H
                              clear H
                              have H := H1
                              clear H1
                              by_cases c77 : (t678 == (decide ((Go.bits .and .i64 a2 31) ≤ 19))) = true
                              · rw [if_pos c77] at H
                                have c77b0 : (t678 == (decide ((Go.bits .and .i64 a2 31) ≤ 19))) = true := c77
                                (try (have c77b1 : decide (t678 = (decide ((Go.bits .and .i64 a2 31) ≤ 19))) = true := by simpa using c77))
                                (try (have c77b2 : (t678 == (decide ((Go.bits .and .i64 a2 31) ≤ 19))) = true := by simpa using c77))
                                clear c77
                                by_cases c78 : t678 = true
                                · subst c78
                                  have H1 : (if (t677.length : Int) = (wrap64 (10000 * (Go.bits .and .i64 a2 31))) then ((waybilllaw13_awake.f k2).bind fun t685 => (some t685)) else (none)) = some r := by rw [if_pos rfl] at H; exact H
                                  clear H
                                  have H := H1
                                  clear H1
                                  by_cases c79 : (t677.length : Int) = (wrap64 (10000 * (Go.bits .and .i64 a2 31)))
                                  · rw [if_pos c79] at H
                                    have c79b0 : ((t677.length : Int) == (wrap64 (10000 * (Go.bits .and .i64 a2 31)))) = true := beq_iff_eq.mpr c79
                                    have c79b1 : ((t677.length : Int) != (wrap64 (10000 * (Go.bits .and .i64 a2 31)))) = false := bne_eq_false_iff_eq.mpr c79
                                    clear c79
                                    replace H := Option.bind_eq_some_iff.mp H
                                    obtain ⟨t685, A800, H⟩ := H
                                    replace H : (some t685) = some r := H
                                    have A80 := Aside0.mk A800
                                    clear A800
                                    obtain rfl := Option.some.inj H
                                    obtain ⟨Ao81, co81, eo81⟩ := Kd.N_slice HO_16.out
                                    subst eo81
                                    go_wp2_with (first | ((with_reducible refine gate_callee (f := 20) rfl ?_); refine goesL_ (some 71) rfl rfl Try.func20 (by kernel_rfl) rfl #[.slice Ao81 x16_2.length co81] rfl (by (try simp only [List.map_toArray, List.map_cons, List.map_nil]); first | done | rfl | (simp only [List.length_drop, List.length_take]; rfl)) ?_; (with_reducible refine (unit_Append.calls k2 _ _ x16_2 t677 true _ ?side1 ?side2 A37.out).mono ?_); (case side1 => repeat (first | exact (Kd.N_reads' HO_16.out).2.2 | (with_reducible refine Kd.C_alloc ?_ _) | (with_reducible refine Kd.C_drewN ?_ _) | (with_reducible refine Kd.C_drew ?_))); (case side2 => exact (Kd.N_reads' HO_16.out).2.1); rintro e w82 ⟨v679, rfl, ho0, hb⟩; refine ⟨_, rfl, ?_⟩; have n0_ := Aside0.mk (Kd.R_elder' (by (with_reducible repeat (first | apply Kd.R_alloc | apply Kd.R_drewN | apply Kd.R_drew)); exact HO_10.out) (Kd.R_base ho0) hb); have n1_ := Aside0.mk (Kd.N_elder' (by (with_reducible repeat (first | apply Kd.N_alloc | apply Kd.N_drewN | apply Kd.N_drew)); exact HO_16.out) (Kd.R_base ho0) hb); have n2_ := Aside0.mk (Kd.R_lower (Kd.R_new' ho0 (Kd.R_lt (by (with_reducible repeat (first | apply Kd.R_alloc | apply Kd.R_drewN | apply Kd.R_drew)); exact HO_10.out))) (below_size (by repeat (first | (with_reducible first | exact HB.out | apply below_alloc | apply pw_below_drewN | apply below_drew1) | exact HB.out)))); have n3_ := Aside0.mk (below_step (by repeat (first | (with_reducible first | exact HB.out | apply below_alloc | apply pw_below_drewN | apply below_drew1) | exact HB.out)) hb); clear HO_10; clear HO_16; clear HB; have HO_10 := n0_; have HO_16 := n1_; have HO680 := n2_; have HB := n3_; clear n0_ n1_ n2_ n3_; (try clear hb); (try clear hb2); (try clear hk); (try clear hi); (try clear hge); (try clear ho0); obtain ⟨Ao83, co83, eo83⟩ := Kd.R_slice HO_10.out; subst eo83; obtain ⟨Ao84, co84, eo84⟩ := Kd.R_slice HO680.out; subst eo84) | (go_at_call 21; (with_reducible refine (waybilllaw13_awake.calls k2  t685 _ A80.out).mono ?_); rintro e w85 ⟨rfl, hb⟩; have n0_ := Aside0.mk (Kd.R_below (by (with_reducible repeat (first | apply Kd.R_alloc | apply Kd.R_drewN | apply Kd.R_drew)); exact HO_10.out) hb); have n1_ := Aside0.mk (Kd.N_below (by (with_reducible repeat (first | apply Kd.N_alloc | apply Kd.N_drewN | apply Kd.N_drew)); exact HO_16.out) hb); have n2_ := Aside0.mk (Kd.R_below (by (with_reducible repeat (first | apply Kd.R_alloc | apply Kd.R_drewN | apply Kd.R_drew)); exact HO680.out) hb); have n3_ := Aside0.mk (below_step (by repeat (first | (with_reducible first | exact HB.out | apply below_alloc | apply pw_below_drewN | apply below_drew1) | exact HB.out)) hb); clear HO_10; clear HO_16; clear HO680; clear HB; have HO_10 := n0_; have HO_16 := n1_; have HO680 := n2_; have HB := n3_; clear n0_ n1_ n2_ n3_; (try clear hb); (try clear hb2); (try clear hk); (try clear hi); (try clear hge)))
                                    all_goals first | (go_ret; exact ⟨by first | rfl | (simp [errW_none, errW_some]; done) | (simp [errW_none, errW_some]; rfl) | (simp only [← hji6]; first | rfl | (simp [errW_none, errW_some]; done) | (simp [errW_none, errW_some]; rfl)) | (simp [*, errW_none, errW_some]; done) | (simp [*, errW_none, errW_some]; rfl), by repeat (first | (with_reducible first | exact HB.out | apply below_alloc | apply pw_below_drewN | apply below_drew1) | exact HB.out)⟩) | (exfalso; simp_all; done)
                                  · rw [if_neg c79] at H
                                    exact absurd H (by simp)
                                · replace c78 := Bool.eq_false_iff.mpr c78
                                  subst c78
                                  have H1 : ((waybilllaw13_awake.f k2).bind fun t686 => (some t686)) = some r := by rw [if_neg (show ¬ (false = true) by decide)] at H; exact H
                                  clear H
                                  have H := H1
                                  clear H1
                                  replace H := Option.bind_eq_some_iff.mp H
                                  obtain ⟨t686, A860, H⟩ := H
                                  replace H : (some t686) = some r := H
                                  have A86 := Aside0.mk A860
                                  clear A860
                                  obtain rfl := Option.some.inj H
                                  obtain ⟨Ao87, co87, eo87⟩ := Kd.N_slice HO_16.out
                                  subst eo87
                                  go_wp2_with (first | ((with_reducible refine gate_callee (f := 20) rfl ?_); refine goesL_ (some 71) rfl rfl Try.func20 (by kernel_rfl) rfl #[.slice Ao87 x16_2.length co87] rfl (by (try simp only [List.map_toArray, List.map_cons, List.map_nil]); first | done | rfl | (simp only [List.length_drop, List.length_take]; rfl)) ?_; (with_reducible refine (unit_Append.calls k2 _ _ x16_2 t677 false _ ?side1 ?side2 A37.out).mono ?_); (case side1 => repeat (first | exact (Kd.N_reads' HO_16.out).2.2 | (with_reducible refine Kd.C_alloc ?_ _) | (with_reducible refine Kd.C_drewN ?_ _) | (with_reducible refine Kd.C_drew ?_))); (case side2 => exact (Kd.N_reads' HO_16.out).2.1); rintro e w88 ⟨v679, rfl, ho0, hb⟩; refine ⟨_, rfl, ?_⟩; have n0_ := Aside0.mk (Kd.R_elder' (by (with_reducible repeat (first | apply Kd.R_alloc | apply Kd.R_drewN | apply Kd.R_drew)); exact HO_10.out) (Kd.R_base ho0) hb); have n1_ := Aside0.mk (Kd.N_elder' (by (with_reducible repeat (first | apply Kd.N_alloc | apply Kd.N_drewN | apply Kd.N_drew)); exact HO_16.out) (Kd.R_base ho0) hb); have n2_ := Aside0.mk (Kd.R_lower (Kd.R_new' ho0 (Kd.R_lt (by (with_reducible repeat (first | apply Kd.R_alloc | apply Kd.R_drewN | apply Kd.R_drew)); exact HO_10.out))) (below_size (by repeat (first | (with_reducible first | exact HB.out | apply below_alloc | apply pw_below_drewN | apply below_drew1) | exact HB.out)))); have n3_ := Aside0.mk (below_step (by repeat (first | (with_reducible first | exact HB.out | apply below_alloc | apply pw_below_drewN | apply below_drew1) | exact HB.out)) hb); clear HO_10; clear HO_16; clear HB; have HO_10 := n0_; have HO_16 := n1_; have HO680 := n2_; have HB := n3_; clear n0_ n1_ n2_ n3_; (try clear hb); (try clear hb2); (try clear hk); (try clear hi); (try clear hge); (try clear ho0); obtain ⟨Ao89, co89, eo89⟩ := Kd.R_slice HO_10.out; subst eo89) | (go_at_call 21; (with_reducible refine (waybilllaw13_awake.calls k2  t686 _ A86.out).mono ?_); rintro e w90 ⟨rfl, hb⟩; have n0_ := Aside0.mk (Kd.R_below (by (with_reducible repeat (first | apply Kd.R_alloc | apply Kd.R_drewN | apply Kd.R_drew)); exact HO_10.out) hb); have n1_ := Aside0.mk (Kd.N_below (by (with_reducible repeat (first | apply Kd.N_alloc | apply Kd.N_drewN | apply Kd.N_drew)); exact HO_16.out) hb); have n2_ := Aside0.mk (Kd.R_below (by (with_reducible repeat (first | apply Kd.R_alloc | apply Kd.R_drewN | apply Kd.R_drew)); exact HO680.out) hb); have n3_ := Aside0.mk (below_step (by repeat (first | (with_reducible first | exact HB.out | apply below_alloc | apply pw_below_drewN | apply below_drew1) | exact HB.out)) hb); clear HO_10; clear HO_16; clear HO680; clear HB; have HO_10 := n0_; have HO_16 := n1_; have HO680 := n2_; have HB := n3_; clear n0_ n1_ n2_ n3_; (try clear hb); (try clear hb2); (try clear hk); (try clear hi); (try clear hge)))
                                  all_goals first | (go_ret; exact ⟨by first | rfl | (simp [errW_none, errW_some]; done) | (simp [errW_none, errW_some]; rfl) | (simp only [← hji6]; first | rfl | (simp [errW_none, errW_some]; done) | (simp [errW_none, errW_some]; rfl)) | (simp [*, errW_none, errW_some]; done) | (simp [*, errW_none, errW_some]; rfl), by repeat (first | (with_reducible first | exact HB.out | apply below_alloc | apply pw_below_drewN | apply below_drew1) | exact HB.out)⟩) | (exfalso; simp_all; done)
                              · rw [if_neg c77] at H
                                exact absurd H (by simp)
                        · rw [if_neg c74] at H
                          exact absurd H (by simp)
                      · replace c73 := Bool.eq_false_iff.mpr c73
                        subst c73
                        have H1 : (if t661 = true then (none) else (if t668 = true then (none) else (if (t678 == (decide ((Go.bits .and .i64 a2 31) ≤ 19))) = true then (if t678 = true then (if (t677.length : Int) = (wrap64 (10000 * (Go.bits .and .i64 a2 31))) then ((waybilllaw13_awake.f k2).bind fun t687 => (some t687)) else (none)) else ((waybilllaw13_awake.f k2).bind fun t688 => (some t688))) else (none)))) = some r := by rw [if_neg (show ¬ (false = true) by decide)] at H; exact H
                        clear H
                        have H := H1
                        clear H1
                        by_cases c91 : t661 = true
                        · subst c91
                          have H1 : (none) = some r := by rw [if_pos rfl] at H; exact H
                          clear H
                          have H := H1
                          clear H1
                          exact absurd H (by simp)
                        · replace c91 := Bool.eq_false_iff.mpr c91
                          subst c91
                          have H1 : (if t668 = true then (none) else (if (t678 == (decide ((Go.bits .and .i64 a2 31) ≤ 19))) = true then (if t678 = true then (if (t677.length : Int) = (wrap64 (10000 * (Go.bits .and .i64 a2 31))) then ((waybilllaw13_awake.f k2).bind fun t687 => (some t687)) else (none)) else ((waybilllaw13_awake.f k2).bind fun t688 => (some t688))) else (none))) = some r := by rw [if_neg (show ¬ (false = true) by decide)] at H; exact H
                          clear H
                          have H := H1
                          clear H1
                          by_cases c92 : t668 = true
                          · subst c92
                            have H1 : (none) = some r := by rw [if_pos rfl] at H; exact H
                            clear H
                            have H := H1
                            clear H1
                            exact absurd H (by simp)
                          · replace c92 := Bool.eq_false_iff.mpr c92
                            subst c92
                            have H1 : (if (t678 == (decide ((Go.bits .and .i64 a2 31) ≤ 19))) = true then (if t678 = true then (if (t677.length : Int) = (wrap64 (10000 * (Go.bits .and .i64 a2 31))) then ((waybilllaw13_awake.f k2).bind fun t687 => (some t687)) else (none)) else ((waybilllaw13_awake.f k2).bind fun t688 => (some t688))) else (none)) = some r := by rw [if_neg (show ¬ (false = true) by decide)] at H; exact H
                            clear H
                            have H := H1
                            clear H1
                            by_cases c93 : (t678 == (decide ((Go.bits .and .i64 a2 31) ≤ 19))) = true
                            · rw [if_pos c93] at H
                              have c93b0 : (t678 == (decide ((Go.bits .and .i64 a2 31) ≤ 19))) = true := c93
                              (try (have c93b1 : decide (t678 = (decide ((Go.bits .and .i64 a2 31) ≤ 19))) = true := by simpa using c93))
                              (try (have c93b2 : (t678 == (decide ((Go.bits .and .i64 a2 31) ≤ 19))) = true := by simpa using c93))
                              clear c93
                              by_cases c94 : t678 = true
                              · subst c94
                                have H1 : (if (t677.length : Int) = (wrap64 (10000 * (Go.bits .and .i64 a2 31))) then ((waybilllaw13_awake.f k2).bind fun t687 => (some t687)) else (none)) = some r := by rw [if_pos rfl] at H; exact H
                                clear H
                                have H := H1
                                clear H1
                                by_cases c95 : (t677.length : Int) = (wrap64 (10000 * (Go.bits .and .i64 a2 31)))
                                · rw [if_pos c95] at H
                                  have c95b0 : ((t677.length : Int) == (wrap64 (10000 * (Go.bits .and .i64 a2 31)))) = true := beq_iff_eq.mpr c95
                                  have c95b1 : ((t677.length : Int) != (wrap64 (10000 * (Go.bits .and .i64 a2 31)))) = false := bne_eq_false_iff_eq.mpr c95
                                  clear c95
                                  replace H := Option.bind_eq_some_iff.mp H
                                  obtain ⟨t687, A960, H⟩ := H
                                  replace H : (some t687) = some r := H
                                  have A96 := Aside0.mk A960
                                  clear A960
                                  obtain rfl := Option.some.inj H
                                  obtain ⟨Ao97, co97, eo97⟩ := Kd.N_slice HO_16.out
                                  subst eo97
                                  go_wp2_with (first | ((with_reducible refine gate_callee (f := 20) rfl ?_); refine goesL_ (some 71) rfl rfl Try.func20 (by kernel_rfl) rfl #[.slice Ao97 x16_2.length co97] rfl (by (try simp only [List.map_toArray, List.map_cons, List.map_nil]); first | done | rfl | (simp only [List.length_drop, List.length_take]; rfl)) ?_; (with_reducible refine (unit_Append.calls k2 _ _ x16_2 t677 true _ ?side1 ?side2 A37.out).mono ?_); (case side1 => repeat (first | exact (Kd.N_reads' HO_16.out).2.2 | (with_reducible refine Kd.C_alloc ?_ _) | (with_reducible refine Kd.C_drewN ?_ _) | (with_reducible refine Kd.C_drew ?_))); (case side2 => exact (Kd.N_reads' HO_16.out).2.1); rintro e w98 ⟨v679, rfl, ho0, hb⟩; refine ⟨_, rfl, ?_⟩; have n0_ := Aside0.mk (Kd.R_elder' (by (with_reducible repeat (first | apply Kd.R_alloc | apply Kd.R_drewN | apply Kd.R_drew)); exact HO_10.out) (Kd.R_base ho0) hb); have n1_ := Aside0.mk (Kd.N_elder' (by (with_reducible repeat (first | apply Kd.N_alloc | apply Kd.N_drewN | apply Kd.N_drew)); exact HO_16.out) (Kd.R_base ho0) hb); have n2_ := Aside0.mk (Kd.R_lower (Kd.R_new' ho0 (Kd.R_lt (by (with_reducible repeat (first | apply Kd.R_alloc | apply Kd.R_drewN | apply Kd.R_drew)); exact HO_10.out))) (below_size (by repeat (first | (with_reducible first | exact HB.out | apply below_alloc | apply pw_below_drewN | apply below_drew1) | exact HB.out)))); have n3_ := Aside0.mk (below_step (by repeat (first | (with_reducible first | exact HB.out | apply below_alloc | apply pw_below_drewN | apply below_drew1) | exact HB.out)) hb); clear HO_10; clear HO_16; clear HB; have HO_10 := n0_; have HO_16 := n1_; have HO680 := n2_; have HB := n3_; clear n0_ n1_ n2_ n3_; (try clear hb); (try clear hb2); (try clear hk); (try clear hi); (try clear hge); (try clear ho0); obtain ⟨Ao99, co99, eo99⟩ := Kd.R_slice HO680.out; subst eo99) | (go_at_call 21; (with_reducible refine (waybilllaw13_awake.calls k2  t687 _ A96.out).mono ?_); rintro e w100 ⟨rfl, hb⟩; have n0_ := Aside0.mk (Kd.R_below (by (with_reducible repeat (first | apply Kd.R_alloc | apply Kd.R_drewN | apply Kd.R_drew)); exact HO_10.out) hb); have n1_ := Aside0.mk (Kd.N_below (by (with_reducible repeat (first | apply Kd.N_alloc | apply Kd.N_drewN | apply Kd.N_drew)); exact HO_16.out) hb); have n2_ := Aside0.mk (Kd.R_below (by (with_reducible repeat (first | apply Kd.R_alloc | apply Kd.R_drewN | apply Kd.R_drew)); exact HO680.out) hb); have n3_ := Aside0.mk (below_step (by repeat (first | (with_reducible first | exact HB.out | apply below_alloc | apply pw_below_drewN | apply below_drew1) | exact HB.out)) hb); clear HO_10; clear HO_16; clear HO680; clear HB; have HO_10 := n0_; have HO_16 := n1_; have HO680 := n2_; have HB := n3_; clear n0_ n1_ n2_ n3_; (try clear hb); (try clear hb2); (try clear hk); (try clear hi); (try clear hge)))
                                  all_goals first | (go_ret; exact ⟨by first | rfl | (simp [errW_none, errW_some]; done) | (simp [errW_none, errW_some]; rfl) | (simp only [← hji6]; first | rfl | (simp [errW_none, errW_some]; done) | (simp [errW_none, errW_some]; rfl)) | (simp [*, errW_none, errW_some]; done) | (simp [*, errW_none, errW_some]; rfl), by repeat (first | (with_reducible first | exact HB.out | apply below_alloc | apply pw_below_drewN | apply below_drew1) | exact HB.out)⟩) | (exfalso; simp_all; done)
                                · rw [if_neg c95] at H
                                  exact absurd H (by simp)
                              · replace c94 := Bool.eq_false_iff.mpr c94
                                subst c94
                                have H1 : ((waybilllaw13_awake.f k2).bind fun t688 => (some t688)) = some r := by rw [if_neg (show ¬ (false = true) by decide)] at H; exact H
                                clear H
                                have H := H1
                                clear H1
                                replace H := Option.bind_eq_some_iff.mp H
                                obtain ⟨t688, A1010, H⟩ := H
                                replace H : (some t688) = some r := H
                                have A101 := Aside0.mk A1010
                                clear A1010
                                obtain rfl := Option.some.inj H
                                obtain ⟨Ao102, co102, eo102⟩ := Kd.N_slice HO_16.out
                                subst eo102
                                go_wp2_with (first | ((with_reducible refine gate_callee (f := 20) rfl ?_); refine goesL_ (some 71) rfl rfl Try.func20 (by kernel_rfl) rfl #[.slice Ao102 x16_2.length co102] rfl (by (try simp only [List.map_toArray, List.map_cons, List.map_nil]); first | done | rfl | (simp only [List.length_drop, List.length_take]; rfl)) ?_; (with_reducible refine (unit_Append.calls k2 _ _ x16_2 t677 false _ ?side1 ?side2 A37.out).mono ?_); (case side1 => repeat (first | exact (Kd.N_reads' HO_16.out).2.2 | (with_reducible refine Kd.C_alloc ?_ _) | (with_reducible refine Kd.C_drewN ?_ _) | (with_reducible refine Kd.C_drew ?_))); (case side2 => exact (Kd.N_reads' HO_16.out).2.1); rintro e w103 ⟨v679, rfl, ho0, hb⟩; refine ⟨_, rfl, ?_⟩; have n0_ := Aside0.mk (Kd.R_elder' (by (with_reducible repeat (first | apply Kd.R_alloc | apply Kd.R_drewN | apply Kd.R_drew)); exact HO_10.out) (Kd.R_base ho0) hb); have n1_ := Aside0.mk (Kd.N_elder' (by (with_reducible repeat (first | apply Kd.N_alloc | apply Kd.N_drewN | apply Kd.N_drew)); exact HO_16.out) (Kd.R_base ho0) hb); have n2_ := Aside0.mk (Kd.R_lower (Kd.R_new' ho0 (Kd.R_lt (by (with_reducible repeat (first | apply Kd.R_alloc | apply Kd.R_drewN | apply Kd.R_drew)); exact HO_10.out))) (below_size (by repeat (first | (with_reducible first | exact HB.out | apply below_alloc | apply pw_below_drewN | apply below_drew1) | exact HB.out)))); have n3_ := Aside0.mk (below_step (by repeat (first | (with_reducible first | exact HB.out | apply below_alloc | apply pw_below_drewN | apply below_drew1) | exact HB.out)) hb); clear HO_10; clear HO_16; clear HB; have HO_10 := n0_; have HO_16 := n1_; have HO680 := n2_; have HB := n3_; clear n0_ n1_ n2_ n3_; (try clear hb); (try clear hb2); (try clear hk); (try clear hi); (try clear hge); (try clear ho0)) | (go_at_call 21; (with_reducible refine (waybilllaw13_awake.calls k2  t688 _ A101.out).mono ?_); rintro e w104 ⟨rfl, hb⟩; have n0_ := Aside0.mk (Kd.R_below (by (with_reducible repeat (first | apply Kd.R_alloc | apply Kd.R_drewN | apply Kd.R_drew)); exact HO_10.out) hb); have n1_ := Aside0.mk (Kd.N_below (by (with_reducible repeat (first | apply Kd.N_alloc | apply Kd.N_drewN | apply Kd.N_drew)); exact HO_16.out) hb); have n2_ := Aside0.mk (Kd.R_below (by (with_reducible repeat (first | apply Kd.R_alloc | apply Kd.R_drewN | apply Kd.R_drew)); exact HO680.out) hb); have n3_ := Aside0.mk (below_step (by repeat (first | (with_reducible first | exact HB.out | apply below_alloc | apply pw_below_drewN | apply below_drew1) | exact HB.out)) hb); clear HO_10; clear HO_16; clear HO680; clear HB; have HO_10 := n0_; have HO_16 := n1_; have HO680 := n2_; have HB := n3_; clear n0_ n1_ n2_ n3_; (try clear hb); (try clear hb2); (try clear hk); (try clear hi); (try clear hge)))
                                all_goals first | (go_ret; exact ⟨by first | rfl | (simp [errW_none, errW_some]; done) | (simp [errW_none, errW_some]; rfl) | (simp only [← hji6]; first | rfl | (simp [errW_none, errW_some]; done) | (simp [errW_none, errW_some]; rfl)) | (simp [*, errW_none, errW_some]; done) | (simp [*, errW_none, errW_some]; rfl), by repeat (first | (with_reducible first | exact HB.out | apply below_alloc | apply pw_below_drewN | apply below_drew1) | exact HB.out)⟩) | (exfalso; simp_all; done)
                            · rw [if_neg c93] at H
                              exact absurd H (by simp)
                    · rw [if_neg c72] at H
                      exact absurd H (by simp)
          · rw [if_neg c8] at H
            exact absurd H (by simp)
        · rw [if_neg c7] at H
          exact absurd H (by simp)

/-- THE ONE PURE STATEMENT of waybilllaw13_UnitBounds: yours. -/
def waybilllaw13_UnitBounds.Pure : Prop := ∀ (a0 : Int) (a1 : Int) (a2 : Int), (Lit.int .i64 a0).wf = true → (Lit.int .i64 a1).wf = true → (Lit.int .i64 a2).wf = true → ∃ k, waybilllaw13_UnitBounds.f k a0 a1 a2 = some true
theorem waybilllaw13_UnitBounds.walk (P : waybilllaw13_UnitBounds.Pure) (a0 : Int) (a1 : Int) (a2 : Int) (w : World) (w0 : (Lit.int .i64 a0).wf = true) (w1 : (Lit.int .i64 a1).wf = true) (w2 : (Lit.int .i64 a2).wf = true) :
    Calls Try.prog 5 #[.int .i64 a0, .int .i64 a1, .int .i64 a2] w fun e w' => e = .returned (.bool true) ∧ Below w.heap.size w w' := by
  obtain ⟨k, h⟩ := P a0 a1 a2 w0 w1 w2
  refine (waybilllaw13_UnitBounds.calls k a0 a1 a2 true w h).mono ?_
  rintro e w' ⟨rfl, hd⟩
  exact ⟨rfl, hd⟩

end Go.Proofs.Ytpjkaodbcclecaa.PA
