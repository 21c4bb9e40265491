/- What functions of the given program come to, and that they do: written out of the translation by a program of this session; Lean checks it. -/
import Derived.Test.YtpjkaodbcclecaaPBx0
import Derived.Test.YtpjkaodbcclecaaPBx6
import Derived.Test.YtpjkaodbcclecaaPBx7
import Derived.Test.YtpjkaodbcclecaaPBx8
namespace Go.Proofs.Ytpjkaodbcclecaa.PB
open Go.RowKit Go.Proofs.YtpjkaodbcclecaaW.PrintWords Go.Proofs.YtpjkaodbcclecaaW.PrintLast Go.Proofs.YtpjkaodbcclecaaW.PrintMore
attribute [local go_sem] max2_int min2_int max_two min_two max_three min_three max_four min_four   -- for this text's walks alone
set_option linter.unusedVariables false
set_option linter.unusedSimpArgs false

/-! ### waybilllaw5_ContBack: function 14 -/
mutual
def waybilllaw5_ContBack.j0 : Nat → Int → ByteArray → List Int → Int → Bool → Option (Bool)
  | 0, _, _, _, _, _ => none
  | k + 1, x0, x1, x2, x3, x26 => if x26 = true then ((waybilllaw5_awake.f k).bind fun t281 => (some t281)) else ((cont_Frames.f k ([] : List Int) (Go.bits .and .i64 x3 65535) 0 (Int.tmod (wrap64 ((Int.tmod x0 3) + 3)) 3) x1 x2).bind fun bt283 => (if bt283.2 = true then ((fram_Parse.f k bt283.1).bind fun bt287 => (if bt287.2.2.2.2 = 0 then (if bt287.1 = 2 then (if bt287.2.1 = (Go.bits .and .i64 x3 65535) then (if bt287.2.2.2.1 < 0 then (waybilllaw5_ContBack.j1 k x1 x2 (Go.bits .and .i64 x3 65535) bt283.1 bt287.2.2.2.1 true 0 (Int.tmod (wrap64 ((Int.tmod x0 3) + 3)) 3) x1 bt287.1 bt287.2.1 bt287.2.2.1) else (waybilllaw5_ContBack.j1 k x1 x2 (Go.bits .and .i64 x3 65535) bt283.1 bt287.2.2.2.1 (decide (bt287.2.2.2.1 > (bt283.1.length : Int))) 0 (Int.tmod (wrap64 ((Int.tmod x0 3) + 3)) 3) x1 bt287.1 bt287.2.1 bt287.2.2.1)) else (waybilllaw5_ContBack.j1 k x1 x2 (Go.bits .and .i64 x3 65535) bt283.1 bt287.2.2.2.1 true 0 (Int.tmod (wrap64 ((Int.tmod x0 3) + 3)) 3) x1 bt287.1 bt287.2.1 bt287.2.2.1)) else (waybilllaw5_ContBack.j1 k x1 x2 (Go.bits .and .i64 x3 65535) bt283.1 bt287.2.2.2.1 true 0 (Int.tmod (wrap64 ((Int.tmod x0 3) + 3)) 3) x1 bt287.1 bt287.2.1 bt287.2.2.1)) else (waybilllaw5_ContBack.j1 k x1 x2 (Go.bits .and .i64 x3 65535) bt283.1 bt287.2.2.2.1 true 0 (Int.tmod (wrap64 ((Int.tmod x0 3) + 3)) 3) x1 bt287.1 bt287.2.1 bt287.2.2.1))) else (none)))
def waybilllaw5_ContBack.j1 : Nat → ByteArray → List Int → Int → List Int → Int → Bool → Int → Int → ByteArray → Int → Int → List Int → Option (Bool)
  | 0, _, _, _, _, _, _, _, _, _, _, _, _ => none
  | k + 1, x1, x2, x3, x10, x13, x73, x283000, x283001, x283002, x295000, x295001, x295002 => if x73 = true then (none) else ((cont_Parse.f k x295002).bind fun bt295 => (if bt295.2.2.2 = 0 then (if bt295.1 = (IntKind.u64.wrap ((x2.length : Int))) then (if bt295.2.1 = x283001 then (waybilllaw5_ContBack.j2 k x2 x3 x10 x13 (bt295.2.2.1.toList != x1.toList)) else (waybilllaw5_ContBack.j2 k x2 x3 x10 x13 true)) else (waybilllaw5_ContBack.j2 k x2 x3 x10 x13 true)) else (waybilllaw5_ContBack.j2 k x2 x3 x10 x13 true)))
def waybilllaw5_ContBack.j2 : Nat → List Int → Int → List Int → Int → Bool → Option (Bool)
  | 0, _, _, _, _, _ => none
  | k + 1, x2, x3, x10, x13, x102 => if x102 = true then (none) else (if 0 ≤ x13 then (if x13 ≤ (x10.length : Int) then (waybilllaw5_ContBack.l0 k x2 x3 (x10.drop (x13 : Int).toNat) ([] : List Int) 0) else (none)) else (none))
def waybilllaw5_ContBack.l0 : Nat → List Int → Int → List Int → List Int → Int → Option (Bool)
  | 0, _, _, _, _, _ => none
  | k + 1, x2, x3, x10, x17, x18 => if (x10.length : Int) > 0 then (waybilllaw5_ContBack.j4 k x2 x3 x10 x17 x18 (decide (x18 < 10))) else (waybilllaw5_ContBack.j4 k x2 x3 x10 x17 x18 false)
def waybilllaw5_ContBack.j4 : Nat → List Int → Int → List Int → List Int → Int → Bool → Option (Bool)
  | 0, _, _, _, _, _, _ => none
  | k + 1, x2, x3, x10, x17, x18, x112 => if x112 = true then ((fram_Parse.f k x10).bind fun bt303 => (if bt303.2.2.2.2 = 0 then (if bt303.1 = 3 then (if bt303.2.1 = x3 then (if (bt303.2.2.1.length : Int) = 0 then (none) else (if bt303.2.2.2.1 ≤ 0 then (none) else (if bt303.2.2.2.1 > (x10.length : Int) then (none) else (if x17.length + bt303.2.2.1.length < 140737488355328 then (if 0 ≤ bt303.2.2.2.1 then (if bt303.2.2.2.1 ≤ (x10.length : Int) then (waybilllaw5_ContBack.l0 k x2 x3 (x10.drop (bt303.2.2.2.1 : Int).toNat) (x17 ++ bt303.2.2.1) (wrap64 (x18 + 1))) else (none)) else (none)) else (none))))) else (none)) else (none)) else (none))) else (if (strOfNums x17).toList = (strOfNums x2).toList then (if x18 = (wrap64 (Int.tdiv (wrap64 ((x2.length : Int) + 4087)) 4088)) then ((waybilllaw5_awake.f k).bind fun t316 => (some t316)) else (none)) else (none))
end
def waybilllaw5_ContBack.f (k : Nat) (a0 : Int) (a1 : ByteArray) (l2 : List Int) (a3 : Int) : Option (Bool) := if (a1.size : Int) > 255 then (waybilllaw5_ContBack.j0 k a0 a1 l2 a3 true) else (waybilllaw5_ContBack.j0 k a0 a1 l2 a3 (decide ((l2.length : Int) > 20000)))
theorem waybilllaw5_ContBack.mono_l : ∀ k, (∀ y0 y1 y2 y3 y4, LeO (waybilllaw5_ContBack.j0 k y0 y1 y2 y3 y4) (waybilllaw5_ContBack.j0 (k + 1) y0 y1 y2 y3 y4)) ∧ (∀ y0 y1 y2 y3 y4 y5 y6 y7 y8 y9 y10 y11, LeO (waybilllaw5_ContBack.j1 k y0 y1 y2 y3 y4 y5 y6 y7 y8 y9 y10 y11) (waybilllaw5_ContBack.j1 (k + 1) y0 y1 y2 y3 y4 y5 y6 y7 y8 y9 y10 y11)) ∧ (∀ y0 y1 y2 y3 y4, LeO (waybilllaw5_ContBack.j2 k y0 y1 y2 y3 y4) (waybilllaw5_ContBack.j2 (k + 1) y0 y1 y2 y3 y4)) ∧ (∀ y0 y1 y2 y3 y4, LeO (waybilllaw5_ContBack.l0 k y0 y1 y2 y3 y4) (waybilllaw5_ContBack.l0 (k + 1) y0 y1 y2 y3 y4)) ∧ (∀ y0 y1 y2 y3 y4 y5, LeO (waybilllaw5_ContBack.j4 k y0 y1 y2 y3 y4 y5) (waybilllaw5_ContBack.j4 (k + 1) y0 y1 y2 y3 y4 y5))
  | 0 => ⟨fun _ _ _ _ _ r h => by simp [waybilllaw5_ContBack.j0] at h, fun _ _ _ _ _ _ _ _ _ _ _ _ r h => by simp [waybilllaw5_ContBack.j1] at h, fun _ _ _ _ _ r h => by simp [waybilllaw5_ContBack.j2] at h, fun _ _ _ _ _ r h => by simp [waybilllaw5_ContBack.l0] at h, fun _ _ _ _ _ _ r h => by simp [waybilllaw5_ContBack.j4] at h⟩
  | k + 1 => by
    obtain ⟨ih0, ih1, ih2, ih3, ih4⟩ := waybilllaw5_ContBack.mono_l k
    refine ⟨?_, ?_, ?_, ?_, ?_⟩
    · intro y0 y1 y2 y3 y4
      unfold waybilllaw5_ContBack.j0
      repeat' first
      | (with_reducible exact ih0 _ _ _ _ _)
      | (with_reducible exact ih1 _ _ _ _ _ _ _ _ _ _ _ _)
      | (with_reducible exact ih2 _ _ _ _ _)
      | (with_reducible exact ih3 _ _ _ _ _)
      | (with_reducible exact ih4 _ _ _ _ _ _)
      | (with_reducible exact cont_Frames.mono _ _ _ _ _ _ _)
      | (with_reducible exact cont_Parse.mono _ _)
      | (with_reducible exact fram_Parse.mono _ _)
      | (with_reducible exact waybilllaw5_awake.mono _)
      | (with_reducible exact LeO.refl _)
      | (with_reducible exact LeO.none _)
      | (with_reducible refine LeO.ite ?_ ?_)
      | (with_reducible refine LeO.bind ?_ (fun _ => ?_))
      | exact ih0 _ _ _ _ _
      | exact ih1 _ _ _ _ _ _ _ _ _ _ _ _
      | exact ih2 _ _ _ _ _
      | exact ih3 _ _ _ _ _
      | exact ih4 _ _ _ _ _ _
      | exact cont_Frames.mono _ _ _ _ _ _ _
      | exact cont_Parse.mono _ _
      | exact fram_Parse.mono _ _
      | exact waybilllaw5_awake.mono _
      | exact LeO.none _
      | refine LeO.ite ?_ ?_
      | refine LeO.bind ?_ (fun _ => ?_)
    · intro y0 y1 y2 y3 y4 y5 y6 y7 y8 y9 y10 y11
      unfold waybilllaw5_ContBack.j1
      repeat' first
      | (with_reducible exact ih0 _ _ _ _ _)
      | (with_reducible exact ih1 _ _ _ _ _ _ _ _ _ _ _ _)
      | (with_reducible exact ih2 _ _ _ _ _)
      | (with_reducible exact ih3 _ _ _ _ _)
      | (with_reducible exact ih4 _ _ _ _ _ _)
      | (with_reducible exact cont_Frames.mono _ _ _ _ _ _ _)
      | (with_reducible exact cont_Parse.mono _ _)
      | (with_reducible exact fram_Parse.mono _ _)
      | (with_reducible exact waybilllaw5_awake.mono _)
      | (with_reducible exact LeO.refl _)
      | (with_reducible exact LeO.none _)
      | (with_reducible refine LeO.ite ?_ ?_)
      | (with_reducible refine LeO.bind ?_ (fun _ => ?_))
      | exact ih0 _ _ _ _ _
      | exact ih1 _ _ _ _ _ _ _ _ _ _ _ _
      | exact ih2 _ _ _ _ _
      | exact ih3 _ _ _ _ _
      | exact ih4 _ _ _ _ _ _
      | exact cont_Frames.mono _ _ _ _ _ _ _
      | exact cont_Parse.mono _ _
      | exact fram_Parse.mono _ _
      | exact waybilllaw5_awake.mono _
      | exact LeO.none _
      | refine LeO.ite ?_ ?_
      | refine LeO.bind ?_ (fun _ => ?_)
    · intro y0 y1 y2 y3 y4
      unfold waybilllaw5_ContBack.j2
      repeat' first
      | (with_reducible exact ih0 _ _ _ _ _)
      | (with_reducible exact ih1 _ _ _ _ _ _ _ _ _ _ _ _)
      | (with_reducible exact ih2 _ _ _ _ _)
      | (with_reducible exact ih3 _ _ _ _ _)
      | (with_reducible exact ih4 _ _ _ _ _ _)
      | (with_reducible exact cont_Frames.mono _ _ _ _ _ _ _)
      | (with_reducible exact cont_Parse.mono _ _)
      | (with_reducible exact fram_Parse.mono _ _)
      | (with_reducible exact waybilllaw5_awake.mono _)
      | (with_reducible exact LeO.refl _)
      | (with_reducible exact LeO.none _)
      | (with_reducible refine LeO.ite ?_ ?_)
      | (with_reducible refine LeO.bind ?_ (fun _ => ?_))
      | exact ih0 _ _ _ _ _
      | exact ih1 _ _ _ _ _ _ _ _ _ _ _ _
      | exact ih2 _ _ _ _ _
      | exact ih3 _ _ _ _ _
      | exact ih4 _ _ _ _ _ _
      | exact cont_Frames.mono _ _ _ _ _ _ _
      | exact cont_Parse.mono _ _
      | exact fram_Parse.mono _ _
      | exact waybilllaw5_awake.mono _
      | exact LeO.none _
      | refine LeO.ite ?_ ?_
      | refine LeO.bind ?_ (fun _ => ?_)
    · intro y0 y1 y2 y3 y4
      unfold waybilllaw5_ContBack.l0
      repeat' first
      | (with_reducible exact ih0 _ _ _ _ _)
      | (with_reducible exact ih1 _ _ _ _ _ _ _ _ _ _ _ _)
      | (with_reducible exact ih2 _ _ _ _ _)
      | (with_reducible exact ih3 _ _ _ _ _)
      | (with_reducible exact ih4 _ _ _ _ _ _)
      | (with_reducible exact cont_Frames.mono _ _ _ _ _ _ _)
      | (with_reducible exact cont_Parse.mono _ _)
      | (with_reducible exact fram_Parse.mono _ _)
      | (with_reducible exact waybilllaw5_awake.mono _)
      | (with_reducible exact LeO.refl _)
      | (with_reducible exact LeO.none _)
      | (with_reducible refine LeO.ite ?_ ?_)
      | (with_reducible refine LeO.bind ?_ (fun _ => ?_))
      | exact ih0 _ _ _ _ _
      | exact ih1 _ _ _ _ _ _ _ _ _ _ _ _
      | exact ih2 _ _ _ _ _
      | exact ih3 _ _ _ _ _
      | exact ih4 _ _ _ _ _ _
      | exact cont_Frames.mono _ _ _ _ _ _ _
      | exact cont_Parse.mono _ _
      | exact fram_Parse.mono _ _
      | exact waybilllaw5_awake.mono _
      | exact LeO.none _
      | refine LeO.ite ?_ ?_
      | refine LeO.bind ?_ (fun _ => ?_)
    · intro y0 y1 y2 y3 y4 y5
      unfold waybilllaw5_ContBack.j4
      repeat' first
      | (with_reducible exact ih0 _ _ _ _ _)
      | (with_reducible exact ih1 _ _ _ _ _ _ _ _ _ _ _ _)
      | (with_reducible exact ih2 _ _ _ _ _)
      | (with_reducible exact ih3 _ _ _ _ _)
      | (with_reducible exact ih4 _ _ _ _ _ _)
      | (with_reducible exact cont_Frames.mono _ _ _ _ _ _ _)
      | (with_reducible exact cont_Parse.mono _ _)
      | (with_reducible exact fram_Parse.mono _ _)
      | (with_reducible exact waybilllaw5_awake.mono _)
      | (with_reducible exact LeO.refl _)
      | (with_reducible exact LeO.none _)
      | (with_reducible refine LeO.ite ?_ ?_)
      | (with_reducible refine LeO.bind ?_ (fun _ => ?_))
      | exact ih0 _ _ _ _ _
      | exact ih1 _ _ _ _ _ _ _ _ _ _ _ _
      | exact ih2 _ _ _ _ _
      | exact ih3 _ _ _ _ _
      | exact ih4 _ _ _ _ _ _
      | exact cont_Frames.mono _ _ _ _ _ _ _
      | exact cont_Parse.mono _ _
      | exact fram_Parse.mono _ _
      | exact waybilllaw5_awake.mono _
      | exact LeO.none _
      | refine LeO.ite ?_ ?_
      | refine LeO.bind ?_ (fun _ => ?_)
theorem waybilllaw5_ContBack.mono : ∀ a0 a1 a2 a3 k, LeO (waybilllaw5_ContBack.f k a0 a1 a2 a3) (waybilllaw5_ContBack.f (k + 1) a0 a1 a2 a3) := by
  intro a0 a1 a2 a3 k
  obtain ⟨ih0, ih1, ih2, ih3, ih4⟩ := waybilllaw5_ContBack.mono_l k
  unfold waybilllaw5_ContBack.f
  repeat' first
      | (with_reducible exact ih0 _ _ _ _ _)
      | (with_reducible exact ih1 _ _ _ _ _ _ _ _ _ _ _ _)
      | (with_reducible exact ih2 _ _ _ _ _)
      | (with_reducible exact ih3 _ _ _ _ _)
      | (with_reducible exact ih4 _ _ _ _ _ _)
      | (with_reducible exact cont_Frames.mono _ _ _ _ _ _ _)
      | (with_reducible exact cont_Parse.mono _ _)
      | (with_reducible exact fram_Parse.mono _ _)
      | (with_reducible exact waybilllaw5_awake.mono _)
      | (with_reducible exact LeO.refl _)
      | (with_reducible exact LeO.none _)
      | (with_reducible refine LeO.ite ?_ ?_)
      | (with_reducible refine LeO.bind ?_ (fun _ => ?_))
      | exact ih0 _ _ _ _ _
      | exact ih1 _ _ _ _ _ _ _ _ _ _ _ _
      | exact ih2 _ _ _ _ _
      | exact ih3 _ _ _ _ _
      | exact ih4 _ _ _ _ _ _
      | exact cont_Frames.mono _ _ _ _ _ _ _
      | exact cont_Parse.mono _ _
      | exact fram_Parse.mono _ _
      | exact waybilllaw5_awake.mono _
      | exact LeO.none _
      | refine LeO.ite ?_ ?_
      | refine LeO.bind ?_ (fun _ => ?_)
set_option maxHeartbeats 8000000 in
set_option maxRecDepth 100000 in
theorem waybilllaw5_ContBack.calls (k : Nat) (a0 : Int) (a1 : ByteArray) (A2 : Option Addr) (c2 : Nat) (l2 : List Int) (a3 : Int) (r : Bool) (w : World) (hr2 : Kd.C (Kd.int .u8) w A2 l2.length l2) (hc2 : l2.length ≤ c2) (h : waybilllaw5_ContBack.f k a0 a1 l2 a3 = some r) :
    Calls Try.prog 14 #[.int .i64 a0, .string a1, .slice A2 l2.length c2, .int .i64 a3] w fun e w' => e = .returned (.bool r) ∧ Below w.heap.size w w' := by
  have hu25 := Try.underlying25
  have hu90 := Try.underlying90
  have HR2 := Aside0.mk hr2
  have HC2 := Aside0.mk hc2
  clear hr2 hc2
  have HB := Aside0.mk (Below.refl w.heap.size w)
  have H : (if (a1.size : Int) > 255 then (waybilllaw5_ContBack.j0 k a0 a1 l2 a3 true) else (waybilllaw5_ContBack.j0 k a0 a1 l2 a3 (decide ((l2.length : Int) > 20000)))) = some r := h
  clear h
  have HC5 := Aside0.mk H
  clear H
  go_enter Try.func14, Try.ntmps14
  go_upto_region 1 with (fail)
  go_cut [26] (fun v26 wc => ∃ (kq : Nat) (x26_4 : Bool), v26 = .bool x26_4 ∧ Aside0 (waybilllaw5_ContBack.j0 kq a0 a1 l2 a3 x26_4 = some r) ∧ Aside0 (kq ≤ k) ∧ Aside0 (Below w.heap.size w wc))
  case first =>
    have H := HC5.out
    clear HC5
    by_cases c6 : (a1.size : Int) > 255
    · rw [if_pos c6] at H
      have c6b0 : decide (255 < (a1.size : Int)) = true := decide_eq_true c6
      have c6b1 : decide (255 < a1.size) = true := decide_eq_true (by omega)
      clear c6
      (first | rw [c6b0] | rw [c6b2] | (simp only [i64_w, i32_w]; rw [c6b0]) | skip)
      have H' := Aside0.mk H
      clear H
      go_wp2
      go_meet
      case rel => exact ⟨_, (true), (by first | rfl | (simp; done) | (simp [*]; done)), H', ⟨by first | omega | exact Nat.le_refl _⟩, ⟨by repeat (first | (with_reducible first | exact HB.out | apply below_alloc | apply pw_below_drewN | apply below_drew1) | exact HB.out)⟩⟩
    · rw [if_neg c6] at H
      have c6b0 : decide (255 < (a1.size : Int)) = false := decide_eq_false c6
      have c6b1 : decide (255 < a1.size) = false := decide_eq_false (by omega)
      clear c6
      (first | rw [c6b0] | rw [c6b2] | (simp only [i64_w, i32_w]; rw [c6b0]) | skip)
      have H' := Aside0.mk H
      clear H
      go_wp2
      go_meet
      case rel => exact ⟨_, (decide ((l2.length : Int) > 20000)), (by first | rfl | (simp; done) | (simp [*]; done)), H', ⟨by first | omega | exact Nat.le_refl _⟩, ⟨by repeat (first | (with_reducible first | exact HB.out | apply below_alloc | apply pw_below_drewN | apply below_drew1) | exact HB.out)⟩⟩
  case rest =>
    clear HC5
    try clear c1
    try clear c2
    try clear p2
    try clear c6
    try clear c6b0
    try clear c6b1
    obtain ⟨kq, x26_4, rfl, HA, HJ4, HB⟩ := hcut
    cases kq with
    | zero => exact absurd HA.out (by simp [waybilllaw5_ContBack.j0])
    | succ kj4 =>
      have H := HA.out
      clear HA
      simp only [waybilllaw5_ContBack.j0] at H
      by_cases c7 : x26_4 = true
      · subst c7
        have H1 : ((waybilllaw5_awake.f kj4).bind fun t281 => (some t281)) = some r := by rw [if_pos rfl] at H; exact H
        clear H
        have H := H1
        clear H1
        replace H := Option.bind_eq_some_iff.mp H
        obtain ⟨t281, A80, H⟩ := H
        replace H : (some t281) = some r := H
        have A8 := Aside0.mk A80
        clear A80
        obtain rfl := Option.some.inj H
        go_wp2_with (first | ((with_reducible refine gate_callee (f := 15) rfl ?_); refine goesL_ (some 27) rfl rfl Try.func15 (by kernel_rfl) rfl #[] rfl (by (try simp only [List.map_toArray, List.map_cons, List.map_nil]); first | done | rfl | (simp only [List.length_drop, List.length_take]; rfl)) ?_; (with_reducible refine (waybilllaw5_awake.calls kj4  t281 _ A8.out).mono ?_); rintro e w9 ⟨rfl, hb⟩; refine ⟨_, rfl, ?_⟩; have n0_ := Aside0.mk (below_step (by repeat (first | (with_reducible first | exact HB.out | apply below_alloc | apply pw_below_drewN | apply below_drew1) | exact HB.out)) hb); clear HB; have HB := n0_; clear n0_; (try clear hb); (try clear hb2); (try clear hk); (try clear hi); (try clear hge)))
        all_goals first | (go_ret; exact ⟨by first | rfl | (simp [errW_none, errW_some]; done) | (simp [errW_none, errW_some]; rfl) | (simp [*, errW_none, errW_some]; done) | (simp [*, errW_none, errW_some]; rfl), by repeat (first | (with_reducible first | exact HB.out | apply below_alloc | apply pw_below_drewN | apply below_drew1) | exact HB.out)⟩) | (exfalso; simp_all; done)
      · replace c7 := Bool.eq_false_iff.mpr c7
        subst c7
        have H1 : ((cont_Frames.f kj4 ([] : List Int) (Go.bits .and .i64 a3 65535) 0 (Int.tmod (wrap64 ((Int.tmod a0 3) + 3)) 3) a1 l2).bind fun bt283 => (if bt283.2 = true then ((fram_Parse.f kj4 bt283.1).bind fun bt287 => (if bt287.2.2.2.2 = 0 then (if bt287.1 = 2 then (if bt287.2.1 = (Go.bits .and .i64 a3 65535) then (if bt287.2.2.2.1 < 0 then (waybilllaw5_ContBack.j1 kj4 a1 l2 (Go.bits .and .i64 a3 65535) bt283.1 bt287.2.2.2.1 true 0 (Int.tmod (wrap64 ((Int.tmod a0 3) + 3)) 3) a1 bt287.1 bt287.2.1 bt287.2.2.1) else (waybilllaw5_ContBack.j1 kj4 a1 l2 (Go.bits .and .i64 a3 65535) bt283.1 bt287.2.2.2.1 (decide (bt287.2.2.2.1 > (bt283.1.length : Int))) 0 (Int.tmod (wrap64 ((Int.tmod a0 3) + 3)) 3) a1 bt287.1 bt287.2.1 bt287.2.2.1)) else (waybilllaw5_ContBack.j1 kj4 a1 l2 (Go.bits .and .i64 a3 65535) bt283.1 bt287.2.2.2.1 true 0 (Int.tmod (wrap64 ((Int.tmod a0 3) + 3)) 3) a1 bt287.1 bt287.2.1 bt287.2.2.1)) else (waybilllaw5_ContBack.j1 kj4 a1 l2 (Go.bits .and .i64 a3 65535) bt283.1 bt287.2.2.2.1 true 0 (Int.tmod (wrap64 ((Int.tmod a0 3) + 3)) 3) a1 bt287.1 bt287.2.1 bt287.2.2.1)) else (waybilllaw5_ContBack.j1 kj4 a1 l2 (Go.bits .and .i64 a3 65535) bt283.1 bt287.2.2.2.1 true 0 (Int.tmod (wrap64 ((Int.tmod a0 3) + 3)) 3) a1 bt287.1 bt287.2.1 bt287.2.2.1))) else (none))) = some r := by rw [if_neg (show ¬ (false = true) by decide)] at H; exact H
        clear H
        have H := H1
        clear H1
        replace H := Option.bind_eq_some_iff.mp H
        obtain ⟨⟨t283, t286⟩, A100, H⟩ := H
        replace H : (if t286 = true then ((fram_Parse.f kj4 t283).bind fun bt287 => (if bt287.2.2.2.2 = 0 then (if bt287.1 = 2 then (if bt287.2.1 = (Go.bits .and .i64 a3 65535) then (if bt287.2.2.2.1 < 0 then (waybilllaw5_ContBack.j1 kj4 a1 l2 (Go.bits .and .i64 a3 65535) t283 bt287.2.2.2.1 true 0 (Int.tmod (wrap64 ((Int.tmod a0 3) + 3)) 3) a1 bt287.1 bt287.2.1 bt287.2.2.1) else (waybilllaw5_ContBack.j1 kj4 a1 l2 (Go.bits .and .i64 a3 65535) t283 bt287.2.2.2.1 (decide (bt287.2.2.2.1 > (t283.length : Int))) 0 (Int.tmod (wrap64 ((Int.tmod a0 3) + 3)) 3) a1 bt287.1 bt287.2.1 bt287.2.2.1)) else (waybilllaw5_ContBack.j1 kj4 a1 l2 (Go.bits .and .i64 a3 65535) t283 bt287.2.2.2.1 true 0 (Int.tmod (wrap64 ((Int.tmod a0 3) + 3)) 3) a1 bt287.1 bt287.2.1 bt287.2.2.1)) else (waybilllaw5_ContBack.j1 kj4 a1 l2 (Go.bits .and .i64 a3 65535) t283 bt287.2.2.2.1 true 0 (Int.tmod (wrap64 ((Int.tmod a0 3) + 3)) 3) a1 bt287.1 bt287.2.1 bt287.2.2.1)) else (waybilllaw5_ContBack.j1 kj4 a1 l2 (Go.bits .and .i64 a3 65535) t283 bt287.2.2.2.1 true 0 (Int.tmod (wrap64 ((Int.tmod a0 3) + 3)) 3) a1 bt287.1 bt287.2.1 bt287.2.2.1))) else (none)) = some r := H
        have A10 := Aside0.mk A100
        clear A100
        by_cases c11 : t286 = true
        · subst c11
          have H1 : ((fram_Parse.f kj4 t283).bind fun bt287 => (if bt287.2.2.2.2 = 0 then (if bt287.1 = 2 then (if bt287.2.1 = (Go.bits .and .i64 a3 65535) then (if bt287.2.2.2.1 < 0 then (waybilllaw5_ContBack.j1 kj4 a1 l2 (Go.bits .and .i64 a3 65535) t283 bt287.2.2.2.1 true 0 (Int.tmod (wrap64 ((Int.tmod a0 3) + 3)) 3) a1 bt287.1 bt287.2.1 bt287.2.2.1) else (waybilllaw5_ContBack.j1 kj4 a1 l2 (Go.bits .and .i64 a3 65535) t283 bt287.2.2.2.1 (decide (bt287.2.2.2.1 > (t283.length : Int))) 0 (Int.tmod (wrap64 ((Int.tmod a0 3) + 3)) 3) a1 bt287.1 bt287.2.1 bt287.2.2.1)) else (waybilllaw5_ContBack.j1 kj4 a1 l2 (Go.bits .and .i64 a3 65535) t283 bt287.2.2.2.1 true 0 (Int.tmod (wrap64 ((Int.tmod a0 3) + 3)) 3) a1 bt287.1 bt287.2.1 bt287.2.2.1)) else (waybilllaw5_ContBack.j1 kj4 a1 l2 (Go.bits .and .i64 a3 65535) t283 bt287.2.2.2.1 true 0 (Int.tmod (wrap64 ((Int.tmod a0 3) + 3)) 3) a1 bt287.1 bt287.2.1 bt287.2.2.1)) else (waybilllaw5_ContBack.j1 kj4 a1 l2 (Go.bits .and .i64 a3 65535) t283 bt287.2.2.2.1 true 0 (Int.tmod (wrap64 ((Int.tmod a0 3) + 3)) 3) a1 bt287.1 bt287.2.1 bt287.2.2.1))) = some r := by rw [if_pos rfl] at H; exact H
          clear H
          have H := H1
          clear H1
          replace H := Option.bind_eq_some_iff.mp H
          obtain ⟨⟨t287, t288, t289, t292, t293⟩, A120, H⟩ := H
          replace H : (if t293 = 0 then (if t287 = 2 then (if t288 = (Go.bits .and .i64 a3 65535) then (if t292 < 0 then (waybilllaw5_ContBack.j1 kj4 a1 l2 (Go.bits .and .i64 a3 65535) t283 t292 true 0 (Int.tmod (wrap64 ((Int.tmod a0 3) + 3)) 3) a1 t287 t288 t289) else (waybilllaw5_ContBack.j1 kj4 a1 l2 (Go.bits .and .i64 a3 65535) t283 t292 (decide (t292 > (t283.length : Int))) 0 (Int.tmod (wrap64 ((Int.tmod a0 3) + 3)) 3) a1 t287 t288 t289)) else (waybilllaw5_ContBack.j1 kj4 a1 l2 (Go.bits .and .i64 a3 65535) t283 t292 true 0 (Int.tmod (wrap64 ((Int.tmod a0 3) + 3)) 3) a1 t287 t288 t289)) else (waybilllaw5_ContBack.j1 kj4 a1 l2 (Go.bits .and .i64 a3 65535) t283 t292 true 0 (Int.tmod (wrap64 ((Int.tmod a0 3) + 3)) 3) a1 t287 t288 t289)) else (waybilllaw5_ContBack.j1 kj4 a1 l2 (Go.bits .and .i64 a3 65535) t283 t292 true 0 (Int.tmod (wrap64 ((Int.tmod a0 3) + 3)) 3) a1 t287 t288 t289)) = some r := H
          have A12 := Aside0.mk A120
          clear A120
          have HC13 := Aside0.mk H
          clear H
          go_upto_region 9 with (first | ((with_reducible refine gate_dst (N := 9) rfl ?_); (try (refine gate_guard (by rfl) ?_; dsimp only)); refine box_event ?hg (N := 9) ?hd (cs := #[.int .u64 0, .int .i64 0, .string (⟨#[]⟩ : ByteArray)]) (t := 25) ?hr ?_; (case hd => rfl); (case hg => rfl); (case hr => first | (go_simp; done) | (go_simp; rfl)); intro gb282 hg w14 hbox hb; have n0_ := Aside0.mk (below_step (by repeat (first | (with_reducible first | exact HB.out | apply below_alloc | apply pw_below_drewN | apply below_drew1) | exact HB.out)) hb); have n1_ := Aside0.mk (hbox); have n2_ := Aside0.mk ((by rw [hg]; exact (below_size (by repeat (first | (with_reducible first | exact HB.out | apply below_alloc | apply pw_below_drewN | apply below_drew1) | exact HB.out))) : w.heap.size ≤ gb282)); have n3_ := Aside0.mk ((by rw [hg]; exact (below_size (by repeat (first | (with_reducible first | exact HB.out | apply below_alloc | apply pw_below_drewN | apply below_drew1) | exact HB.out))) : w.heap.size ≤ gb282)); clear HB; have HB := n0_; have BK282 := n1_; have GW282 := n2_; have GE282 := n3_; clear n0_ n1_ n2_ n3_; clear hb hbox hg; have hcz15_0 : w14.cell? ⟨gb282, 0, none⟩ = some (.int .u64 0) := (blk_cell BK282.out 0).trans rfl; have hcz15_1 : w14.cell? ⟨gb282, 1, none⟩ = some (.int .i64 0) := (blk_cell BK282.out 1).trans rfl; have hcz15_2 : w14.cell? ⟨gb282, 2, none⟩ = some (.string (⟨#[]⟩ : ByteArray)) := (blk_cell BK282.out 2).trans rfl; have hfz15_0 := blk_frozen BK282.out 0; have hfz15_1 := blk_frozen BK282.out 1; have hfz15_2 := blk_frozen BK282.out 2) | ((with_reducible refine gate_store (t := 25) (p := 9) rfl ?_); refine store_event (t := 25) (p := 9) (v := ?vo_w16) (w1 := (((w14.setCell ⟨gb282, 0, none⟩ (.int .u64 0)).setCell ⟨gb282, 1, none⟩ (.int .i64 (Int.tmod (wrap64 ((Int.tmod a0 3) + 3)) 3))).setCell ⟨gb282, 2, none⟩ (.string a1))) ?hg ?ho ?hn ?hr ?_; (case ho => rfl); (case hg => rfl); (case hn => rfl); (case hr => first | (go_simp; done) | (go_simp; rfl)); intro w16 hw; have n0_ : Aside0 (w16.heap[gb282]? = some (.cells #[.int .u64 0, .int .i64 (Int.tmod (wrap64 ((Int.tmod a0 3) + 3)) 3), .string a1] 25 (0, 0))) := ⟨(by rw [hw]; exact (by (with_reducible repeat (first | refine blk_drewN ?_ _ | refine blk_drew ?_ | refine blk_alloc ?_ _)); refine blk_put (cs := #[.int .u64 0, .int .i64 (Int.tmod (wrap64 ((Int.tmod a0 3) + 3)) 3), .string (⟨#[]⟩ : ByteArray)]) ?_ 2 _ rfl; (with_reducible repeat (first | refine blk_drewN ?_ _ | refine blk_drew ?_ | refine blk_alloc ?_ _)); refine blk_put (cs := #[.int .u64 0, .int .i64 0, .string (⟨#[]⟩ : ByteArray)]) ?_ 1 _ rfl; (with_reducible repeat (first | refine blk_drewN ?_ _ | refine blk_drew ?_ | refine blk_alloc ?_ _)); refine blk_put (cs := #[.int .u64 0, .int .i64 0, .string (⟨#[]⟩ : ByteArray)]) ?_ 0 _ rfl; (with_reducible repeat (first | refine blk_drewN ?_ _ | refine blk_drew ?_ | refine blk_alloc ?_ _)); exact BK282.out))⟩; have n1_ : Aside0 (Below w.heap.size w w16) := ⟨(by rw [hw]; exact (by repeat (first | (with_reducible first | exact HB.out | apply below_alloc | apply pw_below_drewN | apply below_drew1 | refine below_set ?_ GE282.out) | exact HB.out)))⟩; clear hw; clear BK282; clear HB; have BK282 := n0_; have HB := n1_; clear n0_ n1_; have hcz17_0 : w16.cell? ⟨gb282, 0, none⟩ = some (.int .u64 0) := (blk_cell BK282.out 0).trans rfl; have hcz17_1 : w16.cell? ⟨gb282, 1, none⟩ = some (.int .i64 (Int.tmod (wrap64 ((Int.tmod a0 3) + 3)) 3)) := (blk_cell BK282.out 1).trans rfl; have hcz17_2 : w16.cell? ⟨gb282, 2, none⟩ = some (.string a1) := (blk_cell BK282.out 2).trans rfl; have hfz17_0 := blk_frozen BK282.out 0; have hfz17_1 := blk_frozen BK282.out 1; have hfz17_2 := blk_frozen BK282.out 2) | ((with_reducible refine gate_callee (f := 33) rfl ?_); refine goesL_ (some 40) rfl rfl Try.func33 (by kernel_rfl) rfl #[.slice none 0 0, .int .i64 (Go.bits .and .i64 a3 65535), .agg #[.int .u64 0, .int .i64 (Int.tmod (wrap64 ((Int.tmod a0 3) + 3)) 3), .string a1], .slice A2 l2.length c2] rfl (by (try simp only [List.map_toArray, List.map_cons, List.map_nil]); first | done | rfl | (simp only [List.length_drop, List.length_take]; rfl)) ?_; (refine (cont_Frames.calls kj4 _ _ ([] : List Int) (Go.bits .and .i64 a3 65535) 0 (Int.tmod (wrap64 ((Int.tmod a0 3) + 3)) 3) a1 (fun k_ => k_ < w.heap.size) _ _ l2 t283 true _ ?side1 ?side2 ?side3 A10.out).mono ?_); (case side1 => exact Kd.C_nil _ _); (case side2 => exact Nat.le_refl _); (case side3 => exact Kd.V_mk HC2.out (Kd.F_below (Kd.C_F (Kd.heap_int .u8) HR2.out) (by repeat (first | (with_reducible first | exact HB.out | apply below_alloc | apply pw_below_drewN | apply below_drew1 | refine below_set ?_ GE282.out) | exact HB.out)))); rintro e w18 ⟨v284, rfl, ho0, hb⟩; refine ⟨_, rfl, ?_⟩; have n0_ := Aside0.mk (Kd.R_lower (Kd.R_mono (ok' := fun k_ => True) ho0 (fun _ hk_ => trivial)) (below_size (by repeat (first | (with_reducible first | exact HB.out | apply below_alloc | apply pw_below_drewN | apply below_drew1 | refine below_set ?_ GE282.out) | exact HB.out)))); have n1_ := Aside0.mk (blk_below (g := gb282) (o := .cells #[.int .u64 0, .int .i64 (Int.tmod (wrap64 ((Int.tmod a0 3) + 3)) 3), .string a1] 25 (0, 0)) (by (with_reducible repeat (first | refine blk_drewN ?_ _ | refine blk_drew ?_ | refine blk_alloc ?_ _)); exact BK282.out) hb); have n2_ := Aside0.mk (below_step (by repeat (first | (with_reducible first | exact HB.out | apply below_alloc | apply pw_below_drewN | apply below_drew1 | refine below_set ?_ GE282.out) | exact HB.out)) hb); clear BK282; clear HB; have HO285 := n0_; have BK282 := n1_; have HB := n2_; clear n0_ n1_ n2_; (try clear hb); (try clear hb2); (try clear hk); (try clear hi); (try clear hge); (try clear ho0); obtain ⟨Ao19, co19, eo19⟩ := Kd.R_slice HO285.out; subst eo19) | ((with_reducible refine gate_callee (f := 48) rfl ?_); refine goesL_ (some 47) rfl rfl Try.func48 (by kernel_rfl) rfl #[.slice Ao19 t283.length co19] rfl (by (try simp only [List.map_toArray, List.map_cons, List.map_nil]); first | done | rfl | (simp only [List.length_drop, List.length_take]; rfl)) ?_; (with_reducible refine (fram_Parse.calls kj4 _ _ t283 t287 t288 t289 t292 t293 _ ?side1 ?side2 A12.out).mono ?_); (case side1 => repeat (first | exact (Kd.R_reads' HO285.out).2.2 | (with_reducible refine Kd.C_alloc ?_ _) | (with_reducible refine Kd.C_drewN ?_ _) | (with_reducible refine Kd.C_drew ?_))); (case side2 => exact (Kd.R_reads' HO285.out).2.1); rintro e w20 ⟨v290, rfl, ho0, hb⟩; refine ⟨_, rfl, ?_⟩; have n0_ := Aside0.mk (Kd.R_elder' (by (with_reducible repeat (first | apply Kd.R_alloc | apply Kd.R_drewN | apply Kd.R_drew)); exact HO285.out) (Kd.R_base ho0) hb); have n1_ := Aside0.mk (Kd.R_lower (Kd.R_new' ho0 (Kd.R_lt (by (with_reducible repeat (first | apply Kd.R_alloc | apply Kd.R_drewN | apply Kd.R_drew)); exact HO285.out))) (below_size (by repeat (first | (with_reducible first | exact HB.out | apply below_alloc | apply pw_below_drewN | apply below_drew1 | refine below_set ?_ GE282.out) | exact HB.out)))); have n2_ := Aside0.mk (blk_below (g := gb282) (o := .cells #[.int .u64 0, .int .i64 (Int.tmod (wrap64 ((Int.tmod a0 3) + 3)) 3), .string a1] 25 (0, 0)) (by (with_reducible repeat (first | refine blk_drewN ?_ _ | refine blk_drew ?_ | refine blk_alloc ?_ _)); exact BK282.out) hb); have n3_ := Aside0.mk (below_step (by repeat (first | (with_reducible first | exact HB.out | apply below_alloc | apply pw_below_drewN | apply below_drew1 | refine below_set ?_ GE282.out) | exact HB.out)) hb); clear HO285; clear BK282; clear HB; have HO285 := n0_; have HO291 := n1_; have BK282 := n2_; have HB := n3_; clear n0_ n1_ n2_ n3_; (try clear hb); (try clear hb2); (try clear hk); (try clear hi); (try clear hge); (try clear ho0)) | ((with_reducible refine gate_dst (N := 12) rfl ?_); (try (refine gate_guard (by rfl) ?_; dsimp only)); refine box_event ?hg (N := 12) ?hd (cs := #[.int .i64 0, .int .i64 0, .slice none 0 0]) (t := 90) ?hr ?_; (case hd => rfl); (case hg => rfl); (case hr => first | (go_simp; done) | (go_simp; rfl)); intro gb294 hg w21 hbox hb; have n0_ := Aside0.mk (Kd.R_below (by (with_reducible repeat (first | apply Kd.R_alloc | apply Kd.R_drewN | apply Kd.R_drew)); exact HO285.out) hb); have n1_ := Aside0.mk (Kd.R_below (by (with_reducible repeat (first | apply Kd.R_alloc | apply Kd.R_drewN | apply Kd.R_drew)); exact HO291.out) hb); have n2_ := Aside0.mk (blk_below (g := gb282) (o := .cells #[.int .u64 0, .int .i64 (Int.tmod (wrap64 ((Int.tmod a0 3) + 3)) 3), .string a1] 25 (0, 0)) (by (with_reducible repeat (first | refine blk_drewN ?_ _ | refine blk_drew ?_ | refine blk_alloc ?_ _)); exact BK282.out) hb); have n3_ := Aside0.mk (below_step (by repeat (first | (with_reducible first | exact HB.out | apply below_alloc | apply pw_below_drewN | apply below_drew1 | refine below_set ?_ GE282.out) | exact HB.out)) hb); have n4_ := Aside0.mk (hbox); have n5_ := Aside0.mk ((by rw [hg]; exact (below_size (by repeat (first | (with_reducible first | exact HB.out | apply below_alloc | apply pw_below_drewN | apply below_drew1 | refine below_set ?_ GE282.out) | exact HB.out))) : w.heap.size ≤ gb294)); have n6_ := Aside0.mk ((by rw [hg]; exact (below_size (by repeat (first | (with_reducible first | exact HB.out | apply below_alloc | apply pw_below_drewN | apply below_drew1 | refine below_set ?_ GE282.out) | exact HB.out))) : w.heap.size ≤ gb294)); have n7_ := Aside0.mk ((by rw [hg]; exact Nat.ne_of_lt (blk_lt (g := gb282) (o := .cells #[.int .u64 0, .int .i64 (Int.tmod (wrap64 ((Int.tmod a0 3) + 3)) 3), .string a1] 25 (0, 0)) (by (with_reducible repeat (first | refine blk_drewN ?_ _ | refine blk_drew ?_ | refine blk_alloc ?_ _)); exact BK282.out)) : gb282 ≠ gb294)); have n8_ := Aside0.mk ((by rw [hg]; exact Nat.ne_of_gt (blk_lt (g := gb282) (o := .cells #[.int .u64 0, .int .i64 (Int.tmod (wrap64 ((Int.tmod a0 3) + 3)) 3), .string a1] 25 (0, 0)) (by (with_reducible repeat (first | refine blk_drewN ?_ _ | refine blk_drew ?_ | refine blk_alloc ?_ _)); exact BK282.out)) : gb294 ≠ gb282)); clear HO285; clear HO291; clear BK282; clear HB; have HO285 := n0_; have HO291 := n1_; have BK282 := n2_; have HB := n3_; have BK294 := n4_; have GW294 := n5_; have GE294 := n6_; have NB282_294 := n7_; have NB294_282 := n8_; clear n0_ n1_ n2_ n3_ n4_ n5_ n6_ n7_ n8_; clear hb hbox hg; have hnb22 := NB294_282.out; have hnc22 := NB282_294.out; have hcz23_0 : w21.cell? ⟨gb294, 0, none⟩ = some (.int .i64 0) := (blk_cell BK294.out 0).trans rfl; have hcz23_1 : w21.cell? ⟨gb294, 1, none⟩ = some (.int .i64 0) := (blk_cell BK294.out 1).trans rfl; have hcz23_2 : w21.cell? ⟨gb294, 2, none⟩ = some (.slice none 0 0) := (blk_cell BK294.out 2).trans rfl; have hfz23_0 := blk_frozen BK294.out 0; have hfz23_1 := blk_frozen BK294.out 1; have hfz23_2 := blk_frozen BK294.out 2; obtain ⟨Ao24, co24, eo24⟩ := Kd.R_slice HO291.out; subst eo24))
          (try simp only [Act.put, List.setIfInBounds_toArray, List.set_cons_zero, List.set_cons_succ])
          go_cut [73] (fun v73 wc => ∃ (kq : Nat) (x73_12 : Bool), v73 = .bool x73_12 ∧ Aside0 (waybilllaw5_ContBack.j1 kq a1 l2 (Go.bits .and .i64 a3 65535) t283 t292 x73_12 0 (Int.tmod (wrap64 ((Int.tmod a0 3) + 3)) 3) a1 t287 t288 t289 = some r) ∧ Aside0 (kq ≤ kj4) ∧ Aside0 (Kd.Q (Kd.int .u8) 5 wc w.heap.size (fun k_ => some k_ ≠ ((.slice Ao24 t289.length co24) : Value).ownBlock) (.slice Ao19 t283.length co19) t283) ∧ Aside0 (Kd.R (Kd.int .u8) 5 wc w.heap.size (fun k_ => some k_ ≠ ((.slice Ao19 t283.length co19) : Value).ownBlock) (.slice Ao24 t289.length co24) t289) ∧ Aside0 (wc.heap[gb282]? = some (.cells #[.int .u64 0, .int .i64 (Int.tmod (wrap64 ((Int.tmod a0 3) + 3)) 3), .string a1] 25 (0, 0))) ∧ Aside0 (wc.heap[gb294]? = some (.cells #[.int .i64 t287, .int .i64 t288, (.slice Ao24 t289.length co24)] 90 (0, 0))) ∧ Aside0 (Below w.heap.size w wc))
          case first =>
            have H := HC13.out
            clear HC13
            by_cases c25 : t293 = 0
            · rw [if_pos c25] at H
              have c25b0 : (t293 == 0) = true := beq_iff_eq.mpr c25
              have c25b1 : (t293 != 0) = false := bne_eq_false_iff_eq.mpr c25
              clear c25
              (first | rw [c25b0] | rw [c25b2] | (simp only [i64_w, i32_w]; rw [c25b0]) | skip)
              by_cases c26 : t287 = 2
              · rw [if_pos c26] at H
                have c26b0 : (t287 == 2) = true := beq_iff_eq.mpr c26
                have c26b1 : (t287 != 2) = false := bne_eq_false_iff_eq.mpr c26
                clear c26
                by_cases c27 : t288 = (Go.bits .and .i64 a3 65535)
                · rw [if_pos c27] at H
                  have c27b0 : (t288 == (Go.bits .and .i64 a3 65535)) = true := beq_iff_eq.mpr c27
                  have c27b1 : (t288 != (Go.bits .and .i64 a3 65535)) = false := bne_eq_false_iff_eq.mpr c27
                  clear c27
                  by_cases c28 : t292 < 0
                  · rw [if_pos c28] at H
                    have c28b0 : decide (t292 < 0) = true := decide_eq_true c28
                    clear c28
                    have H' := Aside0.mk H
                    clear H
                    have hnb29 := NB294_282.out
                    have hnc29 := NB282_294.out
                    have hcz30_0 : w21.cell? ⟨gb294, 0, none⟩ = some (.int .i64 0) := (blk_cell BK294.out 0).trans rfl
                    have hcz30_1 : w21.cell? ⟨gb294, 1, none⟩ = some (.int .i64 0) := (blk_cell BK294.out 1).trans rfl
                    have hcz30_2 : w21.cell? ⟨gb294, 2, none⟩ = some (.slice none 0 0) := (blk_cell BK294.out 2).trans rfl
                    have hfz30_0 := blk_frozen BK294.out 0
                    have hfz30_1 := blk_frozen BK294.out 1
                    have hfz30_2 := blk_frozen BK294.out 2
                    go_wp2
                    go_meet
                    case rel => exact ⟨_, (true), (by first | rfl | (simp; done) | (simp [*]; done)), H', ⟨by have := HJ4.out; first | omega | exact Nat.le_refl _⟩, ⟨Kd.Q_of_R (by (with_reducible repeat (first | apply Kd.R_alloc | apply Kd.R_drewN | apply Kd.R_drew)); exact Kd.R_mono (Kd.R_far (p := ⟨gb294, 2, none⟩) (Kd.R_far (p := ⟨gb294, 1, none⟩) (Kd.R_far (p := ⟨gb294, 0, none⟩) (Kd.R_types HO285.out BK294.out (by decide)) (fun _ hk => hk.2) (.int .i64 t287)) (fun _ hk => hk.2) (.int .i64 t288)) (fun _ hk => hk.2) (.slice Ao24 t289.length co24)) (fun _ hk => hk.1.2))⟩, ⟨by (with_reducible repeat (first | apply Kd.R_alloc | apply Kd.R_drewN | apply Kd.R_drew)); exact Kd.R_mono (Kd.R_far (p := ⟨gb294, 2, none⟩) (Kd.R_far (p := ⟨gb294, 1, none⟩) (Kd.R_far (p := ⟨gb294, 0, none⟩) (Kd.R_types HO291.out BK294.out (by decide)) (fun _ hk => hk.2) (.int .i64 t287)) (fun _ hk => hk.2) (.int .i64 t288)) (fun _ hk => hk.2) (.slice Ao24 t289.length co24)) (fun _ hk => hk.1.2)⟩, ⟨by (with_reducible repeat (first | refine blk_drewN ?_ _ | refine blk_drew ?_ | refine blk_alloc ?_ _)); refine blk_far ?_ NB282_294.out _; (with_reducible repeat (first | refine blk_drewN ?_ _ | refine blk_drew ?_ | refine blk_alloc ?_ _)); refine blk_far ?_ NB282_294.out _; (with_reducible repeat (first | refine blk_drewN ?_ _ | refine blk_drew ?_ | refine blk_alloc ?_ _)); refine blk_far ?_ NB282_294.out _; (with_reducible repeat (first | refine blk_drewN ?_ _ | refine blk_drew ?_ | refine blk_alloc ?_ _)); exact BK282.out⟩, ⟨by (with_reducible repeat (first | refine blk_drewN ?_ _ | refine blk_drew ?_ | refine blk_alloc ?_ _)); refine blk_put (cs := #[.int .i64 t287, .int .i64 t288, .slice none 0 0]) ?_ 2 _ rfl; (with_reducible repeat (first | refine blk_drewN ?_ _ | refine blk_drew ?_ | refine blk_alloc ?_ _)); refine blk_put (cs := #[.int .i64 t287, .int .i64 0, .slice none 0 0]) ?_ 1 _ rfl; (with_reducible repeat (first | refine blk_drewN ?_ _ | refine blk_drew ?_ | refine blk_alloc ?_ _)); refine blk_put (cs := #[.int .i64 0, .int .i64 0, .slice none 0 0]) ?_ 0 _ rfl; (with_reducible repeat (first | refine blk_drewN ?_ _ | refine blk_drew ?_ | refine blk_alloc ?_ _)); exact BK294.out⟩, ⟨by repeat (first | (with_reducible first | exact HB.out | apply below_alloc | apply pw_below_drewN | apply below_drew1 | refine below_set ?_ GE282.out | refine below_set ?_ GE294.out) | exact HB.out)⟩⟩
                  · rw [if_neg c28] at H
                    have c28b0 : decide (t292 < 0) = false := decide_eq_false c28
                    clear c28
                    have H' := Aside0.mk H
                    clear H
                    have hnb31 := NB294_282.out
                    have hnc31 := NB282_294.out
                    have hcz32_0 : w21.cell? ⟨gb294, 0, none⟩ = some (.int .i64 0) := (blk_cell BK294.out 0).trans rfl
                    have hcz32_1 : w21.cell? ⟨gb294, 1, none⟩ = some (.int .i64 0) := (blk_cell BK294.out 1).trans rfl
                    have hcz32_2 : w21.cell? ⟨gb294, 2, none⟩ = some (.slice none 0 0) := (blk_cell BK294.out 2).trans rfl
                    have hfz32_0 := blk_frozen BK294.out 0
                    have hfz32_1 := blk_frozen BK294.out 1
                    have hfz32_2 := blk_frozen BK294.out 2
                    go_wp2
                    go_meet
                    case rel => exact ⟨_, (decide (t292 > (t283.length : Int))), (by first | rfl | (simp; done) | (simp [*]; done)), H', ⟨by have := HJ4.out; first | omega | exact Nat.le_refl _⟩, ⟨Kd.Q_of_R (by (with_reducible repeat (first | apply Kd.R_alloc | apply Kd.R_drewN | apply Kd.R_drew)); exact Kd.R_mono (Kd.R_far (p := ⟨gb294, 2, none⟩) (Kd.R_far (p := ⟨gb294, 1, none⟩) (Kd.R_far (p := ⟨gb294, 0, none⟩) (Kd.R_types HO285.out BK294.out (by decide)) (fun _ hk => hk.2) (.int .i64 t287)) (fun _ hk => hk.2) (.int .i64 t288)) (fun _ hk => hk.2) (.slice Ao24 t289.length co24)) (fun _ hk => hk.1.2))⟩, ⟨by (with_reducible repeat (first | apply Kd.R_alloc | apply Kd.R_drewN | apply Kd.R_drew)); exact Kd.R_mono (Kd.R_far (p := ⟨gb294, 2, none⟩) (Kd.R_far (p := ⟨gb294, 1, none⟩) (Kd.R_far (p := ⟨gb294, 0, none⟩) (Kd.R_types HO291.out BK294.out (by decide)) (fun _ hk => hk.2) (.int .i64 t287)) (fun _ hk => hk.2) (.int .i64 t288)) (fun _ hk => hk.2) (.slice Ao24 t289.length co24)) (fun _ hk => hk.1.2)⟩, ⟨by (with_reducible repeat (first | refine blk_drewN ?_ _ | refine blk_drew ?_ | refine blk_alloc ?_ _)); refine blk_far ?_ NB282_294.out _; (with_reducible repeat (first | refine blk_drewN ?_ _ | refine blk_drew ?_ | refine blk_alloc ?_ _)); refine blk_far ?_ NB282_294.out _; (with_reducible repeat (first | refine blk_drewN ?_ _ | refine blk_drew ?_ | refine blk_alloc ?_ _)); refine blk_far ?_ NB282_294.out _; (with_reducible repeat (first | refine blk_drewN ?_ _ | refine blk_drew ?_ | refine blk_alloc ?_ _)); exact BK282.out⟩, ⟨by (with_reducible repeat (first | refine blk_drewN ?_ _ | refine blk_drew ?_ | refine blk_alloc ?_ _)); refine blk_put (cs := #[.int .i64 t287, .int .i64 t288, .slice none 0 0]) ?_ 2 _ rfl; (with_reducible repeat (first | refine blk_drewN ?_ _ | refine blk_drew ?_ | refine blk_alloc ?_ _)); refine blk_put (cs := #[.int .i64 t287, .int .i64 0, .slice none 0 0]) ?_ 1 _ rfl; (with_reducible repeat (first | refine blk_drewN ?_ _ | refine blk_drew ?_ | refine blk_alloc ?_ _)); refine blk_put (cs := #[.int .i64 0, .int .i64 0, .slice none 0 0]) ?_ 0 _ rfl; (with_reducible repeat (first | refine blk_drewN ?_ _ | refine blk_drew ?_ | refine blk_alloc ?_ _)); exact BK294.out⟩, ⟨by repeat (first | (with_reducible first | exact HB.out | apply below_alloc | apply pw_below_drewN | apply below_drew1 | refine below_set ?_ GE282.out | refine below_set ?_ GE294.out) | exact HB.out)⟩⟩
                · rw [if_neg c27] at H
                  have c27b0 : (t288 == (Go.bits .and .i64 a3 65535)) = false := beq_eq_false_iff_ne.mpr c27
                  have c27b1 : (t288 != (Go.bits .and .i64 a3 65535)) = true := bne_iff_ne.mpr c27
                  have H' := Aside0.mk H
                  clear H
                  have hnb33 := NB294_282.out
                  have hnc33 := NB282_294.out
                  have hcz34_0 : w21.cell? ⟨gb294, 0, none⟩ = some (.int .i64 0) := (blk_cell BK294.out 0).trans rfl
                  have hcz34_1 : w21.cell? ⟨gb294, 1, none⟩ = some (.int .i64 0) := (blk_cell BK294.out 1).trans rfl
                  have hcz34_2 : w21.cell? ⟨gb294, 2, none⟩ = some (.slice none 0 0) := (blk_cell BK294.out 2).trans rfl
                  have hfz34_0 := blk_frozen BK294.out 0
                  have hfz34_1 := blk_frozen BK294.out 1
                  have hfz34_2 := blk_frozen BK294.out 2
                  go_wp2
                  go_meet
                  case rel => exact ⟨_, (true), (by first | rfl | (simp; done) | (simp [*]; done)), H', ⟨by have := HJ4.out; first | omega | exact Nat.le_refl _⟩, ⟨Kd.Q_of_R (by (with_reducible repeat (first | apply Kd.R_alloc | apply Kd.R_drewN | apply Kd.R_drew)); exact Kd.R_mono (Kd.R_far (p := ⟨gb294, 2, none⟩) (Kd.R_far (p := ⟨gb294, 1, none⟩) (Kd.R_far (p := ⟨gb294, 0, none⟩) (Kd.R_types HO285.out BK294.out (by decide)) (fun _ hk => hk.2) (.int .i64 t287)) (fun _ hk => hk.2) (.int .i64 t288)) (fun _ hk => hk.2) (.slice Ao24 t289.length co24)) (fun _ hk => hk.1.2))⟩, ⟨by (with_reducible repeat (first | apply Kd.R_alloc | apply Kd.R_drewN | apply Kd.R_drew)); exact Kd.R_mono (Kd.R_far (p := ⟨gb294, 2, none⟩) (Kd.R_far (p := ⟨gb294, 1, none⟩) (Kd.R_far (p := ⟨gb294, 0, none⟩) (Kd.R_types HO291.out BK294.out (by decide)) (fun _ hk => hk.2) (.int .i64 t287)) (fun _ hk => hk.2) (.int .i64 t288)) (fun _ hk => hk.2) (.slice Ao24 t289.length co24)) (fun _ hk => hk.1.2)⟩, ⟨by (with_reducible repeat (first | refine blk_drewN ?_ _ | refine blk_drew ?_ | refine blk_alloc ?_ _)); refine blk_far ?_ NB282_294.out _; (with_reducible repeat (first | refine blk_drewN ?_ _ | refine blk_drew ?_ | refine blk_alloc ?_ _)); refine blk_far ?_ NB282_294.out _; (with_reducible repeat (first | refine blk_drewN ?_ _ | refine blk_drew ?_ | refine blk_alloc ?_ _)); refine blk_far ?_ NB282_294.out _; (with_reducible repeat (first | refine blk_drewN ?_ _ | refine blk_drew ?_ | refine blk_alloc ?_ _)); exact BK282.out⟩, ⟨by (with_reducible repeat (first | refine blk_drewN ?_ _ | refine blk_drew ?_ | refine blk_alloc ?_ _)); refine blk_put (cs := #[.int .i64 t287, .int .i64 t288, .slice none 0 0]) ?_ 2 _ rfl; (with_reducible repeat (first | refine blk_drewN ?_ _ | refine blk_drew ?_ | refine blk_alloc ?_ _)); refine blk_put (cs := #[.int .i64 t287, .int .i64 0, .slice none 0 0]) ?_ 1 _ rfl; (with_reducible repeat (first | refine blk_drewN ?_ _ | refine blk_drew ?_ | refine blk_alloc ?_ _)); refine blk_put (cs := #[.int .i64 0, .int .i64 0, .slice none 0 0]) ?_ 0 _ rfl; (with_reducible repeat (first | refine blk_drewN ?_ _ | refine blk_drew ?_ | refine blk_alloc ?_ _)); exact BK294.out⟩, ⟨by repeat (first | (with_reducible first | exact HB.out | apply below_alloc | apply pw_below_drewN | apply below_drew1 | refine below_set ?_ GE282.out | refine below_set ?_ GE294.out) | exact HB.out)⟩⟩
              · rw [if_neg c26] at H
                have c26b0 : (t287 == 2) = false := beq_eq_false_iff_ne.mpr c26
                have c26b1 : (t287 != 2) = true := bne_iff_ne.mpr c26
                have H' := Aside0.mk H
                clear H
                have hnb35 := NB294_282.out
                have hnc35 := NB282_294.out
                have hcz36_0 : w21.cell? ⟨gb294, 0, none⟩ = some (.int .i64 0) := (blk_cell BK294.out 0).trans rfl
                have hcz36_1 : w21.cell? ⟨gb294, 1, none⟩ = some (.int .i64 0) := (blk_cell BK294.out 1).trans rfl
                have hcz36_2 : w21.cell? ⟨gb294, 2, none⟩ = some (.slice none 0 0) := (blk_cell BK294.out 2).trans rfl
                have hfz36_0 := blk_frozen BK294.out 0
                have hfz36_1 := blk_frozen BK294.out 1
                have hfz36_2 := blk_frozen BK294.out 2
                go_wp2
                go_meet
                case rel => exact ⟨_, (true), (by first | rfl | (simp; done) | (simp [*]; done)), H', ⟨by have := HJ4.out; first | omega | exact Nat.le_refl _⟩, ⟨Kd.Q_of_R (by (with_reducible repeat (first | apply Kd.R_alloc | apply Kd.R_drewN | apply Kd.R_drew)); exact Kd.R_mono (Kd.R_far (p := ⟨gb294, 2, none⟩) (Kd.R_far (p := ⟨gb294, 1, none⟩) (Kd.R_far (p := ⟨gb294, 0, none⟩) (Kd.R_types HO285.out BK294.out (by decide)) (fun _ hk => hk.2) (.int .i64 t287)) (fun _ hk => hk.2) (.int .i64 t288)) (fun _ hk => hk.2) (.slice Ao24 t289.length co24)) (fun _ hk => hk.1.2))⟩, ⟨by (with_reducible repeat (first | apply Kd.R_alloc | apply Kd.R_drewN | apply Kd.R_drew)); exact Kd.R_mono (Kd.R_far (p := ⟨gb294, 2, none⟩) (Kd.R_far (p := ⟨gb294, 1, none⟩) (Kd.R_far (p := ⟨gb294, 0, none⟩) (Kd.R_types HO291.out BK294.out (by decide)) (fun _ hk => hk.2) (.int .i64 t287)) (fun _ hk => hk.2) (.int .i64 t288)) (fun _ hk => hk.2) (.slice Ao24 t289.length co24)) (fun _ hk => hk.1.2)⟩, ⟨by (with_reducible repeat (first | refine blk_drewN ?_ _ | refine blk_drew ?_ | refine blk_alloc ?_ _)); refine blk_far ?_ NB282_294.out _; (with_reducible repeat (first | refine blk_drewN ?_ _ | refine blk_drew ?_ | refine blk_alloc ?_ _)); refine blk_far ?_ NB282_294.out _; (with_reducible repeat (first | refine blk_drewN ?_ _ | refine blk_drew ?_ | refine blk_alloc ?_ _)); refine blk_far ?_ NB282_294.out _; (with_reducible repeat (first | refine blk_drewN ?_ _ | refine blk_drew ?_ | refine blk_alloc ?_ _)); exact BK282.out⟩, ⟨by (with_reducible repeat (first | refine blk_drewN ?_ _ | refine blk_drew ?_ | refine blk_alloc ?_ _)); refine blk_put (cs := #[.int .i64 t287, .int .i64 t288, .slice none 0 0]) ?_ 2 _ rfl; (with_reducible repeat (first | refine blk_drewN ?_ _ | refine blk_drew ?_ | refine blk_alloc ?_ _)); refine blk_put (cs := #[.int .i64 t287, .int .i64 0, .slice none 0 0]) ?_ 1 _ rfl; (with_reducible repeat (first | refine blk_drewN ?_ _ | refine blk_drew ?_ | refine blk_alloc ?_ _)); refine blk_put (cs := #[.int .i64 0, .int .i64 0, .slice none 0 0]) ?_ 0 _ rfl; (with_reducible repeat (first | refine blk_drewN ?_ _ | refine blk_drew ?_ | refine blk_alloc ?_ _)); exact BK294.out⟩, ⟨by repeat (first | (with_reducible first | exact HB.out | apply below_alloc | apply pw_below_drewN | apply below_drew1 | refine below_set ?_ GE282.out | refine below_set ?_ GE294.out) | exact HB.out)⟩⟩
            · rw [if_neg c25] at H
              have c25b0 : (t293 == 0) = false := beq_eq_false_iff_ne.mpr c25
              have c25b1 : (t293 != 0) = true := bne_iff_ne.mpr c25
              (first | rw [c25b0] | rw [c25b2] | (simp only [i64_w, i32_w]; rw [c25b0]) | skip)
              have H' := Aside0.mk H
              clear H
              go_wp2
              go_meet
              case rel => exact ⟨_, (true), (by first | rfl | (simp; done) | (simp [*]; done)), H', ⟨by have := HJ4.out; first | omega | exact Nat.le_refl _⟩, ⟨Kd.Q_of_R (by (with_reducible repeat (first | apply Kd.R_alloc | apply Kd.R_drewN | apply Kd.R_drew)); exact Kd.R_mono (Kd.R_far (p := ⟨gb294, 2, none⟩) (Kd.R_far (p := ⟨gb294, 1, none⟩) (Kd.R_far (p := ⟨gb294, 0, none⟩) (Kd.R_types HO285.out BK294.out (by decide)) (fun _ hk => hk.2) (.int .i64 t287)) (fun _ hk => hk.2) (.int .i64 t288)) (fun _ hk => hk.2) (.slice Ao24 t289.length co24)) (fun _ hk => hk.1.2))⟩, ⟨by (with_reducible repeat (first | apply Kd.R_alloc | apply Kd.R_drewN | apply Kd.R_drew)); exact Kd.R_mono (Kd.R_far (p := ⟨gb294, 2, none⟩) (Kd.R_far (p := ⟨gb294, 1, none⟩) (Kd.R_far (p := ⟨gb294, 0, none⟩) (Kd.R_types HO291.out BK294.out (by decide)) (fun _ hk => hk.2) (.int .i64 t287)) (fun _ hk => hk.2) (.int .i64 t288)) (fun _ hk => hk.2) (.slice Ao24 t289.length co24)) (fun _ hk => hk.1.2)⟩, ⟨by (with_reducible repeat (first | refine blk_drewN ?_ _ | refine blk_drew ?_ | refine blk_alloc ?_ _)); refine blk_far ?_ NB282_294.out _; (with_reducible repeat (first | refine blk_drewN ?_ _ | refine blk_drew ?_ | refine blk_alloc ?_ _)); refine blk_far ?_ NB282_294.out _; (with_reducible repeat (first | refine blk_drewN ?_ _ | refine blk_drew ?_ | refine blk_alloc ?_ _)); refine blk_far ?_ NB282_294.out _; (with_reducible repeat (first | refine blk_drewN ?_ _ | refine blk_drew ?_ | refine blk_alloc ?_ _)); exact BK282.out⟩, ⟨by (with_reducible repeat (first | refine blk_drewN ?_ _ | refine blk_drew ?_ | refine blk_alloc ?_ _)); refine blk_put (cs := #[.int .i64 t287, .int .i64 t288, .slice none 0 0]) ?_ 2 _ rfl; (with_reducible repeat (first | refine blk_drewN ?_ _ | refine blk_drew ?_ | refine blk_alloc ?_ _)); refine blk_put (cs := #[.int .i64 t287, .int .i64 0, .slice none 0 0]) ?_ 1 _ rfl; (with_reducible repeat (first | refine blk_drewN ?_ _ | refine blk_drew ?_ | refine blk_alloc ?_ _)); refine blk_put (cs := #[.int .i64 0, .int .i64 0, .slice none 0 0]) ?_ 0 _ rfl; (with_reducible repeat (first | refine blk_drewN ?_ _ | refine blk_drew ?_ | refine blk_alloc ?_ _)); exact BK294.out⟩, ⟨by repeat (first | (with_reducible first | exact HB.out | apply below_alloc | apply pw_below_drewN | apply below_drew1 | refine below_set ?_ GE282.out | refine below_set ?_ GE294.out) | exact HB.out)⟩⟩
          case rest =>
            clear HC13
            try clear c1
            try clear c2
            try clear p2
            try clear c3
            try clear c4
            try clear c6
            try clear c6b0
            try clear c6b1
            try clear p6
            try clear c7
            try clear c11
            try clear c14
            try clear c15
            try clear c22
            try clear c25
            try clear c25b0
            try clear c25b1
            try clear c26
            try clear c26b0
            try clear c26b1
            try clear c27
            try clear c27b0
            try clear c27b1
            try clear c28
            try clear c28b0
            try clear c29
            try clear c31
            try clear c33
            try clear c35
            try clear hcz15_0
            try clear hcz15_1
            try clear hcz15_2
            try clear hcz17_0
            try clear hcz17_1
            try clear hcz17_2
            try clear hcz23_0
            try clear hcz23_1
            try clear hcz23_2
            try clear hcz30_0
            try clear hcz30_1
            try clear hcz30_2
            try clear hcz32_0
            try clear hcz32_1
            try clear hcz32_2
            try clear hcz34_0
            try clear hcz34_1
            try clear hcz34_2
            try clear hcz36_0
            try clear hcz36_1
            try clear hcz36_2
            try clear hfz15_0
            try clear hfz15_1
            try clear hfz15_2
            try clear hfz17_0
            try clear hfz17_1
            try clear hfz17_2
            try clear hfz23_0
            try clear hfz23_1
            try clear hfz23_2
            try clear hfz30_0
            try clear hfz30_1
            try clear hfz30_2
            try clear hfz32_0
            try clear hfz32_1
            try clear hfz32_2
            try clear hfz34_0
            try clear hfz34_1
            try clear hfz34_2
            try clear hfz36_0
            try clear hfz36_1
            try clear hfz36_2
            try clear p2
            obtain ⟨kq, x73_12, rfl, HA, HJ12, HO_10, HO_295002, BK282, BK294, HB⟩ := hcut
            cases kq with
            | zero => exact absurd HA.out (by simp [waybilllaw5_ContBack.j1])
            | succ kj12 =>
              have H := HA.out
              clear HA
              simp only [waybilllaw5_ContBack.j1] at H
              by_cases c37 : x73_12 = true
              · subst c37
                have H1 : (none) = some r := by rw [if_pos rfl] at H; exact H
                clear H
                have H := H1
                clear H1
                exact absurd H (by simp)
              · replace c37 := Bool.eq_false_iff.mpr c37
                subst c37
                have H1 : ((cont_Parse.f kj12 t289).bind fun bt295 => (if bt295.2.2.2 = 0 then (if bt295.1 = (IntKind.u64.wrap ((l2.length : Int))) then (if bt295.2.1 = (Int.tmod (wrap64 ((Int.tmod a0 3) + 3)) 3) then (waybilllaw5_ContBack.j2 kj12 l2 (Go.bits .and .i64 a3 65535) t283 t292 (bt295.2.2.1.toList != a1.toList)) else (waybilllaw5_ContBack.j2 kj12 l2 (Go.bits .and .i64 a3 65535) t283 t292 true)) else (waybilllaw5_ContBack.j2 kj12 l2 (Go.bits .and .i64 a3 65535) t283 t292 true)) else (waybilllaw5_ContBack.j2 kj12 l2 (Go.bits .and .i64 a3 65535) t283 t292 true))) = some r := by rw [if_neg (show ¬ (false = true) by decide)] at H; exact H
                clear H
                have H := H1
                clear H1
                replace H := Option.bind_eq_some_iff.mp H
                obtain ⟨⟨t295, t296, t297, t298⟩, A380, H⟩ := H
                replace H : (if t298 = 0 then (if t295 = (IntKind.u64.wrap ((l2.length : Int))) then (if t296 = (Int.tmod (wrap64 ((Int.tmod a0 3) + 3)) 3) then (waybilllaw5_ContBack.j2 kj12 l2 (Go.bits .and .i64 a3 65535) t283 t292 (t297.toList != a1.toList)) else (waybilllaw5_ContBack.j2 kj12 l2 (Go.bits .and .i64 a3 65535) t283 t292 true)) else (waybilllaw5_ContBack.j2 kj12 l2 (Go.bits .and .i64 a3 65535) t283 t292 true)) else (waybilllaw5_ContBack.j2 kj12 l2 (Go.bits .and .i64 a3 65535) t283 t292 true)) = some r := H
                have A38 := Aside0.mk A380
                clear A380
                have HC39 := Aside0.mk H
                clear H
                have hnb40 := NB294_282.out
                have hnc40 := NB282_294.out
                have hcz41_0 : wc.cell? ⟨gb294, 0, none⟩ = some (.int .i64 t287) := (blk_cell BK294.out 0).trans rfl
                have hcz41_1 : wc.cell? ⟨gb294, 1, none⟩ = some (.int .i64 t288) := (blk_cell BK294.out 1).trans rfl
                have hcz41_2 : wc.cell? ⟨gb294, 2, none⟩ = some (.slice Ao24 t289.length co24) := (blk_cell BK294.out 2).trans rfl
                have hfz41_0 := blk_frozen BK294.out 0
                have hfz41_1 := blk_frozen BK294.out 1
                have hfz41_2 := blk_frozen BK294.out 2
                go_upto_region 12 with (first | ((with_reducible refine gate_callee (f := 17) rfl ?_); refine goesL_ (some 77) rfl rfl Try.func17 (by kernel_rfl) rfl #[.slice Ao24 t289.length co24] rfl (by (try simp only [List.map_toArray, List.map_cons, List.map_nil]); first | done | rfl | (simp only [List.length_drop, List.length_take]; rfl)) ?_; (with_reducible refine (cont_Parse.calls kj12 _ _ t289 t295 t296 t297 t298 _ ?side1 ?side2 A38.out).mono ?_); (case side1 => repeat (first | exact (Kd.R_reads' HO_295002.out).2.2 | (with_reducible refine Kd.C_alloc ?_ _) | (with_reducible refine Kd.C_drewN ?_ _) | (with_reducible refine Kd.C_drew ?_))); (case side2 => exact (Kd.R_reads' HO_295002.out).2.1); rintro e w42 ⟨rfl, hb⟩; refine ⟨_, rfl, ?_⟩; have n0_ := Aside0.mk (Kd.Q_below (by (with_reducible repeat (first | apply Kd.Q_alloc | apply Kd.Q_drewN | apply Kd.Q_drew)); exact HO_10.out) hb); have n1_ := Aside0.mk (Kd.R_below (by (with_reducible repeat (first | apply Kd.R_alloc | apply Kd.R_drewN | apply Kd.R_drew)); exact HO_295002.out) hb); have n2_ := Aside0.mk (blk_below (g := gb282) (o := .cells #[.int .u64 0, .int .i64 (Int.tmod (wrap64 ((Int.tmod a0 3) + 3)) 3), .string a1] 25 (0, 0)) (by (with_reducible repeat (first | refine blk_drewN ?_ _ | refine blk_drew ?_ | refine blk_alloc ?_ _)); exact BK282.out) hb); have n3_ := Aside0.mk (blk_below (g := gb294) (o := .cells #[.int .i64 t287, .int .i64 t288, .slice Ao24 t289.length co24] 90 (0, 0)) (by (with_reducible repeat (first | refine blk_drewN ?_ _ | refine blk_drew ?_ | refine blk_alloc ?_ _)); exact BK294.out) hb); have n4_ := Aside0.mk (below_step (by repeat (first | (with_reducible first | exact HB.out | apply below_alloc | apply pw_below_drewN | apply below_drew1 | refine below_set ?_ GE282.out | refine below_set ?_ GE294.out) | exact HB.out)) hb); clear HO_10; clear HO_295002; clear BK282; clear BK294; clear HB; have HO_10 := n0_; have HO_295002 := n1_; have BK282 := n2_; have BK294 := n3_; have HB := n4_; clear n0_ n1_ n2_ n3_ n4_; (try clear hb); (try clear hb2); (try clear hk); (try clear hi); (try clear hge)) | ((with_reducible refine gate_dst (N := 15) rfl ?_); (try (refine gate_guard (by rfl) ?_; dsimp only)); refine box_event ?hg (N := 15) ?hd (cs := #[.int .u64 0, .int .i64 0, .string (⟨#[]⟩ : ByteArray)]) (t := 25) ?hr ?_; (case hd => rfl); (case hg => rfl); (case hr => first | (go_simp; done) | (go_simp; rfl)); intro gb299 hg w43 hbox hb; have n0_ := Aside0.mk (Kd.Q_below (by (with_reducible repeat (first | apply Kd.Q_alloc | apply Kd.Q_drewN | apply Kd.Q_drew)); exact HO_10.out) hb); have n1_ := Aside0.mk (Kd.R_below (by (with_reducible repeat (first | apply Kd.R_alloc | apply Kd.R_drewN | apply Kd.R_drew)); exact HO_295002.out) hb); have n2_ := Aside0.mk (blk_below (g := gb282) (o := .cells #[.int .u64 0, .int .i64 (Int.tmod (wrap64 ((Int.tmod a0 3) + 3)) 3), .string a1] 25 (0, 0)) (by (with_reducible repeat (first | refine blk_drewN ?_ _ | refine blk_drew ?_ | refine blk_alloc ?_ _)); exact BK282.out) hb); have n3_ := Aside0.mk (blk_below (g := gb294) (o := .cells #[.int .i64 t287, .int .i64 t288, .slice Ao24 t289.length co24] 90 (0, 0)) (by (with_reducible repeat (first | refine blk_drewN ?_ _ | refine blk_drew ?_ | refine blk_alloc ?_ _)); exact BK294.out) hb); have n4_ := Aside0.mk (below_step (by repeat (first | (with_reducible first | exact HB.out | apply below_alloc | apply pw_below_drewN | apply below_drew1 | refine below_set ?_ GE282.out | refine below_set ?_ GE294.out) | exact HB.out)) hb); have n5_ := Aside0.mk (hbox); have n6_ := Aside0.mk ((by rw [hg]; exact (below_size (by repeat (first | (with_reducible first | exact HB.out | apply below_alloc | apply pw_below_drewN | apply below_drew1 | refine below_set ?_ GE282.out | refine below_set ?_ GE294.out) | exact HB.out))) : w.heap.size ≤ gb299)); have n7_ := Aside0.mk ((by rw [hg]; exact (below_size (by repeat (first | (with_reducible first | exact HB.out | apply below_alloc | apply pw_below_drewN | apply below_drew1 | refine below_set ?_ GE282.out | refine below_set ?_ GE294.out) | exact HB.out))) : w.heap.size ≤ gb299)); have n8_ := Aside0.mk ((by rw [hg]; exact Nat.ne_of_lt (blk_lt (g := gb282) (o := .cells #[.int .u64 0, .int .i64 (Int.tmod (wrap64 ((Int.tmod a0 3) + 3)) 3), .string a1] 25 (0, 0)) (by (with_reducible repeat (first | refine blk_drewN ?_ _ | refine blk_drew ?_ | refine blk_alloc ?_ _)); exact BK282.out)) : gb282 ≠ gb299)); have n9_ := Aside0.mk ((by rw [hg]; exact Nat.ne_of_gt (blk_lt (g := gb282) (o := .cells #[.int .u64 0, .int .i64 (Int.tmod (wrap64 ((Int.tmod a0 3) + 3)) 3), .string a1] 25 (0, 0)) (by (with_reducible repeat (first | refine blk_drewN ?_ _ | refine blk_drew ?_ | refine blk_alloc ?_ _)); exact BK282.out)) : gb299 ≠ gb282)); have n10_ := Aside0.mk ((by rw [hg]; exact Nat.ne_of_lt (blk_lt (g := gb294) (o := .cells #[.int .i64 t287, .int .i64 t288, .slice Ao24 t289.length co24] 90 (0, 0)) (by (with_reducible repeat (first | refine blk_drewN ?_ _ | refine blk_drew ?_ | refine blk_alloc ?_ _)); exact BK294.out)) : gb294 ≠ gb299)); have n11_ := Aside0.mk ((by rw [hg]; exact Nat.ne_of_gt (blk_lt (g := gb294) (o := .cells #[.int .i64 t287, .int .i64 t288, .slice Ao24 t289.length co24] 90 (0, 0)) (by (with_reducible repeat (first | refine blk_drewN ?_ _ | refine blk_drew ?_ | refine blk_alloc ?_ _)); exact BK294.out)) : gb299 ≠ gb294)); clear HO_10; clear HO_295002; clear BK282; clear BK294; clear HB; have HO_10 := n0_; have HO_295002 := n1_; have BK282 := n2_; have BK294 := n3_; have HB := n4_; have BK299 := n5_; have GW299 := n6_; have GE299 := n7_; have NB282_299 := n8_; have NB299_282 := n9_; have NB294_299 := n10_; have NB299_294 := n11_; clear n0_ n1_ n2_ n3_ n4_ n5_ n6_ n7_ n8_ n9_ n10_ n11_; clear hb hbox hg; have hnb44 := NB299_282.out; have hnc44 := NB282_299.out; have hnb45 := NB299_294.out; have hnc45 := NB294_299.out; have hcz46_0 : w43.cell? ⟨gb299, 0, none⟩ = some (.int .u64 0) := (blk_cell BK299.out 0).trans rfl; have hcz46_1 : w43.cell? ⟨gb299, 1, none⟩ = some (.int .i64 0) := (blk_cell BK299.out 1).trans rfl; have hcz46_2 : w43.cell? ⟨gb299, 2, none⟩ = some (.string (⟨#[]⟩ : ByteArray)) := (blk_cell BK299.out 2).trans rfl; have hfz46_0 := blk_frozen BK299.out 0; have hfz46_1 := blk_frozen BK299.out 1; have hfz46_2 := blk_frozen BK299.out 2))
                (try simp only [Act.put, List.setIfInBounds_toArray, List.set_cons_zero, List.set_cons_succ])
                go_cut [102] (fun v102 wc => ∃ (kq : Nat) (x102_38 : Bool), v102 = .bool x102_38 ∧ Aside0 (waybilllaw5_ContBack.j2 kq l2 (Go.bits .and .i64 a3 65535) t283 t292 x102_38 = some r) ∧ Aside0 (kq ≤ kj12) ∧ Aside0 (Kd.Q (Kd.int .u8) 5 wc w.heap.size (fun k_ => some k_ ≠ ((.slice Ao24 t289.length co24) : Value).ownBlock) (.slice Ao19 t283.length co19) t283) ∧ Aside0 (Kd.R (Kd.int .u8) 5 wc w.heap.size (fun k_ => some k_ ≠ ((.slice Ao19 t283.length co19) : Value).ownBlock) (.slice Ao24 t289.length co24) t289) ∧ Aside0 (wc.heap[gb282]? = some (.cells #[.int .u64 0, .int .i64 (Int.tmod (wrap64 ((Int.tmod a0 3) + 3)) 3), .string a1] 25 (0, 0))) ∧ Aside0 (wc.heap[gb294]? = some (.cells #[.int .i64 t287, .int .i64 t288, (.slice Ao24 t289.length co24)] 90 (0, 0))) ∧ Aside0 (wc.heap[gb299]? = some (.cells #[.int .u64 t295, .int .i64 t296, .string t297] 25 (0, 0))) ∧ Aside0 (Below w.heap.size w wc))
                case first =>
                  have H := HC39.out
                  clear HC39
                  by_cases c47 : t298 = 0
                  · rw [if_pos c47] at H
                    have c47b0 : (t298 == 0) = true := beq_iff_eq.mpr c47
                    have c47b1 : (t298 != 0) = false := bne_eq_false_iff_eq.mpr c47
                    clear c47
                    (first | rw [c47b0] | rw [c47b2] | (simp only [i64_w, i32_w]; rw [c47b0]) | skip)
                    by_cases c48 : t295 = (IntKind.u64.wrap ((l2.length : Int)))
                    · rw [if_pos c48] at H
                      have c48b0 : (t295 == (IntKind.u64.wrap ((l2.length : Int)))) = true := beq_iff_eq.mpr c48
                      have c48b1 : (t295 != (IntKind.u64.wrap ((l2.length : Int)))) = false := bne_eq_false_iff_eq.mpr c48
                      clear c48
                      by_cases c49 : t296 = (Int.tmod (wrap64 ((Int.tmod a0 3) + 3)) 3)
                      · rw [if_pos c49] at H
                        have c49b0 : (t296 == (Int.tmod (wrap64 ((Int.tmod a0 3) + 3)) 3)) = true := beq_iff_eq.mpr c49
                        have c49b1 : (t296 != (Int.tmod (wrap64 ((Int.tmod a0 3) + 3)) 3)) = false := bne_eq_false_iff_eq.mpr c49
                        clear c49
                        have H' := Aside0.mk H
                        clear H
                        have hnb50 := NB299_282.out
                        have hnc50 := NB282_299.out
                        have hnb51 := NB299_294.out
                        have hnc51 := NB294_299.out
                        have hcz52_0 : w43.cell? ⟨gb299, 0, none⟩ = some (.int .u64 0) := (blk_cell BK299.out 0).trans rfl
                        have hcz52_1 : w43.cell? ⟨gb299, 1, none⟩ = some (.int .i64 0) := (blk_cell BK299.out 1).trans rfl
                        have hcz52_2 : w43.cell? ⟨gb299, 2, none⟩ = some (.string (⟨#[]⟩ : ByteArray)) := (blk_cell BK299.out 2).trans rfl
                        have hfz52_0 := blk_frozen BK299.out 0
                        have hfz52_1 := blk_frozen BK299.out 1
                        have hfz52_2 := blk_frozen BK299.out 2
                        have hnb53 := NB282_294.out
                        have hnc53 := NB294_282.out
                        have hcz54_0 : w43.cell? ⟨gb282, 0, none⟩ = some (.int .u64 0) := (blk_cell BK282.out 0).trans rfl
                        have hcz54_1 : w43.cell? ⟨gb282, 1, none⟩ = some (.int .i64 (Int.tmod (wrap64 ((Int.tmod a0 3) + 3)) 3)) := (blk_cell BK282.out 1).trans rfl
                        have hcz54_2 : w43.cell? ⟨gb282, 2, none⟩ = some (.string a1) := (blk_cell BK282.out 2).trans rfl
                        have hfz54_0 := blk_frozen BK282.out 0
                        have hfz54_1 := blk_frozen BK282.out 1
                        have hfz54_2 := blk_frozen BK282.out 2
                        go_wp2
                        go_meet
                        case rel => exact ⟨_, ((t297.toList != a1.toList)), (by first | rfl | (simp; done) | (simp [*]; done)), H', ⟨by have := HJ4.out; have := HJ12.out; first | omega | exact Nat.le_refl _⟩, ⟨by (with_reducible repeat (first | apply Kd.Q_alloc | apply Kd.Q_drewN | apply Kd.Q_drew)); exact Kd.Q_mono (Kd.Q_far (p := ⟨gb299, 2, none⟩) (Kd.Q_far (p := ⟨gb299, 1, none⟩) (Kd.Q_far (p := ⟨gb299, 0, none⟩) (Kd.Q_types HO_10.out BK299.out (by decide)) (fun _ hk => hk.2) (.int .u64 t295)) (fun _ hk => hk.2) (.int .i64 t296)) (fun _ hk => hk.2) (.string t297)) (fun _ hk => hk.1)⟩, ⟨by (with_reducible repeat (first | apply Kd.R_alloc | apply Kd.R_drewN | apply Kd.R_drew)); exact Kd.R_mono (Kd.R_far (p := ⟨gb299, 2, none⟩) (Kd.R_far (p := ⟨gb299, 1, none⟩) (Kd.R_far (p := ⟨gb299, 0, none⟩) (Kd.R_types HO_295002.out BK299.out (by decide)) (fun _ hk => hk.2) (.int .u64 t295)) (fun _ hk => hk.2) (.int .i64 t296)) (fun _ hk => hk.2) (.string t297)) (fun _ hk => hk.1)⟩, ⟨by (with_reducible repeat (first | refine blk_drewN ?_ _ | refine blk_drew ?_ | refine blk_alloc ?_ _)); refine blk_far ?_ NB282_299.out _; (with_reducible repeat (first | refine blk_drewN ?_ _ | refine blk_drew ?_ | refine blk_alloc ?_ _)); refine blk_far ?_ NB282_299.out _; (with_reducible repeat (first | refine blk_drewN ?_ _ | refine blk_drew ?_ | refine blk_alloc ?_ _)); refine blk_far ?_ NB282_299.out _; (with_reducible repeat (first | refine blk_drewN ?_ _ | refine blk_drew ?_ | refine blk_alloc ?_ _)); exact BK282.out⟩, ⟨by (with_reducible repeat (first | refine blk_drewN ?_ _ | refine blk_drew ?_ | refine blk_alloc ?_ _)); refine blk_far ?_ NB294_299.out _; (with_reducible repeat (first | refine blk_drewN ?_ _ | refine blk_drew ?_ | refine blk_alloc ?_ _)); refine blk_far ?_ NB294_299.out _; (with_reducible repeat (first | refine blk_drewN ?_ _ | refine blk_drew ?_ | refine blk_alloc ?_ _)); refine blk_far ?_ NB294_299.out _; (with_reducible repeat (first | refine blk_drewN ?_ _ | refine blk_drew ?_ | refine blk_alloc ?_ _)); exact BK294.out⟩, ⟨by (with_reducible repeat (first | refine blk_drewN ?_ _ | refine blk_drew ?_ | refine blk_alloc ?_ _)); refine blk_put (cs := #[.int .u64 t295, .int .i64 t296, .string (⟨#[]⟩ : ByteArray)]) ?_ 2 _ rfl; (with_reducible repeat (first | refine blk_drewN ?_ _ | refine blk_drew ?_ | refine blk_alloc ?_ _)); refine blk_put (cs := #[.int .u64 t295, .int .i64 0, .string (⟨#[]⟩ : ByteArray)]) ?_ 1 _ rfl; (with_reducible repeat (first | refine blk_drewN ?_ _ | refine blk_drew ?_ | refine blk_alloc ?_ _)); refine blk_put (cs := #[.int .u64 0, .int .i64 0, .string (⟨#[]⟩ : ByteArray)]) ?_ 0 _ rfl; (with_reducible repeat (first | refine blk_drewN ?_ _ | refine blk_drew ?_ | refine blk_alloc ?_ _)); exact BK299.out⟩, ⟨by repeat (first | (with_reducible first | exact HB.out | apply below_alloc | apply pw_below_drewN | apply below_drew1 | refine below_set ?_ GE282.out | refine below_set ?_ GE294.out | refine below_set ?_ GE299.out) | exact HB.out)⟩⟩
                      · rw [if_neg c49] at H
                        have c49b0 : (t296 == (Int.tmod (wrap64 ((Int.tmod a0 3) + 3)) 3)) = false := beq_eq_false_iff_ne.mpr c49
                        have c49b1 : (t296 != (Int.tmod (wrap64 ((Int.tmod a0 3) + 3)) 3)) = true := bne_iff_ne.mpr c49
                        have H' := Aside0.mk H
                        clear H
                        have hnb55 := NB299_282.out
                        have hnc55 := NB282_299.out
                        have hnb56 := NB299_294.out
                        have hnc56 := NB294_299.out
                        have hcz57_0 : w43.cell? ⟨gb299, 0, none⟩ = some (.int .u64 0) := (blk_cell BK299.out 0).trans rfl
                        have hcz57_1 : w43.cell? ⟨gb299, 1, none⟩ = some (.int .i64 0) := (blk_cell BK299.out 1).trans rfl
                        have hcz57_2 : w43.cell? ⟨gb299, 2, none⟩ = some (.string (⟨#[]⟩ : ByteArray)) := (blk_cell BK299.out 2).trans rfl
                        have hfz57_0 := blk_frozen BK299.out 0
                        have hfz57_1 := blk_frozen BK299.out 1
                        have hfz57_2 := blk_frozen BK299.out 2
                        have hnb58 := NB282_294.out
                        have hnc58 := NB294_282.out
                        have hcz59_0 : w43.cell? ⟨gb282, 0, none⟩ = some (.int .u64 0) := (blk_cell BK282.out 0).trans rfl
                        have hcz59_1 : w43.cell? ⟨gb282, 1, none⟩ = some (.int .i64 (Int.tmod (wrap64 ((Int.tmod a0 3) + 3)) 3)) := (blk_cell BK282.out 1).trans rfl
                        have hcz59_2 : w43.cell? ⟨gb282, 2, none⟩ = some (.string a1) := (blk_cell BK282.out 2).trans rfl
                        have hfz59_0 := blk_frozen BK282.out 0
                        have hfz59_1 := blk_frozen BK282.out 1
                        have hfz59_2 := blk_frozen BK282.out 2
                        go_wp2
                        go_meet
                        case rel => exact ⟨_, (true), (by first | rfl | (simp; done) | (simp [*]; done)), H', ⟨by have := HJ4.out; have := HJ12.out; first | omega | exact Nat.le_refl _⟩, ⟨by (with_reducible repeat (first | apply Kd.Q_alloc | apply Kd.Q_drewN | apply Kd.Q_drew)); exact Kd.Q_mono (Kd.Q_far (p := ⟨gb299, 2, none⟩) (Kd.Q_far (p := ⟨gb299, 1, none⟩) (Kd.Q_far (p := ⟨gb299, 0, none⟩) (Kd.Q_types HO_10.out BK299.out (by decide)) (fun _ hk => hk.2) (.int .u64 t295)) (fun _ hk => hk.2) (.int .i64 t296)) (fun _ hk => hk.2) (.string t297)) (fun _ hk => hk.1)⟩, ⟨by (with_reducible repeat (first | apply Kd.R_alloc | apply Kd.R_drewN | apply Kd.R_drew)); exact Kd.R_mono (Kd.R_far (p := ⟨gb299, 2, none⟩) (Kd.R_far (p := ⟨gb299, 1, none⟩) (Kd.R_far (p := ⟨gb299, 0, none⟩) (Kd.R_types HO_295002.out BK299.out (by decide)) (fun _ hk => hk.2) (.int .u64 t295)) (fun _ hk => hk.2) (.int .i64 t296)) (fun _ hk => hk.2) (.string t297)) (fun _ hk => hk.1)⟩, ⟨by (with_reducible repeat (first | refine blk_drewN ?_ _ | refine blk_drew ?_ | refine blk_alloc ?_ _)); refine blk_far ?_ NB282_299.out _; (with_reducible repeat (first | refine blk_drewN ?_ _ | refine blk_drew ?_ | refine blk_alloc ?_ _)); refine blk_far ?_ NB282_299.out _; (with_reducible repeat (first | refine blk_drewN ?_ _ | refine blk_drew ?_ | refine blk_alloc ?_ _)); refine blk_far ?_ NB282_299.out _; (with_reducible repeat (first | refine blk_drewN ?_ _ | refine blk_drew ?_ | refine blk_alloc ?_ _)); exact BK282.out⟩, ⟨by (with_reducible repeat (first | refine blk_drewN ?_ _ | refine blk_drew ?_ | refine blk_alloc ?_ _)); refine blk_far ?_ NB294_299.out _; (with_reducible repeat (first | refine blk_drewN ?_ _ | refine blk_drew ?_ | refine blk_alloc ?_ _)); refine blk_far ?_ NB294_299.out _; (with_reducible repeat (first | refine blk_drewN ?_ _ | refine blk_drew ?_ | refine blk_alloc ?_ _)); refine blk_far ?_ NB294_299.out _; (with_reducible repeat (first | refine blk_drewN ?_ _ | refine blk_drew ?_ | refine blk_alloc ?_ _)); exact BK294.out⟩, ⟨by (with_reducible repeat (first | refine blk_drewN ?_ _ | refine blk_drew ?_ | refine blk_alloc ?_ _)); refine blk_put (cs := #[.int .u64 t295, .int .i64 t296, .string (⟨#[]⟩ : ByteArray)]) ?_ 2 _ rfl; (with_reducible repeat (first | refine blk_drewN ?_ _ | refine blk_drew ?_ | refine blk_alloc ?_ _)); refine blk_put (cs := #[.int .u64 t295, .int .i64 0, .string (⟨#[]⟩ : ByteArray)]) ?_ 1 _ rfl; (with_reducible repeat (first | refine blk_drewN ?_ _ | refine blk_drew ?_ | refine blk_alloc ?_ _)); refine blk_put (cs := #[.int .u64 0, .int .i64 0, .string (⟨#[]⟩ : ByteArray)]) ?_ 0 _ rfl; (with_reducible repeat (first | refine blk_drewN ?_ _ | refine blk_drew ?_ | refine blk_alloc ?_ _)); exact BK299.out⟩, ⟨by repeat (first | (with_reducible first | exact HB.out | apply below_alloc | apply pw_below_drewN | apply below_drew1 | refine below_set ?_ GE282.out | refine below_set ?_ GE294.out | refine below_set ?_ GE299.out) | exact HB.out)⟩⟩
                    · rw [if_neg c48] at H
                      have c48b0 : (t295 == (IntKind.u64.wrap ((l2.length : Int)))) = false := beq_eq_false_iff_ne.mpr c48
                      have c48b1 : (t295 != (IntKind.u64.wrap ((l2.length : Int)))) = true := bne_iff_ne.mpr c48
                      have H' := Aside0.mk H
                      clear H
                      have hnb60 := NB299_282.out
                      have hnc60 := NB282_299.out
                      have hnb61 := NB299_294.out
                      have hnc61 := NB294_299.out
                      have hcz62_0 : w43.cell? ⟨gb299, 0, none⟩ = some (.int .u64 0) := (blk_cell BK299.out 0).trans rfl
                      have hcz62_1 : w43.cell? ⟨gb299, 1, none⟩ = some (.int .i64 0) := (blk_cell BK299.out 1).trans rfl
                      have hcz62_2 : w43.cell? ⟨gb299, 2, none⟩ = some (.string (⟨#[]⟩ : ByteArray)) := (blk_cell BK299.out 2).trans rfl
                      have hfz62_0 := blk_frozen BK299.out 0
                      have hfz62_1 := blk_frozen BK299.out 1
                      have hfz62_2 := blk_frozen BK299.out 2
                      go_wp2
                      go_meet
                      case rel => exact ⟨_, (true), (by first | rfl | (simp; done) | (simp [*]; done)), H', ⟨by have := HJ4.out; have := HJ12.out; first | omega | exact Nat.le_refl _⟩, ⟨by (with_reducible repeat (first | apply Kd.Q_alloc | apply Kd.Q_drewN | apply Kd.Q_drew)); exact Kd.Q_mono (Kd.Q_far (p := ⟨gb299, 2, none⟩) (Kd.Q_far (p := ⟨gb299, 1, none⟩) (Kd.Q_far (p := ⟨gb299, 0, none⟩) (Kd.Q_types HO_10.out BK299.out (by decide)) (fun _ hk => hk.2) (.int .u64 t295)) (fun _ hk => hk.2) (.int .i64 t296)) (fun _ hk => hk.2) (.string t297)) (fun _ hk => hk.1)⟩, ⟨by (with_reducible repeat (first | apply Kd.R_alloc | apply Kd.R_drewN | apply Kd.R_drew)); exact Kd.R_mono (Kd.R_far (p := ⟨gb299, 2, none⟩) (Kd.R_far (p := ⟨gb299, 1, none⟩) (Kd.R_far (p := ⟨gb299, 0, none⟩) (Kd.R_types HO_295002.out BK299.out (by decide)) (fun _ hk => hk.2) (.int .u64 t295)) (fun _ hk => hk.2) (.int .i64 t296)) (fun _ hk => hk.2) (.string t297)) (fun _ hk => hk.1)⟩, ⟨by (with_reducible repeat (first | refine blk_drewN ?_ _ | refine blk_drew ?_ | refine blk_alloc ?_ _)); refine blk_far ?_ NB282_299.out _; (with_reducible repeat (first | refine blk_drewN ?_ _ | refine blk_drew ?_ | refine blk_alloc ?_ _)); refine blk_far ?_ NB282_299.out _; (with_reducible repeat (first | refine blk_drewN ?_ _ | refine blk_drew ?_ | refine blk_alloc ?_ _)); refine blk_far ?_ NB282_299.out _; (with_reducible repeat (first | refine blk_drewN ?_ _ | refine blk_drew ?_ | refine blk_alloc ?_ _)); exact BK282.out⟩, ⟨by (with_reducible repeat (first | refine blk_drewN ?_ _ | refine blk_drew ?_ | refine blk_alloc ?_ _)); refine blk_far ?_ NB294_299.out _; (with_reducible repeat (first | refine blk_drewN ?_ _ | refine blk_drew ?_ | refine blk_alloc ?_ _)); refine blk_far ?_ NB294_299.out _; (with_reducible repeat (first | refine blk_drewN ?_ _ | refine blk_drew ?_ | refine blk_alloc ?_ _)); refine blk_far ?_ NB294_299.out _; (with_reducible repeat (first | refine blk_drewN ?_ _ | refine blk_drew ?_ | refine blk_alloc ?_ _)); exact BK294.out⟩, ⟨by (with_reducible repeat (first | refine blk_drewN ?_ _ | refine blk_drew ?_ | refine blk_alloc ?_ _)); refine blk_put (cs := #[.int .u64 t295, .int .i64 t296, .string (⟨#[]⟩ : ByteArray)]) ?_ 2 _ rfl; (with_reducible repeat (first | refine blk_drewN ?_ _ | refine blk_drew ?_ | refine blk_alloc ?_ _)); refine blk_put (cs := #[.int .u64 t295, .int .i64 0, .string (⟨#[]⟩ : ByteArray)]) ?_ 1 _ rfl; (with_reducible repeat (first | refine blk_drewN ?_ _ | refine blk_drew ?_ | refine blk_alloc ?_ _)); refine blk_put (cs := #[.int .u64 0, .int .i64 0, .string (⟨#[]⟩ : ByteArray)]) ?_ 0 _ rfl; (with_reducible repeat (first | refine blk_drewN ?_ _ | refine blk_drew ?_ | refine blk_alloc ?_ _)); exact BK299.out⟩, ⟨by repeat (first | (with_reducible first | exact HB.out | apply below_alloc | apply pw_below_drewN | apply below_drew1 | refine below_set ?_ GE282.out | refine below_set ?_ GE294.out | refine below_set ?_ GE299.out) | exact HB.out)⟩⟩
                  · rw [if_neg c47] at H
                    have c47b0 : (t298 == 0) = false := beq_eq_false_iff_ne.mpr c47
                    have c47b1 : (t298 != 0) = true := bne_iff_ne.mpr c47
                    (first | rw [c47b0] | rw [c47b2] | (simp only [i64_w, i32_w]; rw [c47b0]) | skip)
                    have H' := Aside0.mk H
                    clear H
                    go_wp2
                    go_meet
                    case rel => exact ⟨_, (true), (by first | rfl | (simp; done) | (simp [*]; done)), H', ⟨by have := HJ4.out; have := HJ12.out; first | omega | exact Nat.le_refl _⟩, ⟨by (with_reducible repeat (first | apply Kd.Q_alloc | apply Kd.Q_drewN | apply Kd.Q_drew)); exact Kd.Q_mono (Kd.Q_far (p := ⟨gb299, 2, none⟩) (Kd.Q_far (p := ⟨gb299, 1, none⟩) (Kd.Q_far (p := ⟨gb299, 0, none⟩) (Kd.Q_types HO_10.out BK299.out (by decide)) (fun _ hk => hk.2) (.int .u64 t295)) (fun _ hk => hk.2) (.int .i64 t296)) (fun _ hk => hk.2) (.string t297)) (fun _ hk => hk.1)⟩, ⟨by (with_reducible repeat (first | apply Kd.R_alloc | apply Kd.R_drewN | apply Kd.R_drew)); exact Kd.R_mono (Kd.R_far (p := ⟨gb299, 2, none⟩) (Kd.R_far (p := ⟨gb299, 1, none⟩) (Kd.R_far (p := ⟨gb299, 0, none⟩) (Kd.R_types HO_295002.out BK299.out (by decide)) (fun _ hk => hk.2) (.int .u64 t295)) (fun _ hk => hk.2) (.int .i64 t296)) (fun _ hk => hk.2) (.string t297)) (fun _ hk => hk.1)⟩, ⟨by (with_reducible repeat (first | refine blk_drewN ?_ _ | refine blk_drew ?_ | refine blk_alloc ?_ _)); refine blk_far ?_ NB282_299.out _; (with_reducible repeat (first | refine blk_drewN ?_ _ | refine blk_drew ?_ | refine blk_alloc ?_ _)); refine blk_far ?_ NB282_299.out _; (with_reducible repeat (first | refine blk_drewN ?_ _ | refine blk_drew ?_ | refine blk_alloc ?_ _)); refine blk_far ?_ NB282_299.out _; (with_reducible repeat (first | refine blk_drewN ?_ _ | refine blk_drew ?_ | refine blk_alloc ?_ _)); exact BK282.out⟩, ⟨by (with_reducible repeat (first | refine blk_drewN ?_ _ | refine blk_drew ?_ | refine blk_alloc ?_ _)); refine blk_far ?_ NB294_299.out _; (with_reducible repeat (first | refine blk_drewN ?_ _ | refine blk_drew ?_ | refine blk_alloc ?_ _)); refine blk_far ?_ NB294_299.out _; (with_reducible repeat (first | refine blk_drewN ?_ _ | refine blk_drew ?_ | refine blk_alloc ?_ _)); refine blk_far ?_ NB294_299.out _; (with_reducible repeat (first | refine blk_drewN ?_ _ | refine blk_drew ?_ | refine blk_alloc ?_ _)); exact BK294.out⟩, ⟨by (with_reducible repeat (first | refine blk_drewN ?_ _ | refine blk_drew ?_ | refine blk_alloc ?_ _)); refine blk_put (cs := #[.int .u64 t295, .int .i64 t296, .string (⟨#[]⟩ : ByteArray)]) ?_ 2 _ rfl; (with_reducible repeat (first | refine blk_drewN ?_ _ | refine blk_drew ?_ | refine blk_alloc ?_ _)); refine blk_put (cs := #[.int .u64 t295, .int .i64 0, .string (⟨#[]⟩ : ByteArray)]) ?_ 1 _ rfl; (with_reducible repeat (first | refine blk_drewN ?_ _ | refine blk_drew ?_ | refine blk_alloc ?_ _)); refine blk_put (cs := #[.int .u64 0, .int .i64 0, .string (⟨#[]⟩ : ByteArray)]) ?_ 0 _ rfl; (with_reducible repeat (first | refine blk_drewN ?_ _ | refine blk_drew ?_ | refine blk_alloc ?_ _)); exact BK299.out⟩, ⟨by repeat (first | (with_reducible first | exact HB.out | apply below_alloc | apply pw_below_drewN | apply below_drew1 | refine below_set ?_ GE282.out | refine below_set ?_ GE294.out | refine below_set ?_ GE299.out) | exact HB.out)⟩⟩
                case rest =>
                  clear HC39
                  try clear c1
                  try clear c2
                  try clear p2
                  try clear c3
                  try clear c4
                  try clear c5
                  try clear c6
                  try clear c6b0
                  try clear c6b1
                  try clear p6
                  try clear c7
                  try clear c11
                  try clear c14
                  try clear c15
                  try clear c17
                  try clear c22
                  try clear c25
                  try clear c25b0
                  try clear c25b1
                  try clear c26
                  try clear c26b0
                  try clear c26b1
                  try clear c27
                  try clear c27b0
                  try clear c27b1
                  try clear c28
                  try clear c28b0
                  try clear c29
                  try clear c31
                  try clear c33
                  try clear c35
                  try clear c37
                  try clear c40
                  try clear c44
                  try clear c45
                  try clear c47
                  try clear c47b0
                  try clear c47b1
                  try clear c48
                  try clear c48b0
                  try clear c48b1
                  try clear c49
                  try clear c49b0
                  try clear c49b1
                  try clear c50
                  try clear c51
                  try clear c53
                  try clear c55
                  try clear c56
                  try clear c58
                  try clear c60
                  try clear c61
                  try clear hcz15_0
                  try clear hcz15_1
                  try clear hcz15_2
                  try clear hcz17_0
                  try clear hcz17_1
                  try clear hcz17_2
                  try clear hcz23_0
                  try clear hcz23_1
                  try clear hcz23_2
                  try clear hcz30_0
                  try clear hcz30_1
                  try clear hcz30_2
                  try clear hcz32_0
                  try clear hcz32_1
                  try clear hcz32_2
                  try clear hcz34_0
                  try clear hcz34_1
                  try clear hcz34_2
                  try clear hcz36_0
                  try clear hcz36_1
                  try clear hcz36_2
                  try clear hcz41_0
                  try clear hcz41_1
                  try clear hcz41_2
                  try clear hcz46_0
                  try clear hcz46_1
                  try clear hcz46_2
                  try clear hcz52_0
                  try clear hcz52_1
                  try clear hcz52_2
                  try clear hcz54_0
                  try clear hcz54_1
                  try clear hcz54_2
                  try clear hcz57_0
                  try clear hcz57_1
                  try clear hcz57_2
                  try clear hcz59_0
                  try clear hcz59_1
                  try clear hcz59_2
                  try clear hcz62_0
                  try clear hcz62_1
                  try clear hcz62_2
                  try clear hfz15_0
                  try clear hfz15_1
                  try clear hfz15_2
                  try clear hfz17_0
                  try clear hfz17_1
                  try clear hfz17_2
                  try clear hfz23_0
                  try clear hfz23_1
                  try clear hfz23_2
                  try clear hfz30_0
                  try clear hfz30_1
                  try clear hfz30_2
                  try clear hfz32_0
                  try clear hfz32_1
                  try clear hfz32_2
                  try clear hfz34_0
                  try clear hfz34_1
                  try clear hfz34_2
                  try clear hfz36_0
                  try clear hfz36_1
                  try clear hfz36_2
                  try clear hfz41_0
                  try clear hfz41_1
                  try clear hfz41_2
                  try clear hfz46_0
                  try clear hfz46_1
                  try clear hfz46_2
                  try clear hfz52_0
                  try clear hfz52_1
                  try clear hfz52_2
                  try clear hfz54_0
                  try clear hfz54_1
                  try clear hfz54_2
                  try clear hfz57_0
                  try clear hfz57_1
                  try clear hfz57_2
                  try clear hfz59_0
                  try clear hfz59_1
                  try clear hfz59_2
                  try clear hfz62_0
                  try clear hfz62_1
                  try clear hfz62_2
                  try clear p2
                  try clear p6
                  obtain ⟨kq, x102_38, rfl, HA, HJ38, HO_10, HO_295002, BK282, BK294, BK299, HB⟩ := hcut
                  cases kq with
                  | zero => exact absurd HA.out (by simp [waybilllaw5_ContBack.j2])
                  | succ kj38 =>
                    have H := HA.out
                    clear HA
                    simp only [waybilllaw5_ContBack.j2] at H
                    by_cases c63 : x102_38 = true
                    · subst c63
                      have H1 : (none) = some r := by rw [if_pos rfl] at H; exact H
                      clear H
                      have H := H1
                      clear H1
                      exact absurd H (by simp)
                    · replace c63 := Bool.eq_false_iff.mpr c63
                      subst c63
                      have H1 : (if 0 ≤ t292 then (if t292 ≤ (t283.length : Int) then (waybilllaw5_ContBack.l0 kj38 l2 (Go.bits .and .i64 a3 65535) (t283.drop (t292 : Int).toNat) ([] : List Int) 0) else (none)) else (none)) = some r := by rw [if_neg (show ¬ (false = true) by decide)] at H; exact H
                      clear H
                      have H := H1
                      clear H1
                      by_cases c64 : 0 ≤ t292
                      · rw [if_pos c64] at H
                        have c64b0 := eq_true c64
                        have c64b1 : decide (0 ≤ t292) = true := decide_eq_true c64
                        clear c64
                        by_cases c65 : t292 ≤ (t283.length : Int)
                        · rw [if_pos c65] at H
                          have c65b0 := eq_true c65
                          have c65b1 : decide (t292 ≤ (t283.length : Int)) = true := decide_eq_true c65
                          clear c65
                          obtain ⟨y300, hy300⟩ : ∃ y_ : List Int, y_ = (t283.drop (t292 : Int).toNat) := ⟨_, rfl⟩
                          replace H : (waybilllaw5_ContBack.l0 kj38 l2 (Go.bits .and .i64 a3 65535) y300 ([] : List Int) 0) = some r := by first | (rw [hy300]; with_reducible exact H) | (have H2_ := (Option.bind_some _ _).symm.trans H; rw [hy300]; with_reducible exact H2_) | (have H2_ := (Option.bind_some _ _).symm.trans H; with_reducible exact H2_) | with_reducible exact H | (rw [hy300]; exact H) | exact H
                          have Ny300 := Aside0.mk hy300
                          clear hy300
                          have H' := Aside0.mk H
                          clear H
                          have q66 : (t292 : Int) ≤ ((t283.length : Int) : Int) := of_decide_eq_true (by first | (with_reducible assumption) | assumption)
                          obtain ⟨i066, hi066, _, hsz66, _⟩ := info_parts info5
                          have hcut66 := cut_from (P := Try.prog) 26 5 .i64 Try.underlying26 hi066 1 hsz66 Ao19 t283.length co19 t292 (of_decide_eq_true (by first | (with_reducible assumption) | assumption)) q66
                          have hr66 := Kd.Q_drop (k := (t292 : Int).toNat) HO_10.out (by omega)
                          obtain ⟨A66, hA66⟩ : ∃ A1, A1 = (if co19 = (t292 : Int).toNat then Ao19 else (Ao19 : Option Addr).map (·.add ((t292 : Int).toNat * 1))) := ⟨_, rfl⟩
                          obtain ⟨c66, hc66⟩ : ∃ c1, c1 = co19 - (t292 : Int).toNat := ⟨_, rfl⟩
                          have hy66 : y300.length = t283.length - (t292 : Int).toNat := (by rw [Ny300.out, List.length_drop])
                          rw [← Ny300.out] at hr66
                          rw [← hy66, ← hA66, ← hc66] at hcut66
                          replace hr66 : Kd.Q (Kd.int .u8) 5 wc w.heap.size (fun k_ => some k_ ≠ (.slice Ao24 t289.length co24 : Value).ownBlock) (.slice A66 y300.length c66) y300 := (by rw [hA66, hc66, hy66]; exact hr66)
                          have HE66 : Aside0 ((Value.slice A66 y300.length c66).ownBlock = (.slice Ao19 t283.length co19 : Value).ownBlock) := ⟨by rw [hA66]; split <;> (cases (Ao19 : Option Addr) <;> first | rfl | (simp only [Option.map_some, Value.ownBlock, Addr.add]; split <;> rfl))⟩
                          clear hy66 hi066 hsz66 HO_10 hA66 hc66
                          have HO302 := Aside0.mk hr66
                          clear hr66
                          replace q66 := eq_true q66
                          have n_ := Aside0.mk (Kd.R_mono (ok' := fun k_ => some k_ ≠ (.slice A66 y300.length c66 : Value).ownBlock) HO_295002.out (fun k_ hk => (by rw [HE66.out]; exact hk)))
                          clear HO_295002
                          have HO_295002 := n_
                          clear n_
                          go_wp2
                          go_loopg [10, 17, 18] kj38 (fun kq v10 v17 v18 w' => ∃ (x10_4 : List Int) (x17_4 : List Int) (x18_4 : Int) (x295000_4 : Int) (x295001_4 : Int) (x295002_4 : List Int) (u295002 : Value), v18 = .int .i64 x18_4 ∧ Aside0 (waybilllaw5_ContBack.l0 kq l2 (Go.bits .and .i64 a3 65535) x10_4 x17_4 x18_4 = some r) ∧ Aside0 (kq ≤ kj38) ∧ Aside0 (Kd.Q (Kd.int .u8) 5 w' w.heap.size (fun k_ => some k_ ≠ (v17 : Value).ownBlock ∧ some k_ ≠ (u295002 : Value).ownBlock) v10 x10_4) ∧ Aside0 (Kd.R (Kd.int .u8) 5 w' w.heap.size (fun k_ => some k_ ≠ (v10 : Value).ownBlock ∧ some k_ ≠ (u295002 : Value).ownBlock) v17 x17_4) ∧ Aside0 (Kd.R (Kd.int .u8) 5 w' w.heap.size (fun k_ => some k_ ≠ (v10 : Value).ownBlock ∧ some k_ ≠ (v17 : Value).ownBlock) u295002 x295002_4) ∧ Aside0 (w'.heap[gb282]? = some (.cells #[.int .u64 0, .int .i64 (Int.tmod (wrap64 ((Int.tmod a0 3) + 3)) 3), .string a1] 25 (0, 0))) ∧ Aside0 (w'.heap[gb294]? = some (.cells #[.int .i64 x295000_4, .int .i64 x295001_4, u295002] 90 (0, 0))) ∧ Aside0 (w'.heap[gb299]? = some (.cells #[.int .u64 t295, .int .i64 t296, .string t297] 25 (0, 0))) ∧ Aside0 (Below w.heap.size w w'))
                          case atStart => exact ⟨(y300), (([] : List Int)), (0), (t287), (t288), (t289), (.slice Ao24 t289.length co24), (by first | rfl | (simp; done) | (simp [*]; done)), H', ⟨Nat.le_refl _⟩, ⟨by (with_reducible repeat (first | apply Kd.Q_alloc | apply Kd.Q_drewN | apply Kd.Q_drew)); exact Kd.Q_mono HO302.out (fun _ hk => ⟨(by simp [Value.ownBlock]), hk⟩)⟩, ⟨by first | exact Kd.R_nil _ _ _ _ _ | exact Kd.N_nil _ _ _ _ _ | exact Kd.V_nil _ _ _ _ _ | exact Kd.Q_nil _ _ _ _ _ | exact Kd.S_nil _ _ _ _ _⟩, ⟨by (with_reducible repeat (first | apply Kd.R_alloc | apply Kd.R_drewN | apply Kd.R_drew)); exact Kd.R_mono HO_295002.out (fun _ hk => ⟨hk, (by simp [Value.ownBlock])⟩)⟩, ⟨by (with_reducible repeat (first | refine blk_drewN ?_ _ | refine blk_drew ?_ | refine blk_alloc ?_ _)); exact BK282.out⟩, ⟨by (with_reducible repeat (first | refine blk_drewN ?_ _ | refine blk_drew ?_ | refine blk_alloc ?_ _)); exact BK294.out⟩, ⟨by (with_reducible repeat (first | refine blk_drewN ?_ _ | refine blk_drew ?_ | refine blk_alloc ?_ _)); exact BK299.out⟩, ⟨by repeat (first | (with_reducible first | exact HB.out | apply below_alloc | apply pw_below_drewN | apply below_drew1 | refine below_set ?_ GE282.out | refine below_set ?_ GE294.out | refine below_set ?_ GE299.out) | exact HB.out)⟩⟩
                          case round =>
                            clear H'
                            try clear c1
                            try clear c2
                            try clear p2
                            try clear c3
                            try clear c4
                            try clear c5
                            try clear c6
                            try clear c6b0
                            try clear c6b1
                            try clear p6
                            try clear q6
                            try clear c7
                            try clear c11
                            try clear c14
                            try clear c15
                            try clear c17
                            try clear c22
                            try clear c25
                            try clear c25b0
                            try clear c25b1
                            try clear c26
                            try clear c26b0
                            try clear c26b1
                            try clear c27
                            try clear c27b0
                            try clear c27b1
                            try clear c28
                            try clear c28b0
                            try clear c29
                            try clear c31
                            try clear c33
                            try clear c35
                            try clear c37
                            try clear c40
                            try clear c44
                            try clear c45
                            try clear c47
                            try clear c47b0
                            try clear c47b1
                            try clear c48
                            try clear c48b0
                            try clear c48b1
                            try clear c49
                            try clear c49b0
                            try clear c49b1
                            try clear c50
                            try clear c51
                            try clear c53
                            try clear c55
                            try clear c56
                            try clear c58
                            try clear c60
                            try clear c61
                            try clear c63
                            try clear c64
                            try clear c64b0
                            try clear c64b1
                            try clear p64
                            try clear c65
                            try clear c65b0
                            try clear c65b1
                            try clear c66
                            try clear q66
                            try clear hcz15_0
                            try clear hcz15_1
                            try clear hcz15_2
                            try clear hcz17_0
                            try clear hcz17_1
                            try clear hcz17_2
                            try clear hcz23_0
                            try clear hcz23_1
                            try clear hcz23_2
                            try clear hcz30_0
                            try clear hcz30_1
                            try clear hcz30_2
                            try clear hcz32_0
                            try clear hcz32_1
                            try clear hcz32_2
                            try clear hcz34_0
                            try clear hcz34_1
                            try clear hcz34_2
                            try clear hcz36_0
                            try clear hcz36_1
                            try clear hcz36_2
                            try clear hcz41_0
                            try clear hcz41_1
                            try clear hcz41_2
                            try clear hcz46_0
                            try clear hcz46_1
                            try clear hcz46_2
                            try clear hcz52_0
                            try clear hcz52_1
                            try clear hcz52_2
                            try clear hcz54_0
                            try clear hcz54_1
                            try clear hcz54_2
                            try clear hcz57_0
                            try clear hcz57_1
                            try clear hcz57_2
                            try clear hcz59_0
                            try clear hcz59_1
                            try clear hcz59_2
                            try clear hcz62_0
                            try clear hcz62_1
                            try clear hcz62_2
                            try clear hfz15_0
                            try clear hfz15_1
                            try clear hfz15_2
                            try clear hfz17_0
                            try clear hfz17_1
                            try clear hfz17_2
                            try clear hfz23_0
                            try clear hfz23_1
                            try clear hfz23_2
                            try clear hfz30_0
                            try clear hfz30_1
                            try clear hfz30_2
                            try clear hfz32_0
                            try clear hfz32_1
                            try clear hfz32_2
                            try clear hfz34_0
                            try clear hfz34_1
                            try clear hfz34_2
                            try clear hfz36_0
                            try clear hfz36_1
                            try clear hfz36_2
                            try clear hfz41_0
                            try clear hfz41_1
                            try clear hfz41_2
                            try clear hfz46_0
                            try clear hfz46_1
                            try clear hfz46_2
                            try clear hfz52_0
                            try clear hfz52_1
                            try clear hfz52_2
                            try clear hfz54_0
                            try clear hfz54_1
                            try clear hfz54_2
                            try clear hfz57_0
                            try clear hfz57_1
                            try clear hfz57_2
                            try clear hfz59_0
                            try clear hfz59_1
                            try clear hfz59_2
                            try clear hfz62_0
                            try clear hfz62_1
                            try clear hfz62_2
                            try clear p2
                            try clear p6
                            try clear q66
                            obtain ⟨x10_4, x17_4, x18_4, x295000_4, x295001_4, x295002_4, u295002, rfl, HA, HK4, HO_10, HO_17, HO_295002, BK282, BK294, BK299, HB⟩ := hrel
                            cases gk with
                            | zero => exact absurd HA.out (by simp [waybilllaw5_ContBack.l0])
                            | succ k4 =>
                              have H := HA.out
                              clear HA
                              simp only [waybilllaw5_ContBack.l0] at H
                              have HC67 := Aside0.mk H
                              clear H
                              go_upto_region 17 with (fail)
                              go_cut [112] (fun v112 wc => ∃ (kq : Nat) (x112_66 : Bool), v112 = .bool x112_66 ∧ Aside0 (waybilllaw5_ContBack.j4 kq l2 (Go.bits .and .i64 a3 65535) x10_4 x17_4 x18_4 x112_66 = some r) ∧ Aside0 (kq ≤ k4) ∧ Aside0 (Kd.Q (Kd.int .u8) 5 wc w.heap.size (fun k_ => some k_ ≠ (u17 : Value).ownBlock ∧ some k_ ≠ (u295002 : Value).ownBlock) u10 x10_4) ∧ Aside0 (Kd.R (Kd.int .u8) 5 wc w.heap.size (fun k_ => some k_ ≠ (u10 : Value).ownBlock ∧ some k_ ≠ (u295002 : Value).ownBlock) u17 x17_4) ∧ Aside0 (Kd.R (Kd.int .u8) 5 wc w.heap.size (fun k_ => some k_ ≠ (u10 : Value).ownBlock ∧ some k_ ≠ (u17 : Value).ownBlock) u295002 x295002_4) ∧ Aside0 (wc.heap[gb282]? = some (.cells #[.int .u64 0, .int .i64 (Int.tmod (wrap64 ((Int.tmod a0 3) + 3)) 3), .string a1] 25 (0, 0))) ∧ Aside0 (wc.heap[gb294]? = some (.cells #[.int .i64 x295000_4, .int .i64 x295001_4, u295002] 90 (0, 0))) ∧ Aside0 (wc.heap[gb299]? = some (.cells #[.int .u64 t295, .int .i64 t296, .string t297] 25 (0, 0))) ∧ Aside0 (Below w.heap.size w wc))
                              case first =>
                                have H := HC67.out
                                clear HC67
                                by_cases c68 : (x10_4.length : Int) > 0
                                · rw [if_pos c68] at H
                                  have c68b0 : decide (0 < (x10_4.length : Int)) = true := decide_eq_true c68
                                  have c68b1 : decide (0 < x10_4.length) = true := decide_eq_true (by omega)
                                  clear c68
                                  (first | rw [c68b0] | rw [c68b2] | (simp only [i64_w, i32_w]; rw [c68b0]) | skip)
                                  have H' := Aside0.mk H
                                  clear H
                                  obtain ⟨Ao69, co69, eo69, _⟩ := Kd.Q_slice HO_10.out
                                  subst eo69
                                  go_wp2
                                  go_meet
                                  case rel => exact ⟨_, (decide (x18_4 < 10)), (by first | rfl | (simp; done) | (simp [*]; done)), H', ⟨by have := HJ4.out; have := HJ12.out; have := HJ38.out; have := HK4.out; first | omega | exact Nat.le_refl _⟩, ⟨by (with_reducible repeat (first | apply Kd.Q_alloc | apply Kd.Q_drewN | apply Kd.Q_drew)); exact HO_10.out⟩, ⟨by (with_reducible repeat (first | apply Kd.R_alloc | apply Kd.R_drewN | apply Kd.R_drew)); exact HO_17.out⟩, ⟨by (with_reducible repeat (first | apply Kd.R_alloc | apply Kd.R_drewN | apply Kd.R_drew)); exact HO_295002.out⟩, ⟨by (with_reducible repeat (first | refine blk_drewN ?_ _ | refine blk_drew ?_ | refine blk_alloc ?_ _)); exact BK282.out⟩, ⟨by (with_reducible repeat (first | refine blk_drewN ?_ _ | refine blk_drew ?_ | refine blk_alloc ?_ _)); exact BK294.out⟩, ⟨by (with_reducible repeat (first | refine blk_drewN ?_ _ | refine blk_drew ?_ | refine blk_alloc ?_ _)); exact BK299.out⟩, ⟨by repeat (first | (with_reducible first | exact HB.out | apply below_alloc | apply pw_below_drewN | apply below_drew1 | refine below_set ?_ GE282.out | refine below_set ?_ GE294.out | refine below_set ?_ GE299.out) | exact HB.out)⟩⟩
                                · rw [if_neg c68] at H
                                  have c68b0 : decide (0 < (x10_4.length : Int)) = false := decide_eq_false c68
                                  have c68b1 : decide (0 < x10_4.length) = false := decide_eq_false (by omega)
                                  clear c68
                                  (first | rw [c68b0] | rw [c68b2] | (simp only [i64_w, i32_w]; rw [c68b0]) | skip)
                                  have H' := Aside0.mk H
                                  clear H
                                  obtain ⟨Ao70, co70, eo70, _⟩ := Kd.Q_slice HO_10.out
                                  subst eo70
                                  go_wp2
                                  go_meet
                                  case rel => exact ⟨_, (false), (by first | rfl | (simp; done) | (simp [*]; done)), H', ⟨by have := HJ4.out; have := HJ12.out; have := HJ38.out; have := HK4.out; first | omega | exact Nat.le_refl _⟩, ⟨by (with_reducible repeat (first | apply Kd.Q_alloc | apply Kd.Q_drewN | apply Kd.Q_drew)); exact HO_10.out⟩, ⟨by (with_reducible repeat (first | apply Kd.R_alloc | apply Kd.R_drewN | apply Kd.R_drew)); exact HO_17.out⟩, ⟨by (with_reducible repeat (first | apply Kd.R_alloc | apply Kd.R_drewN | apply Kd.R_drew)); exact HO_295002.out⟩, ⟨by (with_reducible repeat (first | refine blk_drewN ?_ _ | refine blk_drew ?_ | refine blk_alloc ?_ _)); exact BK282.out⟩, ⟨by (with_reducible repeat (first | refine blk_drewN ?_ _ | refine blk_drew ?_ | refine blk_alloc ?_ _)); exact BK294.out⟩, ⟨by (with_reducible repeat (first | refine blk_drewN ?_ _ | refine blk_drew ?_ | refine blk_alloc ?_ _)); exact BK299.out⟩, ⟨by repeat (first | (with_reducible first | exact HB.out | apply below_alloc | apply pw_below_drewN | apply below_drew1 | refine below_set ?_ GE282.out | refine below_set ?_ GE294.out | refine below_set ?_ GE299.out) | exact HB.out)⟩⟩
                              case rest =>
                                clear HC67
                                try clear c1
                                try clear c2
                                try clear p2
                                try clear c3
                                try clear c4
                                try clear c5
                                try clear c6
                                try clear c6b0
                                try clear c6b1
                                try clear p6
                                try clear q6
                                try clear c7
                                try clear c11
                                try clear c14
                                try clear c15
                                try clear c17
                                try clear c22
                                try clear c25
                                try clear c25b0
                                try clear c25b1
                                try clear c26
                                try clear c26b0
                                try clear c26b1
                                try clear c27
                                try clear c27b0
                                try clear c27b1
                                try clear c28
                                try clear c28b0
                                try clear c29
                                try clear c31
                                try clear c33
                                try clear c35
                                try clear c37
                                try clear c40
                                try clear c44
                                try clear c45
                                try clear c47
                                try clear c47b0
                                try clear c47b1
                                try clear c48
                                try clear c48b0
                                try clear c48b1
                                try clear c49
                                try clear c49b0
                                try clear c49b1
                                try clear c50
                                try clear c51
                                try clear c53
                                try clear c55
                                try clear c56
                                try clear c58
                                try clear c60
                                try clear c61
                                try clear c63
                                try clear c64
                                try clear c64b0
                                try clear c64b1
                                try clear p64
                                try clear c65
                                try clear c65b0
                                try clear c65b1
                                try clear c66
                                try clear q66
                                try clear c68
                                try clear c68b0
                                try clear c68b1
                                try clear hcz15_0
                                try clear hcz15_1
                                try clear hcz15_2
                                try clear hcz17_0
                                try clear hcz17_1
                                try clear hcz17_2
                                try clear hcz23_0
                                try clear hcz23_1
                                try clear hcz23_2
                                try clear hcz30_0
                                try clear hcz30_1
                                try clear hcz30_2
                                try clear hcz32_0
                                try clear hcz32_1
                                try clear hcz32_2
                                try clear hcz34_0
                                try clear hcz34_1
                                try clear hcz34_2
                                try clear hcz36_0
                                try clear hcz36_1
                                try clear hcz36_2
                                try clear hcz41_0
                                try clear hcz41_1
                                try clear hcz41_2
                                try clear hcz46_0
                                try clear hcz46_1
                                try clear hcz46_2
                                try clear hcz52_0
                                try clear hcz52_1
                                try clear hcz52_2
                                try clear hcz54_0
                                try clear hcz54_1
                                try clear hcz54_2
                                try clear hcz57_0
                                try clear hcz57_1
                                try clear hcz57_2
                                try clear hcz59_0
                                try clear hcz59_1
                                try clear hcz59_2
                                try clear hcz62_0
                                try clear hcz62_1
                                try clear hcz62_2
                                try clear hfz15_0
                                try clear hfz15_1
                                try clear hfz15_2
                                try clear hfz17_0
                                try clear hfz17_1
                                try clear hfz17_2
                                try clear hfz23_0
                                try clear hfz23_1
                                try clear hfz23_2
                                try clear hfz30_0
                                try clear hfz30_1
                                try clear hfz30_2
                                try clear hfz32_0
                                try clear hfz32_1
                                try clear hfz32_2
                                try clear hfz34_0
                                try clear hfz34_1
                                try clear hfz34_2
                                try clear hfz36_0
                                try clear hfz36_1
                                try clear hfz36_2
                                try clear hfz41_0
                                try clear hfz41_1
                                try clear hfz41_2
                                try clear hfz46_0
                                try clear hfz46_1
                                try clear hfz46_2
                                try clear hfz52_0
                                try clear hfz52_1
                                try clear hfz52_2
                                try clear hfz54_0
                                try clear hfz54_1
                                try clear hfz54_2
                                try clear hfz57_0
                                try clear hfz57_1
                                try clear hfz57_2
                                try clear hfz59_0
                                try clear hfz59_1
                                try clear hfz59_2
                                try clear hfz62_0
                                try clear hfz62_1
                                try clear hfz62_2
                                try clear p2
                                try clear p6
                                try clear p64
                                try clear q6
                                try clear q66
                                obtain ⟨kq, x112_66, rfl, HA, HJ66, HO_10, HO_17, HO_295002, BK282, BK294, BK299, HB⟩ := hcut
                                cases kq with
                                | zero => exact absurd HA.out (by simp [waybilllaw5_ContBack.j4])
                                | succ kj66 =>
                                  have H := HA.out
                                  clear HA
                                  simp only [waybilllaw5_ContBack.j4] at H
                                  by_cases c71 : x112_66 = true
                                  · subst c71
                                    have H1 : ((fram_Parse.f kj66 x10_4).bind fun bt303 => (if bt303.2.2.2.2 = 0 then (if bt303.1 = 3 then (if bt303.2.1 = (Go.bits .and .i64 a3 65535) then (if (bt303.2.2.1.length : Int) = 0 then (none) else (if bt303.2.2.2.1 ≤ 0 then (none) else (if bt303.2.2.2.1 > (x10_4.length : Int) then (none) else (if x17_4.length + bt303.2.2.1.length < 140737488355328 then (if 0 ≤ bt303.2.2.2.1 then (if bt303.2.2.2.1 ≤ (x10_4.length : Int) then (waybilllaw5_ContBack.l0 kj66 l2 (Go.bits .and .i64 a3 65535) (x10_4.drop (bt303.2.2.2.1 : Int).toNat) (x17_4 ++ bt303.2.2.1) (wrap64 (x18_4 + 1))) else (none)) else (none)) else (none))))) else (none)) else (none)) else (none))) = some r := by rw [if_pos rfl] at H; exact H
                                    clear H
                                    have H := H1
                                    clear H1
                                    replace H := Option.bind_eq_some_iff.mp H
                                    obtain ⟨⟨t303, t304, t305, t308, t309⟩, A720, H⟩ := H
                                    replace H : (if t309 = 0 then (if t303 = 3 then (if t304 = (Go.bits .and .i64 a3 65535) then (if (t305.length : Int) = 0 then (none) else (if t308 ≤ 0 then (none) else (if t308 > (x10_4.length : Int) then (none) else (if x17_4.length + t305.length < 140737488355328 then (if 0 ≤ t308 then (if t308 ≤ (x10_4.length : Int) then (waybilllaw5_ContBack.l0 kj66 l2 (Go.bits .and .i64 a3 65535) (x10_4.drop (t308 : Int).toNat) (x17_4 ++ t305) (wrap64 (x18_4 + 1))) else (none)) else (none)) else (none))))) else (none)) else (none)) else (none)) = some r := H
                                    have A72 := Aside0.mk A720
                                    clear A720
                                    by_cases c73 : t309 = 0
                                    · rw [if_pos c73] at H
                                      have c73b0 : (t309 == 0) = true := beq_iff_eq.mpr c73
                                      have c73b1 : (t309 != 0) = false := bne_eq_false_iff_eq.mpr c73
                                      clear c73
                                      by_cases c74 : t303 = 3
                                      · rw [if_pos c74] at H
                                        have c74b0 : (t303 == 3) = true := beq_iff_eq.mpr c74
                                        have c74b1 : (t303 != 3) = false := bne_eq_false_iff_eq.mpr c74
                                        clear c74
                                        by_cases c75 : t304 = (Go.bits .and .i64 a3 65535)
                                        · rw [if_pos c75] at H
                                          have c75b0 : (t304 == (Go.bits .and .i64 a3 65535)) = true := beq_iff_eq.mpr c75
                                          have c75b1 : (t304 != (Go.bits .and .i64 a3 65535)) = false := bne_eq_false_iff_eq.mpr c75
                                          clear c75
                                          by_cases c76 : (t305.length : Int) = 0
                                          · rw [if_pos c76] at H
                                            exact absurd H (by simp)
                                          · rw [if_neg c76] at H
                                            have c76b0 : ((t305.length : Int) == 0) = false := beq_eq_false_iff_ne.mpr c76
                                            have c76b1 : ((t305.length : Int) != 0) = true := bne_iff_ne.mpr c76
                                            have c76b2 : ¬ (t305 = []) := fun h_ => c76 (by rw [h_]; rfl)
                                            by_cases c77 : t308 ≤ 0
                                            · rw [if_pos c77] at H
                                              exact absurd H (by simp)
                                            · rw [if_neg c77] at H
                                              have c77b0 : decide (t308 ≤ 0) = false := decide_eq_false c77
                                              clear c77
                                              by_cases c78 : t308 > (x10_4.length : Int)
                                              · rw [if_pos c78] at H
                                                exact absurd H (by simp)
                                              · rw [if_neg c78] at H
                                                have c78b0 : decide ((x10_4.length : Int) < t308) = false := decide_eq_false c78
                                                clear c78
                                                by_cases c79 : x17_4.length + t305.length < 140737488355328
                                                · rw [if_pos c79] at H
                                                  have LMc79 := Aside0.mk c79
                                                  clear c79
                                                  obtain ⟨y310, hy310⟩ : ∃ y_ : List Int, y_ = (x17_4 ++ t305) := ⟨_, rfl⟩
                                                  replace H : (if 0 ≤ t308 then (if t308 ≤ (x10_4.length : Int) then (waybilllaw5_ContBack.l0 kj66 l2 (Go.bits .and .i64 a3 65535) (x10_4.drop (t308 : Int).toNat) y310 (wrap64 (x18_4 + 1))) else (none)) else (none)) = some r := by first | (rw [hy310]; with_reducible exact H) | (have H2_ := (Option.bind_some _ _).symm.trans H; rw [hy310]; with_reducible exact H2_) | (have H2_ := (Option.bind_some _ _).symm.trans H; with_reducible exact H2_) | with_reducible exact H | (rw [hy310]; exact H) | exact H
                                                  have Ny310 := Aside0.mk hy310
                                                  clear hy310
                                                  by_cases c80 : 0 ≤ t308
                                                  · rw [if_pos c80] at H
                                                    have c80b0 := eq_true c80
                                                    have c80b1 : decide (0 ≤ t308) = true := decide_eq_true c80
                                                    clear c80
                                                    by_cases c81 : t308 ≤ (x10_4.length : Int)
                                                    · rw [if_pos c81] at H
                                                      have c81b0 := eq_true c81
                                                      have c81b1 : decide (t308 ≤ (x10_4.length : Int)) = true := decide_eq_true c81
                                                      clear c81
                                                      obtain ⟨y313, hy313⟩ : ∃ y_ : List Int, y_ = (x10_4.drop (t308 : Int).toNat) := ⟨_, rfl⟩
                                                      replace H : (waybilllaw5_ContBack.l0 kj66 l2 (Go.bits .and .i64 a3 65535) y313 y310 (wrap64 (x18_4 + 1))) = some r := by first | (rw [hy313]; with_reducible exact H) | (have H2_ := (Option.bind_some _ _).symm.trans H; rw [hy313]; with_reducible exact H2_) | (have H2_ := (Option.bind_some _ _).symm.trans H; with_reducible exact H2_) | with_reducible exact H | (rw [hy313]; exact H) | exact H
                                                      have Ny313 := Aside0.mk hy313
                                                      clear hy313
                                                      have H' := Aside0.mk H
                                                      clear H
                                                      obtain ⟨Ao82, co82, eo82, _⟩ := Kd.Q_slice HO_10.out
                                                      subst eo82
                                                      go_wp2_with (first | ((with_reducible refine gate_callee (f := 48) rfl ?_); refine goesL_ (some 115) rfl rfl Try.func48 (by kernel_rfl) rfl #[.slice Ao82 x10_4.length co82] rfl (by (try simp only [List.map_toArray, List.map_cons, List.map_nil]); first | done | rfl | (simp only [List.length_drop, List.length_take]; rfl)) ?_; (with_reducible refine (fram_Parse.calls kj66 _ _ x10_4 t303 t304 t305 t308 t309 _ ?side1 ?side2 A72.out).mono ?_); (case side1 => repeat (first | exact (Kd.Q_reads' HO_10.out).2.2 | (with_reducible refine Kd.C_alloc ?_ _) | (with_reducible refine Kd.C_drewN ?_ _) | (with_reducible refine Kd.C_drew ?_))); (case side2 => exact (Kd.Q_reads' HO_10.out).2.1); rintro e w83 ⟨v306, rfl, ho0, hb⟩; refine ⟨_, rfl, ?_⟩; have n0_ := Aside0.mk (Kd.Q_elder' (by (with_reducible repeat (first | apply Kd.Q_alloc | apply Kd.Q_drewN | apply Kd.Q_drew)); exact HO_10.out) (Kd.R_base ho0) hb); have n1_ := Aside0.mk (Kd.R_elder' (by (with_reducible repeat (first | apply Kd.R_alloc | apply Kd.R_drewN | apply Kd.R_drew)); exact HO_17.out) (Kd.R_base ho0) hb); have n2_ := Aside0.mk (Kd.R_elder' (by (with_reducible repeat (first | apply Kd.R_alloc | apply Kd.R_drewN | apply Kd.R_drew)); exact HO_295002.out) (Kd.R_base ho0) hb); have n3_ := Aside0.mk (Kd.R_lower (Kd.R_new' (Kd.R_new' (Kd.R_new' ho0 (Kd.Q_lt (by (with_reducible repeat (first | apply Kd.Q_alloc | apply Kd.Q_drewN | apply Kd.Q_drew)); exact HO_10.out))) (Kd.R_lt (by (with_reducible repeat (first | apply Kd.R_alloc | apply Kd.R_drewN | apply Kd.R_drew)); exact HO_17.out))) (Kd.R_lt (by (with_reducible repeat (first | apply Kd.R_alloc | apply Kd.R_drewN | apply Kd.R_drew)); exact HO_295002.out))) (below_size (by repeat (first | (with_reducible first | exact HB.out | apply below_alloc | apply pw_below_drewN | apply below_drew1 | refine below_set ?_ GE282.out | refine below_set ?_ GE294.out | refine below_set ?_ GE299.out) | exact HB.out)))); have n4_ := Aside0.mk (blk_below (g := gb282) (o := .cells #[.int .u64 0, .int .i64 (Int.tmod (wrap64 ((Int.tmod a0 3) + 3)) 3), .string a1] 25 (0, 0)) (by (with_reducible repeat (first | refine blk_drewN ?_ _ | refine blk_drew ?_ | refine blk_alloc ?_ _)); exact BK282.out) hb); have n5_ := Aside0.mk (blk_below (g := gb294) (o := .cells #[.int .i64 x295000_4, .int .i64 x295001_4, u295002] 90 (0, 0)) (by (with_reducible repeat (first | refine blk_drewN ?_ _ | refine blk_drew ?_ | refine blk_alloc ?_ _)); exact BK294.out) hb); have n6_ := Aside0.mk (blk_below (g := gb299) (o := .cells #[.int .u64 t295, .int .i64 t296, .string t297] 25 (0, 0)) (by (with_reducible repeat (first | refine blk_drewN ?_ _ | refine blk_drew ?_ | refine blk_alloc ?_ _)); exact BK299.out) hb); have n7_ := Aside0.mk (below_step (by repeat (first | (with_reducible first | exact HB.out | apply below_alloc | apply pw_below_drewN | apply below_drew1 | refine below_set ?_ GE282.out | refine below_set ?_ GE294.out | refine below_set ?_ GE299.out) | exact HB.out)) hb); clear HO_10; clear HO_17; clear HO_295002; clear BK282; clear BK294; clear BK299; clear HB; have HO_10 := n0_; have HO_17 := n1_; have HO_295002 := n2_; have HO307 := n3_; have BK282 := n4_; have BK294 := n5_; have BK299 := n6_; have HB := n7_; clear n0_ n1_ n2_ n3_ n4_ n5_ n6_ n7_; (try clear hb); (try clear hb2); (try clear hk); (try clear hi); (try clear hge); (try clear ho0); have hnb84 := NB294_282.out; have hnc84 := NB282_294.out; have hnb85 := NB294_299.out; have hnc85 := NB299_294.out; have hcz86_0 : w83.cell? ⟨gb294, 0, none⟩ = some (.int .i64 x295000_4) := (blk_cell BK294.out 0).trans rfl; have hcz86_1 : w83.cell? ⟨gb294, 1, none⟩ = some (.int .i64 x295001_4) := (blk_cell BK294.out 1).trans rfl; have hcz86_2 : w83.cell? ⟨gb294, 2, none⟩ = some (u295002) := (blk_cell BK294.out 2).trans rfl; have hfz86_0 := blk_frozen BK294.out 0; have hfz86_1 := blk_frozen BK294.out 1; have hfz86_2 := blk_frozen BK294.out 2; obtain ⟨Ao87, co87, eo87⟩ := Kd.R_slice HO307.out; subst eo87) | ((with_reducible refine gate_builtin (b := .append) (xs := #[.tmp 148, .tmp 150]) rfl ?_); (try (refine gate_guard (by rfl) ?_; dsimp only)); at_builtin; refine Kd.R_append_rows (Kd.int .u8) (w0 := w) w.heap.size rfl (.tmp 148) (.tmp 150) 26 5 (.int .u8 0) 1 rfl Try.underlying26 info5 rfl (by decide) (by omega) u17 x17_4 t305 _ _ _ (fun k_ => some k_ ≠ (.slice Ao82 x10_4.length co82 : Value).ownBlock ∧ some k_ ≠ (u295002 : Value).ownBlock ∧ some k_ ≠ (.slice Ao87 t305.length co87 : Value).ownBlock) (fun _ => False) rfl rfl ?aO ?aR (fun _ _ h => h) (fun _ h => h.elim) ?aF ?aB ?aS ?aL ?_; (case aR => refine (Kd.R_reads' (e := 5) (base := w.heap.size) (ok := fun k_ => (((True ∧ some k_ ≠ (.slice Ao82 x10_4.length co82 : Value).ownBlock) ∧ some k_ ≠ (u17 : Value).ownBlock) ∧ some k_ ≠ (u295002 : Value).ownBlock)) (n := t305.length) (c := co87) ?_).2.2; exact (by (with_reducible repeat (first | apply Kd.R_alloc | apply Kd.R_drewN | apply Kd.R_drew)); exact (Kd.R_mono (Kd.R_far (p := ⟨gb294, 2, none⟩) (Kd.R_far (p := ⟨gb294, 1, none⟩) (Kd.R_far (p := ⟨gb294, 0, none⟩) (Kd.R_types HO307.out BK294.out (by decide)) (fun _ hk => hk.2) (.int .i64 t303)) (fun _ hk => hk.2) (.int .i64 t304)) (fun _ hk => hk.2) (.slice Ao87 t305.length co87)) (fun _ h_ => h_.1)))); (case aB => exact (by repeat (first | (with_reducible first | exact HB.out | apply below_alloc | apply pw_below_drewN | apply below_drew1 | refine below_set ?_ GE282.out | refine below_set ?_ GE294.out | refine below_set ?_ GE299.out) | exact HB.out))); (case aF => exact (fun k_ hk => ⟨Kd.fresh' (Kd.Q_lt (by (with_reducible repeat (first | apply Kd.Q_alloc | apply Kd.Q_drewN | apply Kd.Q_drew)); exact (Kd.Q_mono (Kd.Q_far (p := ⟨gb294, 2, none⟩) (Kd.Q_far (p := ⟨gb294, 1, none⟩) (Kd.Q_far (p := ⟨gb294, 0, none⟩) (Kd.Q_types HO_10.out BK294.out (by decide)) (fun _ hk => hk.2) (.int .i64 t303)) (fun _ hk => hk.2) (.int .i64 t304)) (fun _ hk => hk.2) (.slice Ao87 t305.length co87)) (fun _ h_ => h_.1)))) k_ hk, Kd.fresh' (Kd.R_lt (by (with_reducible repeat (first | apply Kd.R_alloc | apply Kd.R_drewN | apply Kd.R_drew)); exact (Kd.R_mono (Kd.R_far (p := ⟨gb294, 2, none⟩) (Kd.R_far (p := ⟨gb294, 1, none⟩) (Kd.R_far (p := ⟨gb294, 0, none⟩) (Kd.R_types HO_295002.out BK294.out (by decide)) (fun _ hk => hk.2) (.int .i64 t303)) (fun _ hk => hk.2) (.int .i64 t304)) (fun _ hk => hk.2) (.slice Ao87 t305.length co87)) (fun _ h_ => h_.1)))) k_ hk, Kd.fresh' (Kd.R_lt (by (with_reducible repeat (first | apply Kd.R_alloc | apply Kd.R_drewN | apply Kd.R_drew)); exact (Kd.R_mono (Kd.R_far (p := ⟨gb294, 2, none⟩) (Kd.R_far (p := ⟨gb294, 1, none⟩) (Kd.R_far (p := ⟨gb294, 0, none⟩) (Kd.R_types HO307.out BK294.out (by decide)) (fun _ hk => hk.2) (.int .i64 t303)) (fun _ hk => hk.2) (.int .i64 t304)) (fun _ hk => hk.2) (.slice Ao87 t305.length co87)) (fun _ h_ => h_.1)))) k_ hk⟩)); (case aO => exact (by (with_reducible repeat (first | apply Kd.R_alloc | apply Kd.R_drewN | apply Kd.R_drew)); exact Kd.R_mono (Kd.R_far (p := ⟨gb294, 2, none⟩) (Kd.R_far (p := ⟨gb294, 1, none⟩) (Kd.R_far (p := ⟨gb294, 0, none⟩) (Kd.R_types HO_17.out BK294.out (by decide)) (fun _ hk => hk.2) (.int .i64 t303)) (fun _ hk => hk.2) (.int .i64 t304)) (fun _ hk => hk.2) (.slice Ao87 t305.length co87)) (fun _ hk => ⟨hk.1.1.1, ⟨hk.1.1.2, hk.1.2⟩⟩))); (case aS => exact (below_size (by repeat (first | (with_reducible first | exact HB.out | apply below_alloc | apply pw_below_drewN | apply below_drew1 | refine below_set ?_ GE282.out | refine below_set ?_ GE294.out | refine below_set ?_ GE299.out) | exact HB.out)))); (case aL => have := LMc79.out; omega); intro v311 w88 ho hb hg hat; rw [← Ny310.out] at ho; have n0_ := Aside0.mk (Kd.Q_after (ok := (fun k_ => some k_ ≠ (u295002 : Value).ownBlock ∧ some k_ ≠ (.slice Ao87 t305.length co87 : Value).ownBlock)) (by (with_reducible repeat (first | apply Kd.Q_alloc | apply Kd.Q_drewN | apply Kd.Q_drew)); exact Kd.Q_mono (Kd.Q_far (p := ⟨gb294, 2, none⟩) (Kd.Q_far (p := ⟨gb294, 1, none⟩) (Kd.Q_far (p := ⟨gb294, 0, none⟩) (Kd.Q_types HO_10.out BK294.out (by decide)) (fun _ hk => hk.2) (.int .i64 t303)) (fun _ hk => hk.2) (.int .i64 t304)) (fun _ hk => hk.2) (.slice Ao87 t305.length co87)) (fun _ hk => ⟨⟨hk.1.1.2, hk.1.2⟩, hk.1.1.1⟩)) hg hat); have n1_ := Aside0.mk (Kd.R_after (ok := (fun k_ => some k_ ≠ (.slice Ao82 x10_4.length co82 : Value).ownBlock ∧ some k_ ≠ (.slice Ao87 t305.length co87 : Value).ownBlock)) (by (with_reducible repeat (first | apply Kd.R_alloc | apply Kd.R_drewN | apply Kd.R_drew)); exact Kd.R_mono (Kd.R_far (p := ⟨gb294, 2, none⟩) (Kd.R_far (p := ⟨gb294, 1, none⟩) (Kd.R_far (p := ⟨gb294, 0, none⟩) (Kd.R_types HO_295002.out BK294.out (by decide)) (fun _ hk => hk.2) (.int .i64 t303)) (fun _ hk => hk.2) (.int .i64 t304)) (fun _ hk => hk.2) (.slice Ao87 t305.length co87)) (fun _ hk => ⟨⟨hk.1.1.1, hk.1.2⟩, hk.1.1.2⟩)) hg hat); have n2_ := Aside0.mk (blk_grown (g := gb282) (o := .cells #[.int .u64 0, .int .i64 (Int.tmod (wrap64 ((Int.tmod a0 3) + 3)) 3), .string a1] 25 (0, 0)) (by (with_reducible repeat (first | refine blk_drewN ?_ _ | refine blk_drew ?_ | refine blk_alloc ?_ _)); refine blk_far ?_ NB282_294.out _; (with_reducible repeat (first | refine blk_drewN ?_ _ | refine blk_drew ?_ | refine blk_alloc ?_ _)); refine blk_far ?_ NB282_294.out _; (with_reducible repeat (first | refine blk_drewN ?_ _ | refine blk_drew ?_ | refine blk_alloc ?_ _)); refine blk_far ?_ NB282_294.out _; (with_reducible repeat (first | refine blk_drewN ?_ _ | refine blk_drew ?_ | refine blk_alloc ?_ _)); exact BK282.out) hg (Kd.R_ne HO_17.out BK282.out (by decide))); have n3_ := Aside0.mk (blk_grown (g := gb294) (o := .cells #[.int .i64 t303, .int .i64 t304, .slice Ao87 t305.length co87] 90 (0, 0)) (by (with_reducible repeat (first | refine blk_drewN ?_ _ | refine blk_drew ?_ | refine blk_alloc ?_ _)); refine blk_put (cs := #[.int .i64 t303, .int .i64 t304, u295002]) ?_ 2 _ rfl; (with_reducible repeat (first | refine blk_drewN ?_ _ | refine blk_drew ?_ | refine blk_alloc ?_ _)); refine blk_put (cs := #[.int .i64 t303, .int .i64 x295001_4, u295002]) ?_ 1 _ rfl; (with_reducible repeat (first | refine blk_drewN ?_ _ | refine blk_drew ?_ | refine blk_alloc ?_ _)); refine blk_put (cs := #[.int .i64 x295000_4, .int .i64 x295001_4, u295002]) ?_ 0 _ rfl; (with_reducible repeat (first | refine blk_drewN ?_ _ | refine blk_drew ?_ | refine blk_alloc ?_ _)); exact BK294.out) hg (Kd.R_ne HO_17.out BK294.out (by decide))); have n4_ := Aside0.mk (blk_grown (g := gb299) (o := .cells #[.int .u64 t295, .int .i64 t296, .string t297] 25 (0, 0)) (by (with_reducible repeat (first | refine blk_drewN ?_ _ | refine blk_drew ?_ | refine blk_alloc ?_ _)); refine blk_far ?_ NB299_294.out _; (with_reducible repeat (first | refine blk_drewN ?_ _ | refine blk_drew ?_ | refine blk_alloc ?_ _)); refine blk_far ?_ NB299_294.out _; (with_reducible repeat (first | refine blk_drewN ?_ _ | refine blk_drew ?_ | refine blk_alloc ?_ _)); refine blk_far ?_ NB299_294.out _; (with_reducible repeat (first | refine blk_drewN ?_ _ | refine blk_drew ?_ | refine blk_alloc ?_ _)); exact BK299.out) hg (Kd.R_ne HO_17.out BK299.out (by decide))); have n5_ := Aside0.mk (Kd.R_after (ok := (fun k_ => some k_ ≠ (.slice Ao82 x10_4.length co82 : Value).ownBlock ∧ some k_ ≠ (u295002 : Value).ownBlock)) (by (with_reducible repeat (first | apply Kd.R_alloc | apply Kd.R_drewN | apply Kd.R_drew)); exact Kd.R_mono (Kd.R_far (p := ⟨gb294, 2, none⟩) (Kd.R_far (p := ⟨gb294, 1, none⟩) (Kd.R_far (p := ⟨gb294, 0, none⟩) (Kd.R_types HO307.out BK294.out (by decide)) (fun _ hk => hk.2) (.int .i64 t303)) (fun _ hk => hk.2) (.int .i64 t304)) (fun _ hk => hk.2) (.slice Ao87 t305.length co87)) (fun _ hk => ⟨⟨hk.1.1.1.2, hk.1.2⟩, hk.1.1.2⟩)) hg hat); have n6_ := Aside0.mk (hb); have n7_ := Aside0.mk (ho); clear HO_10; clear HO_295002; clear BK282; clear BK294; clear BK299; clear HO307; clear HB; clear HO_17; have HO_10 := n0_; have HO_295002 := n1_; have BK282 := n2_; have BK294 := n3_; have BK299 := n4_; have HO307 := n5_; have HB := n6_; have HO312 := n7_; clear n0_ n1_ n2_ n3_ n4_ n5_ n6_ n7_; clear ho hb hg hat; have n_ := Aside0.mk (Kd.Q_mono (ok' := (fun k_ => some k_ ≠ (u295002 : Value).ownBlock ∧ some k_ ≠ (.slice Ao87 t305.length co87 : Value).ownBlock ∧ some k_ ≠ (v311 : Value).ownBlock)) HO_10.out (fun k_ hk => ⟨hk.1.1, ⟨hk.1.2, hk.2⟩⟩)); clear HO_10; have HO_10 := n_; clear n_; have q89 : (t308 : Int) ≤ ((x10_4.length : Int) : Int) := of_decide_eq_true (by first | (with_reducible assumption) | assumption); obtain ⟨i089, hi089, _, hsz89, _⟩ := info_parts info5; have hcut89 := cut_from (P := Try.prog) 26 5 .i64 Try.underlying26 hi089 1 hsz89 Ao82 x10_4.length co82 t308 (of_decide_eq_true (by first | (with_reducible assumption) | assumption)) q89; have hr89 := Kd.Q_drop (k := (t308 : Int).toNat) HO_10.out (by omega); obtain ⟨A89, hA89⟩ : ∃ A1, A1 = (if co82 = (t308 : Int).toNat then Ao82 else (Ao82 : Option Addr).map (·.add ((t308 : Int).toNat * 1))) := ⟨_, rfl⟩; obtain ⟨c89, hc89⟩ : ∃ c1, c1 = co82 - (t308 : Int).toNat := ⟨_, rfl⟩; have hy89 : y313.length = x10_4.length - (t308 : Int).toNat := (by rw [Ny313.out, List.length_drop]); rw [← Ny313.out] at hr89; rw [← hy89, ← hA89, ← hc89] at hcut89; replace hr89 : Kd.Q (Kd.int .u8) 5 w88 w.heap.size (fun k_ => some k_ ≠ (u295002 : Value).ownBlock ∧ some k_ ≠ (.slice Ao87 t305.length co87 : Value).ownBlock ∧ some k_ ≠ (v311 : Value).ownBlock) (.slice A89 y313.length c89) y313 := (by rw [hA89, hc89, hy89]; exact hr89); have HE89 : Aside0 ((Value.slice A89 y313.length c89).ownBlock = (.slice Ao82 x10_4.length co82 : Value).ownBlock) := ⟨by rw [hA89]; split <;> (cases (Ao82 : Option Addr) <;> first | rfl | (simp only [Option.map_some, Value.ownBlock, Addr.add]; split <;> rfl))⟩; clear hy89 hi089 hsz89 HO_10 hA89 hc89; have HO315 := Aside0.mk hr89; clear hr89; replace q89 := eq_true q89; have n_ := Aside0.mk (Kd.R_mono (ok' := fun k_ => ((some k_ ≠ (.slice A89 y313.length c89 : Value).ownBlock ∧ some k_ ≠ (.slice Ao87 t305.length co87 : Value).ownBlock) ∧ some k_ ≠ (v311 : Value).ownBlock)) HO_295002.out (fun k_ hk => ⟨⟨(by rw [HE89.out]; exact hk.1.1), hk.1.2⟩, hk.2⟩)); clear HO_295002; have HO_295002 := n_; clear n_; have n_ := Aside0.mk (Kd.R_mono (ok' := fun k_ => ((some k_ ≠ (.slice A89 y313.length c89 : Value).ownBlock ∧ some k_ ≠ (u295002 : Value).ownBlock) ∧ some k_ ≠ (v311 : Value).ownBlock)) HO307.out (fun k_ hk => ⟨⟨(by rw [HE89.out]; exact hk.1.1), hk.1.2⟩, hk.2⟩)); clear HO307; have HO307 := n_; clear n_; have n_ := Aside0.mk (Kd.R_mono (ok' := fun k_ => (some k_ ≠ (.slice A89 y313.length c89 : Value).ownBlock ∧ (some k_ ≠ (u295002 : Value).ownBlock ∧ some k_ ≠ (.slice Ao87 t305.length co87 : Value).ownBlock))) HO312.out (fun k_ hk => ⟨(by rw [HE89.out]; exact hk.1), ⟨hk.2.1, hk.2.2⟩⟩)); clear HO312; have HO312 := n_; clear n_))
                                                      go_roundg kj66
                                                      case measure => have := HJ4.out; have := HJ12.out; have := HJ38.out; have := HK4.out; have := HJ66.out; omega
                                                      case rel => exact ⟨(y313), (y310), (wrap64 (x18_4 + 1)), (t303), (t304), (t305), (.slice Ao87 t305.length co87), (by first | rfl | (simp; done) | (simp [*]; done)), H', ⟨by have := HJ4.out; have := HJ12.out; have := HJ38.out; have := HK4.out; have := HJ66.out; omega⟩, ⟨by (with_reducible repeat (first | apply Kd.Q_alloc | apply Kd.Q_drewN | apply Kd.Q_drew)); exact Kd.Q_mono HO315.out (fun _ hk => ⟨hk.2.2, hk.2.1⟩)⟩, ⟨by (with_reducible repeat (first | apply Kd.R_alloc | apply Kd.R_drewN | apply Kd.R_drew)); exact Kd.R_mono HO312.out (fun _ hk => ⟨hk.1, hk.2.2⟩)⟩, ⟨by (with_reducible repeat (first | apply Kd.R_alloc | apply Kd.R_drewN | apply Kd.R_drew)); exact Kd.R_mono HO307.out (fun _ hk => ⟨hk.1.1, hk.2⟩)⟩, ⟨by (with_reducible repeat (first | refine blk_drewN ?_ _ | refine blk_drew ?_ | refine blk_alloc ?_ _)); exact BK282.out⟩, ⟨by (with_reducible repeat (first | refine blk_drewN ?_ _ | refine blk_drew ?_ | refine blk_alloc ?_ _)); exact BK294.out⟩, ⟨by (with_reducible repeat (first | refine blk_drewN ?_ _ | refine blk_drew ?_ | refine blk_alloc ?_ _)); exact BK299.out⟩, ⟨by repeat (first | (with_reducible first | exact HB.out | apply below_alloc | apply pw_below_drewN | apply below_drew1 | refine below_set ?_ GE282.out | refine below_set ?_ GE294.out | refine below_set ?_ GE299.out) | exact HB.out)⟩⟩
                                                    · rw [if_neg c81] at H
                                                      exact absurd H (by simp)
                                                  · rw [if_neg c80] at H
                                                    exact absurd H (by simp)
                                                · rw [if_neg c79] at H
                                                  exact absurd H (by simp)
                                        · rw [if_neg c75] at H
                                          exact absurd H (by simp)
                                      · rw [if_neg c74] at H
                                        exact absurd H (by simp)
                                    · rw [if_neg c73] at H
                                      exact absurd H (by simp)
                                  · replace c71 := Bool.eq_false_iff.mpr c71
                                    subst c71
                                    have H1 : (if (strOfNums x17_4).toList = (strOfNums l2).toList then (if x18_4 = (wrap64 (Int.tdiv (wrap64 ((l2.length : Int) + 4087)) 4088)) then ((waybilllaw5_awake.f kj66).bind fun t316 => (some t316)) else (none)) else (none)) = some r := by rw [if_neg (show ¬ (false = true) by decide)] at H; exact H
                                    clear H
                                    have H := H1
                                    clear H1
                                    by_cases c90 : (strOfNums x17_4).toList = (strOfNums l2).toList
                                    · rw [if_pos c90] at H
                                      have c90b0 : ((strOfNums x17_4).toList == (strOfNums l2).toList) = true := beq_iff_eq.mpr c90
                                      have c90b1 : ((strOfNums x17_4).toList != (strOfNums l2).toList) = false := bne_eq_false_iff_eq.mpr c90
                                      clear c90
                                      by_cases c91 : x18_4 = (wrap64 (Int.tdiv (wrap64 ((l2.length : Int) + 4087)) 4088))
                                      · rw [if_pos c91] at H
                                        have c91b0 : (x18_4 == (wrap64 (Int.tdiv (wrap64 ((l2.length : Int) + 4087)) 4088))) = true := beq_iff_eq.mpr c91
                                        have c91b1 : (x18_4 != (wrap64 (Int.tdiv (wrap64 ((l2.length : Int) + 4087)) 4088))) = false := bne_eq_false_iff_eq.mpr c91
                                        clear c91
                                        replace H := Option.bind_eq_some_iff.mp H
                                        obtain ⟨t316, A920, H⟩ := H
                                        replace H : (some t316) = some r := H
                                        have A92 := Aside0.mk A920
                                        clear A920
                                        obtain rfl := Option.some.inj H
                                        have hcv93 := own_string (P := Try.prog) Try.underlying26 Try.underlying5 Try.underlying9 (Kd.own_of_R HO_17.out)
                                        have hcv94 := Kd.C_string (P := Try.prog) (A := A2) (c := c2) Try.underlying26 Try.underlying5 Try.underlying9 (Kd.C_below HR2.out HB.out)
                                        go_wp2_with (first | (go_at_call 15; (with_reducible refine (waybilllaw5_awake.calls kj66  t316 _ A92.out).mono ?_); rintro e w95 ⟨rfl, hb⟩; have n0_ := Aside0.mk (Kd.Q_below (by (with_reducible repeat (first | apply Kd.Q_alloc | apply Kd.Q_drewN | apply Kd.Q_drew)); exact HO_10.out) hb); have n1_ := Aside0.mk (Kd.R_below (by (with_reducible repeat (first | apply Kd.R_alloc | apply Kd.R_drewN | apply Kd.R_drew)); exact HO_17.out) hb); have n2_ := Aside0.mk (Kd.R_below (by (with_reducible repeat (first | apply Kd.R_alloc | apply Kd.R_drewN | apply Kd.R_drew)); exact HO_295002.out) hb); have n3_ := Aside0.mk (blk_below (g := gb282) (o := .cells #[.int .u64 0, .int .i64 (Int.tmod (wrap64 ((Int.tmod a0 3) + 3)) 3), .string a1] 25 (0, 0)) (by (with_reducible repeat (first | refine blk_drewN ?_ _ | refine blk_drew ?_ | refine blk_alloc ?_ _)); exact BK282.out) hb); have n4_ := Aside0.mk (blk_below (g := gb294) (o := .cells #[.int .i64 x295000_4, .int .i64 x295001_4, u295002] 90 (0, 0)) (by (with_reducible repeat (first | refine blk_drewN ?_ _ | refine blk_drew ?_ | refine blk_alloc ?_ _)); exact BK294.out) hb); have n5_ := Aside0.mk (blk_below (g := gb299) (o := .cells #[.int .u64 t295, .int .i64 t296, .string t297] 25 (0, 0)) (by (with_reducible repeat (first | refine blk_drewN ?_ _ | refine blk_drew ?_ | refine blk_alloc ?_ _)); exact BK299.out) hb); have n6_ := Aside0.mk (below_step (by repeat (first | (with_reducible first | exact HB.out | apply below_alloc | apply pw_below_drewN | apply below_drew1 | refine below_set ?_ GE282.out | refine below_set ?_ GE294.out | refine below_set ?_ GE299.out) | exact HB.out)) hb); clear HO_10; clear HO_17; clear HO_295002; clear BK282; clear BK294; clear BK299; clear HB; have HO_10 := n0_; have HO_17 := n1_; have HO_295002 := n2_; have BK282 := n3_; have BK294 := n4_; have BK299 := n5_; have HB := n6_; clear n0_ n1_ n2_ n3_ n4_ n5_ n6_; (try clear hb); (try clear hb2); (try clear hk); (try clear hi); (try clear hge)))
                                        all_goals first | (go_ret; exact ⟨by first | rfl | (simp [errW_none, errW_some]; done) | (simp [errW_none, errW_some]; rfl) | (simp [*, errW_none, errW_some]; done) | (simp [*, errW_none, errW_some]; rfl), by repeat (first | (with_reducible first | exact HB.out | apply below_alloc | apply pw_below_drewN | apply below_drew1 | refine below_set ?_ GE282.out | refine below_set ?_ GE294.out | refine below_set ?_ GE299.out) | exact HB.out)⟩) | (exfalso; simp_all; done)
                                      · rw [if_neg c91] at H
                                        exact absurd H (by simp)
                                    · rw [if_neg c90] at H
                                      exact absurd H (by simp)
                        · rw [if_neg c65] at H
                          exact absurd H (by simp)
                      · rw [if_neg c64] at H
                        exact absurd H (by simp)
        · replace c11 := Bool.eq_false_iff.mpr c11
          subst c11
          have H1 : (none) = some r := by rw [if_neg (show ¬ (false = true) by decide)] at H; exact H
          clear H
          have H := H1
          clear H1
          exact absurd H (by simp)

/-- THE ONE PURE STATEMENT of waybilllaw5_ContBack: yours. -/
def waybilllaw5_ContBack.Pure : Prop := ∀ (a0 : Int) (a1 : ByteArray) (l2 : List Int) (a3 : Int), (Lit.int .i64 a0).wf = true → a1.size ≤ 140737488351232 → l2.length ≤ maxLen → l2.length * 1 ≤ 140737488351232 → (∀ x ∈ l2, (Lit.int .u8 x).wf = true) → (Lit.int .i64 a3).wf = true → ∃ k, waybilllaw5_ContBack.f k a0 a1 l2 a3 = some true
theorem waybilllaw5_ContBack.walk (P : waybilllaw5_ContBack.Pure) (a0 : Int) (a1 : ByteArray) (a2 : Option Addr) (len2 cap2 : Nat) (z2 : List Int) (a3 : Int) (w : World) (w0 : (Lit.int .i64 a0).wf = true) (w1 : a1.size ≤ 140737488351232) (w2 : (a2 = none ∧ len2 = 0 ∧ cap2 = 0 ∧ z2 = []) ∨ ∃ x, a2 = some x ∧ len2 ≤ cap2 ∧ cap2 ≤ maxLen ∧ z2.length = cap2 ∧ (∀ i, i < z2.length → w.cell? (x.add i) = some (.int .u8 (z2.getD i 0))) ∧ ∀ n ∈ z2, (Lit.int .u8 n).wf = true) (y2 : len2 * 1 ≤ 140737488351232) (w3 : (Lit.int .i64 a3).wf = true) :
    Calls Try.prog 14 #[.int .i64 a0, .string a1, .slice a2 len2 cap2, .int .i64 a3] w fun e w' => e = .returned (.bool true) ∧ Below w.heap.size w w' := by
  obtain ⟨l2, rfl, hr2, hm2, hw2, hc2⟩ := ReadsInt.ofRowC w2
  obtain ⟨k, h⟩ := P a0 a1 l2 a3 w0 w1 hm2 y2 hw2 w3
  refine (waybilllaw5_ContBack.calls k a0 a1 _ _ l2 a3 true w (Kd.C_of_reads (d := (0 : Int)) (h1 := fun _ => rfl) hr2) hc2 h).mono ?_
  rintro e w' ⟨rfl, hd⟩
  exact ⟨rfl, hd⟩

end Go.Proofs.Ytpjkaodbcclecaa.PB
