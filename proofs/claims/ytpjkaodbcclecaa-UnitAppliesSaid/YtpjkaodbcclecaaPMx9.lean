/- What functions of the given program come to, and that they do: written out of the translation by a program of this session; Lean checks it. -/
import Derived.Test.YtpjkaodbcclecaaPMx0
namespace Go.Proofs.Ytpjkaodbcclecaa.PM
open Go.RowKit Go.Proofs.YtpjkaodbcclecaaW.PrintWords Go.Proofs.YtpjkaodbcclecaaW.PrintLast Go.Proofs.YtpjkaodbcclecaaW.PrintMore
attribute [local go_sem] max2_int min2_int max_two min_two max_three min_three max_four min_four   -- for this text's walks alone
set_option linter.unusedVariables false
set_option linter.unusedSimpArgs false

/-! ### waybilllaw13_Tame: function 29 -/
mutual
def waybilllaw13_Tame.l0 : Nat → List (S38) → List (S38) → Int → Option ((List (S38)))
 | 0, _, _, _ => none
 | k + 1, x0, x3, x4 => if x4 < (x0.length : Int) then (waybilllaw13_Tame.j1 k x0 x3 x4 (decide (x4 < 30))) else (waybilllaw13_Tame.j1 k x0 x3 x4 false)
def waybilllaw13_Tame.j1 : Nat → List (S38) → List (S38) → Int → Bool → Option ((List (S38)))
 | 0, _, _, _, _ => none
 | k + 1, x0, x3, x4, x13 => if x13 = true then (if 0 ≤ x4 then (if x4 < (x0.length : Int) then (if 0 ≤ (mn (((rd_T38 x0 x4).f0).size : Int) 100) then (if (mn (((rd_T38 x0 x4).f0).size : Int) 100) ≤ (((rd_T38 x0 x4).f0).size : Int) then (if 1 + (((rd_T38 x0 x4).f0).extract 0 ((mn (((rd_T38 x0 x4).f0).size : Int) 100) : Int).toNat).size ≤ 9223372036854775807 then (if ((rd_T38 x0 x4).f1 = true) then (if x3.length < 2932031007402 then (waybilllaw13_Tame.l0 k x0 (x3 ++ [(⟨(⟨#[107]⟩ : ByteArray) ++ (((rd_T38 x0 x4).f0).extract 0 ((mn (((rd_T38 x0 x4).f0).size : Int) 100) : Int).toNat), (rd_T38 x0 x4).f1, ([] : List Int)⟩ : S38)]) (wrap64 (x4 + 1))) else (none)) else (if 0 ≤ (mn (((rd_T38 x0 x4).f2).length : Int) 300) then (if (mn (((rd_T38 x0 x4).f2).length : Int) 300) ≤ (((rd_T38 x0 x4).f2).length : Int) then (if x3.length < 2932031007402 then (waybilllaw13_Tame.l0 k x0 (x3 ++ [(⟨(⟨#[107]⟩ : ByteArray) ++ (((rd_T38 x0 x4).f0).extract 0 ((mn (((rd_T38 x0 x4).f0).size : Int) 100) : Int).toNat), (rd_T38 x0 x4).f1, (((rd_T38 x0 x4).f2).take ((mn (((rd_T38 x0 x4).f2).length : Int) 300) : Int).toNat)⟩ : S38)]) (wrap64 (x4 + 1))) else (none)) else (none)) else (none))) else (none)) else (none)) else (none)) else (none)) else (none)) else (some x3)
end
def waybilllaw13_Tame.f (k : Nat) (l0 : List (S38)) : Option ((List (S38))) := waybilllaw13_Tame.l0 k l0 ([] : List (S38)) 0
theorem waybilllaw13_Tame.mono_l : ∀ k, (∀ y0 y1 y2, LeO (waybilllaw13_Tame.l0 k y0 y1 y2) (waybilllaw13_Tame.l0 (k + 1) y0 y1 y2)) ∧ (∀ y0 y1 y2 y3, LeO (waybilllaw13_Tame.j1 k y0 y1 y2 y3) (waybilllaw13_Tame.j1 (k + 1) y0 y1 y2 y3))
 | 0 => ⟨fun _ _ _ r h => by simp [waybilllaw13_Tame.l0] at h, fun _ _ _ _ r h => by simp [waybilllaw13_Tame.j1] at h⟩
 | k + 1 => by
  obtain ⟨ih0, ih1⟩ := waybilllaw13_Tame.mono_l k
  refine ⟨?_, ?_⟩
  ·
   intro y0 y1 y2
   unfold waybilllaw13_Tame.l0
   repeat' first
   | (with_reducible exact ih0 _ _ _)
   | (with_reducible exact ih1 _ _ _ _)
   | (with_reducible exact LeO.refl _)
   | (with_reducible exact LeO.none _)
   | (with_reducible refine LeO.ite ?_ ?_)
   | (with_reducible refine LeO.bind ?_ (fun _ => ?_))
   | exact ih0 _ _ _
   | exact ih1 _ _ _ _
   | exact LeO.none _
   | refine LeO.ite ?_ ?_
   | refine LeO.bind ?_ (fun _ => ?_)
  ·
   intro y0 y1 y2 y3
   unfold waybilllaw13_Tame.j1
   repeat' first
   | (with_reducible exact ih0 _ _ _)
   | (with_reducible exact ih1 _ _ _ _)
   | (with_reducible exact LeO.refl _)
   | (with_reducible exact LeO.none _)
   | (with_reducible refine LeO.ite ?_ ?_)
   | (with_reducible refine LeO.bind ?_ (fun _ => ?_))
   | exact ih0 _ _ _
   | exact ih1 _ _ _ _
   | exact LeO.none _
   | refine LeO.ite ?_ ?_
   | refine LeO.bind ?_ (fun _ => ?_)
theorem waybilllaw13_Tame.mono : ∀ a0 k, LeO (waybilllaw13_Tame.f k a0) (waybilllaw13_Tame.f (k + 1) a0) := by
 intro a0 k
 obtain ⟨ih0, ih1⟩ := waybilllaw13_Tame.mono_l k
 unfold waybilllaw13_Tame.f
 repeat' first
   | (with_reducible exact ih0 _ _ _)
   | (with_reducible exact ih1 _ _ _ _)
   | (with_reducible exact LeO.refl _)
   | (with_reducible exact LeO.none _)
   | (with_reducible refine LeO.ite ?_ ?_)
   | (with_reducible refine LeO.bind ?_ (fun _ => ?_))
   | exact ih0 _ _ _
   | exact ih1 _ _ _ _
   | exact LeO.none _
   | refine LeO.ite ?_ ?_
   | refine LeO.bind ?_ (fun _ => ?_)
def waybilllaw13_Tame.T5 : Bool × List (List Nat × List Nat) := (true, [([], []), ([], []), ([0, 1], [0, 1]), ([2], [2]), ([3], [3]), ([], []), ([], []), ([5, 6], [5, 6]), ([7], [7]), ([8], [8]), ([9], [9]), ([10], [10]), ([4, 11], [4, 11]), ([12], [12]), ([], []), ([], []), ([14, 15], [14, 15]), ([16], [16]), ([17], [17]), ([13, 18], [13, 18]), ([], []), ([20, 19, 0, 1, 2, 3, 4, 5, 6, 7, 8, 9, 10, 11, 12, 13, 14, 15, 16, 17, 18, 19, 20], [19, 20])])
def waybilllaw13_Tame.B5 : List Nat := [0, 0, 3, 7, 15, 0, 0, 96, 224, 480, 992, 2016, 4095, 8191, 0, 0, 49152, 114688, 245760, 524287, 0, 2097151]
theorem waybilllaw13_Tame.tab5 : rtab .any (opsOf Try.f29 5) = waybilllaw13_Tame.T5 := by kernel_rfl
theorem waybilllaw13_Tame.bits5 : waitsOk waybilllaw13_Tame.T5.2 waybilllaw13_Tame.B5 = true := by kernel_rfl
def waybilllaw13_Tame.T7 : Bool × List (List Nat × List Nat) := (true, [([], []), ([], []), ([0, 1], [0, 1]), ([2], [2]), ([3], [3]), ([], []), ([], []), ([5, 6], [5, 6]), ([7], [7]), ([8], [8]), ([9], [9]), ([10], [10]), ([4, 11], [4, 11]), ([0, 1, 2, 3, 4, 5, 6, 7, 8, 9, 10, 11, 12], []), ([13, 12, 0, 1, 2, 3, 4, 5, 6, 7, 8, 9, 10, 11, 12], [12, 13])])
def waybilllaw13_Tame.B7 : List Nat := [0, 0, 3, 7, 15, 0, 0, 96, 224, 480, 992, 2016, 4095, 8191, 16383]
theorem waybilllaw13_Tame.tab7 : rtab .any (opsOf Try.f29 7) = waybilllaw13_Tame.T7 := by kernel_rfl
theorem waybilllaw13_Tame.bits7 : waitsOk waybilllaw13_Tame.T7.2 waybilllaw13_Tame.B7 = true := by kernel_rfl
set_option maxHeartbeats 8000000 in
set_option maxRecDepth 100000 in
theorem waybilllaw13_Tame.calls (k : Nat) (P0_ : Nat → Prop) (A0 : Option Addr) (c0 : Nat) (l0 : List (S38)) (r : List (S38)) (w : World) (hs0 : Kd.V k38 38 w w.heap.size (fun k_ => P0_ k_) (.slice A0 l0.length c0) l0) (h : waybilllaw13_Tame.f k l0 = some r) :
  Calls Try.prog 29 #[.slice A0 l0.length c0] w fun e w' => ∃ v0_ : Value, e = .returned (v0_) ∧ Kd.N k38 38 w' w.heap.size (fun k_ => (P0_ k_ ∨ w.heap.size ≤ k_)) v0_ r ∧ Below w.heap.size w w' := by
 have hu38 := Try.underlying38
 have HO0 := Aside0.mk (show Kd.V k38 38 w w.heap.size (fun k_ => (P0_ k_ ∨ w.heap.size ≤ k_)) (.slice A0 l0.length c0) l0 from Kd.V_mono hs0 (fun k_ hk => .inl hk))
 have HB := Aside0.mk (Below.refl w.heap.size w)
 have H : (waybilllaw13_Tame.l0 k l0 ([] : List (S38)) 0) = some r := h
 clear h
 have H' := Aside0.mk H
 clear H
 go_enter Try.func29, Try.ntmps29
 go_wp2
 go_loopg [3, 4] k (fun kq v3 v4 w' => ∃ (x3_1 : List (S38)) (x4_1 : Int), v4 = .int .i64 x4_1 ∧ Aside0 (waybilllaw13_Tame.l0 kq l0 x3_1 x4_1 = some r) ∧ Aside0 (kq ≤ k) ∧ Aside0 (Kd.V k38 38 w' w.heap.size (fun k_ => (P0_ k_ ∨ w.heap.size ≤ k_) ∧ some k_ ≠ (v3 : Value).ownBlock) (.slice A0 l0.length c0) l0) ∧ Aside0 (Kd.N k38 38 w' w.heap.size (fun k_ => (P0_ k_ ∨ w.heap.size ≤ k_)) v3 x3_1) ∧ Aside0 (Below w.heap.size w w'))
 case atStart => exact ⟨(([] : List (S38))), (0), (by first | rfl | (simp; done) | (simp [*]; done)), H', ⟨Nat.le_refl _⟩, ⟨by (with_reducible repeat (first | apply Kd.V_alloc | apply Kd.V_drewN | apply Kd.V_drew)); exact Kd.V_mono HO0.out (fun _ hk => ⟨hk, (by simp [Value.ownBlock])⟩)⟩, ⟨by first | exact Kd.S_nil _ _ _ _ _ | exact Kd.N_nil _ _ _ _ _ | exact Kd.V_nil _ _ _ _ _ | exact Kd.Q_nil _ _ _ _ _ | exact Kd.R_nil _ _ _ _ _⟩, ⟨by repeat (first | (with_reducible first | exact HB.out | apply below_alloc | apply pw_below_drewN | apply below_drew1) | exact HB.out)⟩⟩
 case round =>
  clear H'
  obtain ⟨x3_1, x4_1, rfl, HA, HK1, HO_0, HO_3, HB⟩ := hrel
  cases gk with
  | zero => exact absurd HA.out (by simp [waybilllaw13_Tame.l0])
  | succ k1 =>
   have H := HA.out
   clear HA
   simp only [waybilllaw13_Tame.l0] at H
   have HC2 := Aside0.mk H
   clear H
   go_upto_region 3 with (fail)
   go_cut [13] (fun v13 wc => ∃ (kq : Nat) (x13_1 : Bool), v13 = .bool x13_1 ∧ Aside0 (waybilllaw13_Tame.j1 kq l0 x3_1 x4_1 x13_1 = some r) ∧ Aside0 (kq ≤ k1) ∧ Aside0 (Kd.V k38 38 wc w.heap.size (fun k_ => (P0_ k_ ∨ w.heap.size ≤ k_) ∧ some k_ ≠ (u3 : Value).ownBlock) (.slice A0 l0.length c0) l0) ∧ Aside0 (Kd.N k38 38 wc w.heap.size (fun k_ => (P0_ k_ ∨ w.heap.size ≤ k_)) u3 x3_1) ∧ Aside0 (Below w.heap.size w wc))
   case first =>
    have H := HC2.out
    clear HC2
    by_cases c3 : x4_1 < (l0.length : Int)
    ·
     rw [if_pos c3] at H
     have c3b0 : decide (x4_1 < (l0.length : Int)) = true := decide_eq_true c3
     clear c3
     (first | rw [c3b0] | rw [c3b2] | rw [c3b1] | (simp only [i64_w, i32_w]; rw [c3b0]) | skip)
     have H' := Aside0.mk H
     clear H
     go_wp2
     go_meet
     case rel => exact ⟨_, (decide (x4_1 < 30)), (by first | rfl | (simp; done) | (simp [*]; done)), H', ⟨by have := HK1.out; first | omega | exact Nat.le_refl _⟩, ⟨by (with_reducible repeat (first | apply Kd.V_alloc | apply Kd.V_drewN | apply Kd.V_drew)); exact HO_0.out⟩, ⟨by (with_reducible repeat (first | apply Kd.N_alloc | apply Kd.N_drewN | apply Kd.N_drew)); exact HO_3.out⟩, ⟨by repeat (first | (with_reducible first | exact HB.out | apply below_alloc | apply pw_below_drewN | apply below_drew1) | exact HB.out)⟩⟩
    ·
     rw [if_neg c3] at H
     have c3b0 : decide (x4_1 < (l0.length : Int)) = false := decide_eq_false c3
     clear c3
     (first | rw [c3b0] | rw [c3b2] | rw [c3b1] | (simp only [i64_w, i32_w]; rw [c3b0]) | skip)
     have H' := Aside0.mk H
     clear H
     go_wp2
     go_meet
     case rel => exact ⟨_, (false), (by first | rfl | (simp; done) | (simp [*]; done)), H', ⟨by have := HK1.out; first | omega | exact Nat.le_refl _⟩, ⟨by (with_reducible repeat (first | apply Kd.V_alloc | apply Kd.V_drewN | apply Kd.V_drew)); exact HO_0.out⟩, ⟨by (with_reducible repeat (first | apply Kd.N_alloc | apply Kd.N_drewN | apply Kd.N_drew)); exact HO_3.out⟩, ⟨by repeat (first | (with_reducible first | exact HB.out | apply below_alloc | apply pw_below_drewN | apply below_drew1) | exact HB.out)⟩⟩
   case rest =>
    clear HC2
    try clear c2
    try clear p2
    try clear c3
    try clear c3b0
    obtain ⟨kq, x13_1, rfl, HA, HJ1, HO_0, HO_3, HB⟩ := hcut
    cases kq with
    | zero => exact absurd HA.out (by simp [waybilllaw13_Tame.j1])
    | succ kj1 =>
     have H := HA.out
     clear HA
     simp only [waybilllaw13_Tame.j1] at H
     by_cases c4 : x13_1 = true
     ·
      subst c4
      have H1 : (if 0 ≤ x4_1 then (if x4_1 < (l0.length : Int) then (if 0 ≤ (mn (((rd_T38 l0 x4_1).f0).size : Int) 100) then (if (mn (((rd_T38 l0 x4_1).f0).size : Int) 100) ≤ (((rd_T38 l0 x4_1).f0).size : Int) then (if 1 + (((rd_T38 l0 x4_1).f0).extract 0 ((mn (((rd_T38 l0 x4_1).f0).size : Int) 100) : Int).toNat).size ≤ 9223372036854775807 then (if ((rd_T38 l0 x4_1).f1 = true) then (if x3_1.length < 2932031007402 then (waybilllaw13_Tame.l0 kj1 l0 (x3_1 ++ [(⟨(⟨#[107]⟩ : ByteArray) ++ (((rd_T38 l0 x4_1).f0).extract 0 ((mn (((rd_T38 l0 x4_1).f0).size : Int) 100) : Int).toNat), (rd_T38 l0 x4_1).f1, ([] : List Int)⟩ : S38)]) (wrap64 (x4_1 + 1))) else (none)) else (if 0 ≤ (mn (((rd_T38 l0 x4_1).f2).length : Int) 300) then (if (mn (((rd_T38 l0 x4_1).f2).length : Int) 300) ≤ (((rd_T38 l0 x4_1).f2).length : Int) then (if x3_1.length < 2932031007402 then (waybilllaw13_Tame.l0 kj1 l0 (x3_1 ++ [(⟨(⟨#[107]⟩ : ByteArray) ++ (((rd_T38 l0 x4_1).f0).extract 0 ((mn (((rd_T38 l0 x4_1).f0).size : Int) 100) : Int).toNat), (rd_T38 l0 x4_1).f1, (((rd_T38 l0 x4_1).f2).take ((mn (((rd_T38 l0 x4_1).f2).length : Int) 300) : Int).toNat)⟩ : S38)]) (wrap64 (x4_1 + 1))) else (none)) else (none)) else (none))) else (none)) else (none)) else (none)) else (none)) else (none)) = some r := by rw [if_pos rfl] at H; exact H
      clear H
      have H := H1
      clear H1
      by_cases c5 : 0 ≤ x4_1
      ·
       rw [if_pos c5] at H
       have c5b0 : decide (0 ≤ x4_1) = true := decide_eq_true c5
       clear c5
       by_cases c6 : x4_1 < (l0.length : Int)
       ·
        rw [if_pos c6] at H
        have c6b0 : decide (x4_1 < (l0.length : Int)) = true := decide_eq_true c6
        clear c6
        obtain ⟨ji7, hji7⟩ : ∃ j_ : Int, (mn (((rd_T38 l0 x4_1).f0).size : Int) 100) = j_ := ⟨_, rfl⟩
        replace H : (if 0 ≤ (ji7) then (if (ji7) ≤ (((rd_T38 l0 x4_1).f0).size : Int) then (if 1 + (((rd_T38 l0 x4_1).f0).extract 0 ((ji7) : Int).toNat).size ≤ 9223372036854775807 then (if ((rd_T38 l0 x4_1).f1 = true) then (if x3_1.length < 2932031007402 then (waybilllaw13_Tame.l0 kj1 l0 (x3_1 ++ [(⟨(⟨#[107]⟩ : ByteArray) ++ (((rd_T38 l0 x4_1).f0).extract 0 ((ji7) : Int).toNat), (rd_T38 l0 x4_1).f1, ([] : List Int)⟩ : S38)]) (wrap64 (x4_1 + 1))) else (none)) else (if 0 ≤ (mn (((rd_T38 l0 x4_1).f2).length : Int) 300) then (if (mn (((rd_T38 l0 x4_1).f2).length : Int) 300) ≤ (((rd_T38 l0 x4_1).f2).length : Int) then (if x3_1.length < 2932031007402 then (waybilllaw13_Tame.l0 kj1 l0 (x3_1 ++ [(⟨(⟨#[107]⟩ : ByteArray) ++ (((rd_T38 l0 x4_1).f0).extract 0 ((ji7) : Int).toNat), (rd_T38 l0 x4_1).f1, (((rd_T38 l0 x4_1).f2).take ((mn (((rd_T38 l0 x4_1).f2).length : Int) 300) : Int).toNat)⟩ : S38)]) (wrap64 (x4_1 + 1))) else (none)) else (none)) else (none))) else (none)) else (none)) else (none)) = some r := by first | (rw [hji7] at H; exact H) | (simp only [hji7] at H ⊢; exact H)
        have hji7_ : (if 100 < (((rd_T38 l0 x4_1).f0).size : Int) then 100 else (((rd_T38 l0 x4_1).f0).size : Int)) = ji7 := hji7
        (try (have hji7u : ji7 ≤ 100 := by (rw [← hji7]; unfold mn; (repeat' split) <;> omega)))
        (try (have hji7v : ¬ (9223372036854775807 < 1 + ji7.toNat) := by omega))
        by_cases c8 : 0 ≤ (ji7)
        ·
         rw [if_pos c8] at H
         have c8b0 := eq_true c8
         have c8b1 : decide (0 ≤ (ji7)) = true := decide_eq_true c8
         clear c8
         by_cases c9 : (ji7) ≤ (((rd_T38 l0 x4_1).f0).size : Int)
         ·
          rw [if_pos c9] at H
          have c9b0 := eq_true c9
          have c9b1 : decide ((ji7) ≤ (((rd_T38 l0 x4_1).f0).size : Int)) = true := decide_eq_true c9
          clear c9
          by_cases c10 : 1 + (((rd_T38 l0 x4_1).f0).extract 0 ((ji7) : Int).toNat).size ≤ 9223372036854775807
          ·
           rw [if_pos c10] at H
           have c10b0 := eq_true c10
           have c10b1 : decide (1 + (((rd_T38 l0 x4_1).f0).extract 0 ((ji7) : Int).toNat).size ≤ 9223372036854775807) = true := decide_eq_true c10
           try have c10b2 : (9223372036854775807 < 1 + (((rd_T38 l0 x4_1).f0).extract 0 ((ji7) : Int).toNat).size) = False := eq_false (Nat.not_lt.2 c10)
           obtain ⟨bq11, hbq11⟩ : ∃ b_ : Bool, b_ = ((rd_T38 l0 x4_1).f1) := ⟨_, rfl⟩
           replace H : (if (bq11 = true) then (if x3_1.length < 2932031007402 then (waybilllaw13_Tame.l0 kj1 l0 (x3_1 ++ [(⟨(⟨#[107]⟩ : ByteArray) ++ (((rd_T38 l0 x4_1).f0).extract 0 ((ji7) : Int).toNat), bq11, ([] : List Int)⟩ : S38)]) (wrap64 (x4_1 + 1))) else (none)) else (if 0 ≤ (mn (((rd_T38 l0 x4_1).f2).length : Int) 300) then (if (mn (((rd_T38 l0 x4_1).f2).length : Int) 300) ≤ (((rd_T38 l0 x4_1).f2).length : Int) then (if x3_1.length < 2932031007402 then (waybilllaw13_Tame.l0 kj1 l0 (x3_1 ++ [(⟨(⟨#[107]⟩ : ByteArray) ++ (((rd_T38 l0 x4_1).f0).extract 0 ((ji7) : Int).toNat), bq11, (((rd_T38 l0 x4_1).f2).take ((mn (((rd_T38 l0 x4_1).f2).length : Int) 300) : Int).toNat)⟩ : S38)]) (wrap64 (x4_1 + 1))) else (none)) else (none)) else (none))) = some r := by rw [← hbq11] at H; exact H
           have Nbq11 := Aside0.mk hbq11
           clear hbq11
           by_cases c12 : (bq11 = true)
           ·
            subst c12
            have H1 : (if x3_1.length < 2932031007402 then (waybilllaw13_Tame.l0 kj1 l0 (x3_1 ++ [(⟨(⟨#[107]⟩ : ByteArray) ++ (((rd_T38 l0 x4_1).f0).extract 0 ((ji7) : Int).toNat), true, ([] : List Int)⟩ : S38)]) (wrap64 (x4_1 + 1))) else (none)) = some r := by rw [if_pos rfl] at H; exact H
            clear H
            have H := H1
            clear H1
            by_cases c13 : x3_1.length < 2932031007402
            ·
             rw [if_pos c13] at H
             have LMc13 := Aside0.mk c13
             clear c13
             obtain ⟨y234, hy234⟩ : ∃ y_ : List (S38), y_ = (x3_1 ++ [(⟨(⟨#[107]⟩ : ByteArray) ++ (((rd_T38 l0 x4_1).f0).extract 0 ((ji7) : Int).toNat), true, ([] : List Int)⟩ : S38)]) := ⟨_, rfl⟩
             replace H : (waybilllaw13_Tame.l0 kj1 l0 y234 (wrap64 (x4_1 + 1))) = some r := by first | (rw [hy234]; with_reducible exact H) | (have H2_ := (Option.bind_some _ _).symm.trans H; rw [hy234]; with_reducible exact H2_) | (have H2_ := (Option.bind_some _ _).symm.trans H; with_reducible exact H2_) | with_reducible exact H | (rw [hy234]; exact H) | exact H
             have Ny234 := Aside0.mk hy234
             clear hy234
             have H' := Aside0.mk H
             clear H
             try go_wp2
             have n0_ := Aside0.mk (Kd.V_drew HO_0.out)
             have n1_ := Aside0.mk (Kd.N_drew HO_3.out)
             have n2_ := Aside0.mk (below_drew1 HB.out)
             clear HO_0
             clear HO_3
             clear HB
             have HO_0 := n0_
             have HO_3 := n1_
             have HB := n2_
             clear n0_ n1_ n2_
             have p230 : 0 ≤ (x4_1 : Int) := of_decide_eq_true (by first | (with_reducible assumption) | assumption)
             have q230 : x4_1 < (l0.length : Int) := of_decide_eq_true (by first | (with_reducible assumption) | assumption)
             obtain ⟨ad230, A230_2, c230_2, e230, hx230_0, hx230_1, hx230_2, hl230_2, hi230_2⟩ := at_T38 (Kd.V_reads' HO_0.out).2.2 x4_1 p230 q230
             (try rw [← Nbq11.out] at hx230_1)
             cases e230
             obtain ⟨ce230, hce230, hMe230, hcc230⟩ := Kd.V_get HO_0.out z38 x4_1 p230 (by first | exact q230 | exact of_decide_eq_true (by first | (with_reducible assumption) | assumption) | (have e_ := (Kd.V_reads' HO_0.out).1; omega))
             obtain ⟨ua230_2, uc230_2, rfl, ul230_2, ge230_2⟩ := k38_openF hMe230
             have hv230_2 := hcc230 2 _ rfl
             rw [add_field _ _ 2 (by omega)] at hv230_2
             replace hv230_2 := Option.some.inj (hv230_2.symm.trans hx230_2)
             injection hv230_2 with hva_ hvn_ hvc_
             rw [hva_] at ge230_2
             rw [hvc_] at ul230_2
             have HL230_2 := Aside0.mk (show Kd.V (Kd.int .u8) 5 _ w.heap.size _ _ ((rd_T38 l0 x4_1).f2) from Kd.V_mk ul230_2 ge230_2)
             clear hva_ hvn_ hvc_ ge230_2 ul230_2
             clear hcc230 hce230
             have HR230_2 := Aside0.mk hi230_2
             have HC230_2 := Aside0.mk hl230_2
             clear hi230_2 hl230_2
             replace p230 := eq_true p230
             replace q230 := eq_true q230
             have p231 : 0 ≤ (x4_1 : Int) := of_decide_eq_true (by first | (with_reducible assumption) | assumption)
             have q231 : x4_1 < (l0.length : Int) := of_decide_eq_true (by first | (with_reducible assumption) | assumption)
             obtain ⟨ad231, A231_2, c231_2, e231, hx231_0, hx231_1, hx231_2, hl231_2, hi231_2⟩ := at_T38 (Kd.V_reads' HO_0.out).2.2 x4_1 p231 q231
             (try rw [← Nbq11.out] at hx231_1)
             obtain rfl : ad230 = ad231 := (by injection e231)
             obtain ⟨ce231, hce231, hMe231, hcc231⟩ := Kd.V_get HO_0.out z38 x4_1 p231 (by first | exact q231 | exact of_decide_eq_true (by first | (with_reducible assumption) | assumption) | (have e_ := (Kd.V_reads' HO_0.out).1; omega))
             obtain ⟨ua231_2, uc231_2, rfl, ul231_2, ge231_2⟩ := k38_openF hMe231
             have hv231_2 := hcc231 2 _ rfl
             rw [add_field _ _ 2 (by omega)] at hv231_2
             replace hv231_2 := Option.some.inj (hv231_2.symm.trans hx231_2)
             injection hv231_2 with hva_ hvn_ hvc_
             rw [hva_] at ge231_2
             rw [hvc_] at ul231_2
             have HL231_2 := Aside0.mk (show Kd.V (Kd.int .u8) 5 _ w.heap.size _ _ ((rd_T38 l0 x4_1).f2) from Kd.V_mk ul231_2 ge231_2)
             clear hva_ hvn_ hvc_ ge231_2 ul231_2
             clear hcc231 hce231
             have HR231_2 := Aside0.mk hi231_2
             have HC231_2 := Aside0.mk hl231_2
             clear hi231_2 hl231_2
             replace p231 := eq_true p231
             replace q231 := eq_true q231
             have ea_ := Option.some.inj (hx230_2.symm.trans hx231_2)
             injection ea_ with ea_ en_ ec_
             subst ea_
             subst ec_
             clear en_
             have p232 : 0 ≤ (x4_1 : Int) := of_decide_eq_true (by first | (with_reducible assumption) | assumption)
             have q232 : x4_1 < (l0.length : Int) := of_decide_eq_true (by first | (with_reducible assumption) | assumption)
             obtain ⟨ad232, A232_2, c232_2, e232, hx232_0, hx232_1, hx232_2, hl232_2, hi232_2⟩ := at_T38 (Kd.V_reads' HO_0.out).2.2 x4_1 p232 q232
             (try rw [← Nbq11.out] at hx232_1)
             obtain rfl : ad230 = ad232 := (by injection e232)
             obtain ⟨ce232, hce232, hMe232, hcc232⟩ := Kd.V_get HO_0.out z38 x4_1 p232 (by first | exact q232 | exact of_decide_eq_true (by first | (with_reducible assumption) | assumption) | (have e_ := (Kd.V_reads' HO_0.out).1; omega))
             obtain ⟨ua232_2, uc232_2, rfl, ul232_2, ge232_2⟩ := k38_openF hMe232
             have hv232_2 := hcc232 2 _ rfl
             rw [add_field _ _ 2 (by omega)] at hv232_2
             replace hv232_2 := Option.some.inj (hv232_2.symm.trans hx232_2)
             injection hv232_2 with hva_ hvn_ hvc_
             rw [hva_] at ge232_2
             rw [hvc_] at ul232_2
             have HL232_2 := Aside0.mk (show Kd.V (Kd.int .u8) 5 _ w.heap.size _ _ ((rd_T38 l0 x4_1).f2) from Kd.V_mk ul232_2 ge232_2)
             clear hva_ hvn_ hvc_ ge232_2 ul232_2
             clear hcc232 hce232
             have HR232_2 := Aside0.mk hi232_2
             have HC232_2 := Aside0.mk hl232_2
             clear hi232_2 hl232_2
             replace p232 := eq_true p232
             replace q232 := eq_true q232
             have ea_ := Option.some.inj (hx230_2.symm.trans hx232_2)
             injection ea_ with ea_ en_ ec_
             subst ea_
             subst ec_
             clear en_
             refine start_ (n := 22) (S := fun w' => w'.cell? (ad230.add ((x4_1).toNat * 3)) = some (.string ((rd_T38 l0 x4_1).f0)) ∧ w'.cell? ⟨(ad230.add ((x4_1).toNat * 3)).block, (ad230.add ((x4_1).toNat * 3)).off + 1, none⟩ = some (.bool true) ∧ w'.cell? ⟨(ad230.add ((x4_1).toNat * 3)).block, (ad230.add ((x4_1).toNat * 3)).off + 2, none⟩ = some (.slice A230_2 ((rd_T38 l0 x4_1).f2).length c230_2) ∧ w'.cell? (ad230.add ((x4_1).toNat * 3)) = some (.string ((rd_T38 l0 x4_1).f0)) ∧ w'.cell? ⟨(ad230.add ((x4_1).toNat * 3)).block, (ad230.add ((x4_1).toNat * 3)).off + 1, none⟩ = some (.bool true) ∧ w'.cell? ⟨(ad230.add ((x4_1).toNat * 3)).block, (ad230.add ((x4_1).toNat * 3)).off + 2, none⟩ = some (.slice A230_2 ((rd_T38 l0 x4_1).f2).length c230_2) ∧ w'.cell? (ad230.add ((x4_1).toNat * 3)) = some (.string ((rd_T38 l0 x4_1).f0)) ∧ w'.cell? ⟨(ad230.add ((x4_1).toNat * 3)).block, (ad230.add ((x4_1).toNat * 3)).off + 1, none⟩ = some (.bool true) ∧ w'.cell? ⟨(ad230.add ((x4_1).toNat * 3)).block, (ad230.add ((x4_1).toNat * 3)).off + 2, none⟩ = some (.slice A230_2 ((rd_T38 l0 x4_1).f2).length c230_2)) (ds := []) #[false, false, false, false, false, false, false, false, false, false, false, false, false, false, false, false, false, false, false, false, false, false] (by kernel_rfl) rfl rfl ⟨hx230_0, hx230_1, hx230_2, hx231_0, hx231_1, hx231_2, hx232_0, hx232_1, hx232_2⟩ (fun hHeld => ?_); refine with_tabW waybilllaw13_Tame.tab5 waybilllaw13_Tame.bits5 (fun HT_ HW_ => ?_)
             generalize wc.drew = w14 at HO_0 HO_3 HB HL230_2 HL231_2 HL232_2 HR230_2 HR231_2 HR232_2 hx230_0 hx230_1 hx230_2 hx231_0 hx231_1 hx231_2 hx232_0 hx232_1 hx232_2 hHeld ⊢
             refine pure_ (i := 0) (N := some 16) (v := ?_) (a' := ?_) #[true, false, false, false, false, false, false, false, false, false, false, false, false, false, false, false, false, false, false, false, false, false] rfl rfl (any_of HT_.out (by kernel_rfl)) (fun _ _ _ h => h) (Or.inl ⟨by rfl, ?_⟩) ?_ ?_
             rotate_left
             ·
              intro w'
              go_simp
              with_reducible rfl
             rotate_left
             ·
              simp only [Act.put, List.setIfInBounds_toArray, List.set_cons_zero, List.set_cons_succ, i64_w, i32_w]
              rfl
             refine pure_ (i := 1) (N := some 17) (v := ?_) (a' := ?_) #[true, true, false, false, false, false, false, false, false, false, false, false, false, false, false, false, false, false, false, false, false, false] rfl rfl (any_of HT_.out (by kernel_rfl)) (fun _ _ _ h => h) (Or.inl ⟨by rfl, ?_⟩) ?_ ?_
             rotate_left
             ·
              intro w'
              go_simp
              with_reducible rfl
             rotate_left
             ·
              simp only [Act.put, List.setIfInBounds_toArray, List.set_cons_zero, List.set_cons_succ, i64_w, i32_w]
              rfl
             refine pure_ (i := 2) (N := some 18) (v := ?_) (a' := ?_) #[true, true, true, false, false, false, false, false, false, false, false, false, false, false, false, false, false, false, false, false, false, false] rfl rfl (any_of HT_.out (by kernel_rfl)) (fun _ _ _ h => h) (Or.inl ⟨by rfl, ?_⟩) ?_ ?_
             rotate_left
             ·
              intro w'
              go_simp
              with_reducible rfl
             rotate_left
             ·
              simp only [Act.put, List.setIfInBounds_toArray, List.set_cons_zero, List.set_cons_succ, i64_w, i32_w]
              rfl
             refine pure_ (i := 3) (N := some 19) (v := ?_) (a' := ?_) #[true, true, true, true, false, false, false, false, false, false, false, false, false, false, false, false, false, false, false, false, false, false] rfl rfl (any_of HT_.out (by kernel_rfl)) (fun _ _ _ h => h) (Or.inl ⟨by rfl, ?_⟩) ?_ ?_
             rotate_left
             ·
              intro w'
              go_simp
              with_reducible rfl
             rotate_left
             ·
              simp only [Act.put, List.setIfInBounds_toArray, List.set_cons_zero, List.set_cons_succ, i64_w, i32_w]
              rfl
             refine pure_ (i := 5) (N := some 21) (v := ?_) (a' := ?_) #[true, true, true, true, false, true, false, false, false, false, false, false, false, false, false, false, false, false, false, false, false, false] rfl rfl (any_of HT_.out (by kernel_rfl)) (fun _ _ _ h => h) (Or.inl ⟨by rfl, ?_⟩) ?_ ?_
             rotate_left
             ·
              intro w'
              go_simp
              with_reducible rfl
             rotate_left
             ·
              simp only [Act.put, List.setIfInBounds_toArray, List.set_cons_zero, List.set_cons_succ, i64_w, i32_w]
              rfl
             refine pure_ (i := 6) (N := some 22) (v := ?_) (a' := ?_) #[true, true, true, true, false, true, true, false, false, false, false, false, false, false, false, false, false, false, false, false, false, false] rfl rfl (any_of HT_.out (by kernel_rfl)) (fun _ _ _ h => h) (Or.inl ⟨by rfl, ?_⟩) ?_ ?_
             rotate_left
             ·
              intro w'
              go_simp
              with_reducible rfl
             rotate_left
             ·
              simp only [Act.put, List.setIfInBounds_toArray, List.set_cons_zero, List.set_cons_succ, i64_w, i32_w]
              rfl
             refine pure_ (i := 7) (N := some 23) (v := ?_) (a' := ?_) #[true, true, true, true, false, true, true, true, false, false, false, false, false, false, false, false, false, false, false, false, false, false] rfl rfl (any_of HT_.out (by kernel_rfl)) (fun _ _ _ h => h) (Or.inl ⟨by rfl, ?_⟩) ?_ ?_
             rotate_left
             ·
              intro w'
              go_simp
              with_reducible rfl
             rotate_left
             ·
              simp only [Act.put, List.setIfInBounds_toArray, List.set_cons_zero, List.set_cons_succ, i64_w, i32_w]
              rfl
             refine pure_ (i := 8) (N := some 24) (v := ?_) (a' := ?_) #[true, true, true, true, false, true, true, true, true, false, false, false, false, false, false, false, false, false, false, false, false, false] rfl rfl (any_of HT_.out (by kernel_rfl)) (fun _ _ _ h => h) (Or.inl ⟨by rfl, ?_⟩) ?_ ?_
             rotate_left
             ·
              intro w'
              go_simp
              with_reducible rfl
             rotate_left
             ·
              simp only [Act.put, List.setIfInBounds_toArray, List.set_cons_zero, List.set_cons_succ, i64_w, i32_w]
              rfl
             refine pure_ (i := 14) (N := some 30) (v := ?_) (a' := ?_) #[true, true, true, true, false, true, true, true, true, false, false, false, false, false, true, false, false, false, false, false, false, false] rfl rfl (any_of HT_.out (by kernel_rfl)) (fun _ _ _ h => h) (Or.inl ⟨by rfl, ?_⟩) ?_ ?_
             rotate_left
             ·
              intro w'
              go_simp
              with_reducible rfl
             rotate_left
             ·
              simp only [Act.put, List.setIfInBounds_toArray, List.set_cons_zero, List.set_cons_succ, i64_w, i32_w]
              rfl
             refine pure_ (i := 15) (N := some 31) (v := ?_) (a' := ?_) #[true, true, true, true, false, true, true, true, true, false, false, false, false, false, true, true, false, false, false, false, false, false] rfl rfl (any_of HT_.out (by kernel_rfl)) (fun _ _ _ h => h) (Or.inl ⟨by rfl, ?_⟩) ?_ ?_
             rotate_left
             ·
              intro w'
              go_simp
              with_reducible rfl
             rotate_left
             ·
              simp only [Act.put, List.setIfInBounds_toArray, List.set_cons_zero, List.set_cons_succ, i64_w, i32_w]
              rfl
             refine pure_ (i := 16) (N := some 32) (v := ?_) (a' := ?_) #[true, true, true, true, false, true, true, true, true, false, false, false, false, false, true, true, true, false, false, false, false, false] rfl rfl (any_of HT_.out (by kernel_rfl)) (fun _ _ _ h => h) (Or.inl ⟨by rfl, ?_⟩) ?_ ?_
             rotate_left
             ·
              intro w'
              go_simp
              with_reducible rfl
             rotate_left
             ·
              simp only [Act.put, List.setIfInBounds_toArray, List.set_cons_zero, List.set_cons_succ, i64_w, i32_w]
              rfl
             refine pure_ (i := 17) (N := some 33) (v := ?_) (a' := ?_) #[true, true, true, true, false, true, true, true, true, false, false, false, false, false, true, true, true, true, false, false, false, false] rfl rfl (any_of HT_.out (by kernel_rfl)) (fun _ _ _ h => h) (Or.inl ⟨by rfl, ?_⟩) ?_ ?_
             rotate_left
             ·
              intro w'
              go_simp
              with_reducible rfl
             rotate_left
             ·
              simp only [Act.put, List.setIfInBounds_toArray, List.set_cons_zero, List.set_cons_succ, i64_w, i32_w]
              rfl
             refine take_ (i := 4) (N := some 20) (v := ?_) (a' := ?_) #[true, true, true, true, true, true, true, true, true, false, false, false, false, false, true, true, true, true, false, false, false, false] rfl rfl (take_ofW HT_.out HW_.out (by kernel_rfl)) (fun _ _ _ h => h) (Or.inl ⟨by rfl, ?_⟩) hHeld ?_ ?_
             rotate_left
             ·
              rintro w' ⟨s0, s1, s2, s3, s4, s5, s6, s7, s8⟩
              go_simp
              with_reducible rfl
             rotate_left
             ·
              simp only [Act.put, List.setIfInBounds_toArray, List.set_cons_zero, List.set_cons_succ, i64_w, i32_w]
              rfl
             refine take_ (i := 9) (N := some 25) (v := ?_) (a' := ?_) #[true, true, true, true, true, true, true, true, true, true, false, false, false, false, true, true, true, true, false, false, false, false] rfl rfl (take_ofW HT_.out HW_.out (by kernel_rfl)) (fun _ _ _ h => h) (Or.inl ⟨by rfl, ?_⟩) hHeld ?_ ?_
             rotate_left
             ·
              rintro w' ⟨s0, s1, s2, s3, s4, s5, s6, s7, s8⟩
              go_simp
              with_reducible rfl
             rotate_left
             ·
              simp only [Act.put, List.setIfInBounds_toArray, List.set_cons_zero, List.set_cons_succ, i64_w, i32_w]
              rfl
             refine pure_ (i := 10) (N := some 26) (v := ?_) (a' := ?_) #[true, true, true, true, true, true, true, true, true, true, true, false, false, false, true, true, true, true, false, false, false, false] rfl rfl (any_of HT_.out (by kernel_rfl)) (fun _ _ _ h => h) (Or.inl ⟨by rfl, ?_⟩) ?_ ?_
             rotate_left
             ·
              intro w'
              go_simp
              with_reducible rfl
             rotate_left
             ·
              simp only [Act.put, List.setIfInBounds_toArray, List.set_cons_zero, List.set_cons_succ, i64_w, i32_w]
              rfl
             refine pure_ (i := 11) (N := some 27) (v := ?_) (a' := ?_) #[true, true, true, true, true, true, true, true, true, true, true, true, false, false, true, true, true, true, false, false, false, false] rfl rfl (any_of HT_.out (by kernel_rfl)) (fun _ _ _ h => h) (Or.inl ⟨by rfl, ?_⟩) ?_ ?_
             rotate_left
             ·
              intro w'
              go_simp
              with_reducible rfl
             rotate_left
             ·
              simp only [Act.put, List.setIfInBounds_toArray, List.set_cons_zero, List.set_cons_succ, i64_w, i32_w]
              rfl
             refine pure_ (i := 12) (N := some 28) (v := ?_) (a' := ?_) #[true, true, true, true, true, true, true, true, true, true, true, true, true, false, true, true, true, true, false, false, false, false] rfl rfl (any_of HT_.out (by kernel_rfl)) (fun _ _ _ h => h) (Or.inl ⟨by rfl, ?_⟩) ?_ ?_
             rotate_left
             ·
              intro w'
              go_simp
              with_reducible rfl
             rotate_left
             ·
              simp only [Act.put, List.setIfInBounds_toArray, List.set_cons_zero, List.set_cons_succ, i64_w, i32_w]
              rfl
             refine pure_ (i := 13) (N := some 29) (v := ?_) (a' := ?_) #[true, true, true, true, true, true, true, true, true, true, true, true, true, true, true, true, true, true, false, false, false, false] rfl rfl (any_of HT_.out (by kernel_rfl)) (fun _ _ _ h => h) (Or.inl ⟨by rfl, ?_⟩) ?_ ?_
             rotate_left
             ·
              intro w'
              go_simp
              with_reducible rfl
             rotate_left
             ·
              simp only [Act.put, List.setIfInBounds_toArray, List.set_cons_zero, List.set_cons_succ, i64_w, i32_w]
              rfl
             refine take_ (i := 18) (N := some 34) (v := ?_) (a' := ?_) #[true, true, true, true, true, true, true, true, true, true, true, true, true, true, true, true, true, true, true, false, false, false] rfl rfl (take_ofW HT_.out HW_.out (by kernel_rfl)) (fun _ _ _ h => h) (Or.inl ⟨by rfl, ?_⟩) hHeld ?_ ?_
             rotate_left
             ·
              rintro w' ⟨s0, s1, s2, s3, s4, s5, s6, s7, s8⟩
              go_simp
              with_reducible rfl
             rotate_left
             ·
              simp only [Act.put, List.setIfInBounds_toArray, List.set_cons_zero, List.set_cons_succ, i64_w, i32_w]
              rfl
             refine pure_ (i := 19) (N := some 35) (v := ?_) (a' := ?_) #[true, true, true, true, true, true, true, true, true, true, true, true, true, true, true, true, true, true, true, true, false, false] rfl rfl (any_of HT_.out (by kernel_rfl)) (fun _ _ _ h => h) (Or.inl ⟨by rfl, ?_⟩) ?_ ?_
             rotate_left
             ·
              intro w'
              go_simp
              with_reducible rfl
             rotate_left
             ·
              simp only [Act.put, List.setIfInBounds_toArray, List.set_cons_zero, List.set_cons_succ, i64_w, i32_w]
              rfl
             refine one_ (i := 20) (N := some 5) #[true, true, true, true, true, true, true, true, true, true, true, true, true, true, true, true, true, true, true, true, true, false] rfl rfl (one_of HT_.out (by kernel_rfl)) (by decide) (fun K hK => ?_)
             refine box_step ?hg (N := 5) ?hd (cs := #[.string (⟨#[]⟩ : ByteArray), .bool false, .slice none 0 0]) (t := 38) ?hr ?_; (case hd => rfl); (case hg => rfl); (case hr => first | (go_simp; done) | (go_simp; rfl))
             intro gb233 hg w15 hbox hb
             have HS0_ := (hb.cell (World.block_lt_of_cell? _ _ (hHeld.1))).trans (hHeld.1)
             have HS1_ := (hb.cell (World.block_lt_of_cell? _ _ (hHeld.2.1))).trans (hHeld.2.1)
             have HS2_ := (hb.cell (World.block_lt_of_cell? _ _ (hHeld.2.2.1))).trans (hHeld.2.2.1)
             have HS3_ := (hb.cell (World.block_lt_of_cell? _ _ (hHeld.2.2.2.1))).trans (hHeld.2.2.2.1)
             have HS4_ := (hb.cell (World.block_lt_of_cell? _ _ (hHeld.2.2.2.2.1))).trans (hHeld.2.2.2.2.1)
             have HS5_ := (hb.cell (World.block_lt_of_cell? _ _ (hHeld.2.2.2.2.2.1))).trans (hHeld.2.2.2.2.2.1)
             have HS6_ := (hb.cell (World.block_lt_of_cell? _ _ (hHeld.2.2.2.2.2.2.1))).trans (hHeld.2.2.2.2.2.2.1)
             have HS7_ := (hb.cell (World.block_lt_of_cell? _ _ (hHeld.2.2.2.2.2.2.2.1))).trans (hHeld.2.2.2.2.2.2.2.1)
             have HS8_ := (hb.cell (World.block_lt_of_cell? _ _ (hHeld.2.2.2.2.2.2.2.2))).trans (hHeld.2.2.2.2.2.2.2.2)
             have n0_ := Aside0.mk (Kd.V_below (Kd.V_elderB (by (with_reducible repeat (first | apply Kd.V_alloc | apply Kd.V_drewN | apply Kd.V_drew)); exact HO_0.out) gb233 (Nat.le_of_eq hg.symm)) hb)
             have n1_ := Aside0.mk (Kd.N_below (Kd.N_elderB (by (with_reducible repeat (first | apply Kd.N_alloc | apply Kd.N_drewN | apply Kd.N_drew)); exact HO_3.out) gb233 (Nat.le_of_eq hg.symm)) hb)
             have n2_ := Aside0.mk (Kd.V_below (Kd.V_elderB (by (with_reducible repeat (first | apply Kd.V_alloc | apply Kd.V_drewN | apply Kd.V_drew)); exact HL230_2.out) gb233 (Nat.le_of_eq hg.symm)) hb)
             have n3_ := Aside0.mk (Kd.V_below (Kd.V_elderB (by (with_reducible repeat (first | apply Kd.V_alloc | apply Kd.V_drewN | apply Kd.V_drew)); exact HL231_2.out) gb233 (Nat.le_of_eq hg.symm)) hb)
             have n4_ := Aside0.mk (Kd.V_below (Kd.V_elderB (by (with_reducible repeat (first | apply Kd.V_alloc | apply Kd.V_drewN | apply Kd.V_drew)); exact HL232_2.out) gb233 (Nat.le_of_eq hg.symm)) hb)
             have n5_ := Aside0.mk (Kd.C_below (by repeat (first | (with_reducible exact HR230_2.out) | (with_reducible refine Kd.C_alloc ?_ _) | (with_reducible refine Kd.C_drewN ?_ _) | (with_reducible refine Kd.C_drew ?_) | exact HR230_2.out)) hb)
             have n6_ := Aside0.mk (Kd.C_below (by repeat (first | (with_reducible exact HR231_2.out) | (with_reducible refine Kd.C_alloc ?_ _) | (with_reducible refine Kd.C_drewN ?_ _) | (with_reducible refine Kd.C_drew ?_) | exact HR231_2.out)) hb)
             have n7_ := Aside0.mk (Kd.C_below (by repeat (first | (with_reducible exact HR232_2.out) | (with_reducible refine Kd.C_alloc ?_ _) | (with_reducible refine Kd.C_drewN ?_ _) | (with_reducible refine Kd.C_drew ?_) | exact HR232_2.out)) hb)
             have n8_ := Aside0.mk (below_step (by repeat (first | (with_reducible first | exact HB.out | apply below_alloc | apply pw_below_drewN | apply below_drew1) | exact HB.out)) hb)
             have n9_ := Aside0.mk (hbox)
             have n10_ := Aside0.mk ((by rw [hg]; exact (below_size (by repeat (first | (with_reducible first | exact HB.out | apply below_alloc | apply pw_below_drewN | apply below_drew1) | exact HB.out))) : w.heap.size ≤ gb233))
             have n11_ := Aside0.mk ((by rw [hg]; exact (below_size (by repeat (first | (with_reducible first | exact HB.out | apply below_alloc | apply pw_below_drewN | apply below_drew1) | exact HB.out))) : w.heap.size ≤ gb233))
             clear HO_0
             clear HO_3
             clear HL230_2
             clear HL231_2
             clear HL232_2
             clear HR230_2
             clear HR231_2
             clear HR232_2
             clear HB
             have HO_0 := n0_
             have HO_3 := n1_
             have HL230_2 := n2_
             have HL231_2 := n3_
             have HL232_2 := n4_
             have HR230_2 := n5_
             have HR231_2 := n6_
             have HR232_2 := n7_
             have HB := n8_
             have BK233 := n9_
             have GW233 := n10_
             have GE233 := n11_
             clear n0_ n1_ n2_ n3_ n4_ n5_ n6_ n7_ n8_ n9_ n10_ n11_
             clear hb hbox hg
             refine hK.out _ _ ⟨HS0_, HS1_, HS2_, HS3_, HS4_, HS5_, HS6_, HS7_, HS8_⟩ (fun hHeld => ?_)
             clear hK K
             refine norm_ (a' := ?_) ?_ ?_
             rotate_left
             ·
              show Act.put _ (some 5) _ = _
              simp only [Act.put, List.setIfInBounds_toArray, List.set_cons_zero, List.set_cons_succ, i64_w, i32_w]
              rfl
             refine one_ (i := 21) (N := none) #[true, true, true, true, true, true, true, true, true, true, true, true, true, true, true, true, true, true, true, true, true, true] rfl rfl (one_of HT_.out (by kernel_rfl)) (by decide) (fun K hK => ?_)
             have hs16 : w15.cell? ⟨gb233, 0, none⟩ = some (.string (⟨#[]⟩ : ByteArray)) := (blk_cell BK233.out 0).trans rfl
             have hfs16 := blk_frozen BK233.out 0
             have hs17 : w15.cell? ⟨gb233, 1, none⟩ = some (.bool false) := (blk_cell BK233.out 1).trans rfl
             have hfs17 := blk_frozen BK233.out 1
             have hs18 : w15.cell? ⟨gb233, 2, none⟩ = some (.slice none 0 0) := (blk_cell BK233.out 2).trans rfl
             have hfs18 := blk_frozen BK233.out 2
             refine skip_ (w1 := ?_) (by rfl) rfl ?_ ?_
             rotate_left
             ·
              go_simp
              rfl
             refine hK.out _ _ ⟨((cell_far (p := ⟨gb233, _, none⟩) (by first | exact Kd.own_blk (Kd.V_away HO_0.out (fun _ hk => hk.2) (by first | omega | (have h_ := of_eq_true q230; have g_ := of_eq_true p230; omega))) | (rw [add_block]; exact Kd.own_blk (Kd.V_away HO_0.out (fun _ hk => hk.2) (by first | omega | (have h_ := of_eq_true q230; have g_ := of_eq_true p230; omega)))) | (show (Addr.add _ _).block ≠ _; rw [add_block]; exact Kd.own_blk (Kd.V_away HO_0.out (fun _ hk => hk.2) (by first | omega | (have h_ := of_eq_true q230; have g_ := of_eq_true p230; omega)))) | (dsimp only; exact Kd.own_blk (Kd.V_away HO_0.out (fun _ hk => hk.2) (by first | omega | (have h_ := of_eq_true q230; have g_ := of_eq_true p230; omega))))) _).trans (((cell_far (p := ⟨gb233, _, none⟩) (by first | exact Kd.own_blk (Kd.V_away HO_0.out (fun _ hk => hk.2) (by first | omega | (have h_ := of_eq_true q230; have g_ := of_eq_true p230; omega))) | (rw [add_block]; exact Kd.own_blk (Kd.V_away HO_0.out (fun _ hk => hk.2) (by first | omega | (have h_ := of_eq_true q230; have g_ := of_eq_true p230; omega)))) | (show (Addr.add _ _).block ≠ _; rw [add_block]; exact Kd.own_blk (Kd.V_away HO_0.out (fun _ hk => hk.2) (by first | omega | (have h_ := of_eq_true q230; have g_ := of_eq_true p230; omega)))) | (dsimp only; exact Kd.own_blk (Kd.V_away HO_0.out (fun _ hk => hk.2) (by first | omega | (have h_ := of_eq_true q230; have g_ := of_eq_true p230; omega))))) _).trans (((cell_far (p := ⟨gb233, _, none⟩) (by first | exact Kd.own_blk (Kd.V_away HO_0.out (fun _ hk => hk.2) (by first | omega | (have h_ := of_eq_true q230; have g_ := of_eq_true p230; omega))) | (rw [add_block]; exact Kd.own_blk (Kd.V_away HO_0.out (fun _ hk => hk.2) (by first | omega | (have h_ := of_eq_true q230; have g_ := of_eq_true p230; omega)))) | (show (Addr.add _ _).block ≠ _; rw [add_block]; exact Kd.own_blk (Kd.V_away HO_0.out (fun _ hk => hk.2) (by first | omega | (have h_ := of_eq_true q230; have g_ := of_eq_true p230; omega)))) | (dsimp only; exact Kd.own_blk (Kd.V_away HO_0.out (fun _ hk => hk.2) (by first | omega | (have h_ := of_eq_true q230; have g_ := of_eq_true p230; omega))))) _).trans (hHeld.1)))))), ((cell_far (p := ⟨gb233, _, none⟩) (by first | exact Kd.own_blk (Kd.V_away HO_0.out (fun _ hk => hk.2) (by first | omega | (have h_ := of_eq_true q230; have g_ := of_eq_true p230; omega))) | (rw [add_block]; exact Kd.own_blk (Kd.V_away HO_0.out (fun _ hk => hk.2) (by first | omega | (have h_ := of_eq_true q230; have g_ := of_eq_true p230; omega)))) | (show (Addr.add _ _).block ≠ _; rw [add_block]; exact Kd.own_blk (Kd.V_away HO_0.out (fun _ hk => hk.2) (by first | omega | (have h_ := of_eq_true q230; have g_ := of_eq_true p230; omega)))) | (dsimp only; exact Kd.own_blk (Kd.V_away HO_0.out (fun _ hk => hk.2) (by first | omega | (have h_ := of_eq_true q230; have g_ := of_eq_true p230; omega))))) _).trans (((cell_far (p := ⟨gb233, _, none⟩) (by first | exact Kd.own_blk (Kd.V_away HO_0.out (fun _ hk => hk.2) (by first | omega | (have h_ := of_eq_true q230; have g_ := of_eq_true p230; omega))) | (rw [add_block]; exact Kd.own_blk (Kd.V_away HO_0.out (fun _ hk => hk.2) (by first | omega | (have h_ := of_eq_true q230; have g_ := of_eq_true p230; omega)))) | (show (Addr.add _ _).block ≠ _; rw [add_block]; exact Kd.own_blk (Kd.V_away HO_0.out (fun _ hk => hk.2) (by first | omega | (have h_ := of_eq_true q230; have g_ := of_eq_true p230; omega)))) | (dsimp only; exact Kd.own_blk (Kd.V_away HO_0.out (fun _ hk => hk.2) (by first | omega | (have h_ := of_eq_true q230; have g_ := of_eq_true p230; omega))))) _).trans (((cell_far (p := ⟨gb233, _, none⟩) (by first | exact Kd.own_blk (Kd.V_away HO_0.out (fun _ hk => hk.2) (by first | omega | (have h_ := of_eq_true q230; have g_ := of_eq_true p230; omega))) | (rw [add_block]; exact Kd.own_blk (Kd.V_away HO_0.out (fun _ hk => hk.2) (by first | omega | (have h_ := of_eq_true q230; have g_ := of_eq_true p230; omega)))) | (show (Addr.add _ _).block ≠ _; rw [add_block]; exact Kd.own_blk (Kd.V_away HO_0.out (fun _ hk => hk.2) (by first | omega | (have h_ := of_eq_true q230; have g_ := of_eq_true p230; omega)))) | (dsimp only; exact Kd.own_blk (Kd.V_away HO_0.out (fun _ hk => hk.2) (by first | omega | (have h_ := of_eq_true q230; have g_ := of_eq_true p230; omega))))) _).trans (hHeld.2.1)))))), ((cell_far (p := ⟨gb233, _, none⟩) (by first | exact Kd.own_blk (Kd.V_away HO_0.out (fun _ hk => hk.2) (by first | omega | (have h_ := of_eq_true q230; have g_ := of_eq_true p230; omega))) | (rw [add_block]; exact Kd.own_blk (Kd.V_away HO_0.out (fun _ hk => hk.2) (by first | omega | (have h_ := of_eq_true q230; have g_ := of_eq_true p230; omega)))) | (show (Addr.add _ _).block ≠ _; rw [add_block]; exact Kd.own_blk (Kd.V_away HO_0.out (fun _ hk => hk.2) (by first | omega | (have h_ := of_eq_true q230; have g_ := of_eq_true p230; omega)))) | (dsimp only; exact Kd.own_blk (Kd.V_away HO_0.out (fun _ hk => hk.2) (by first | omega | (have h_ := of_eq_true q230; have g_ := of_eq_true p230; omega))))) _).trans (((cell_far (p := ⟨gb233, _, none⟩) (by first | exact Kd.own_blk (Kd.V_away HO_0.out (fun _ hk => hk.2) (by first | omega | (have h_ := of_eq_true q230; have g_ := of_eq_true p230; omega))) | (rw [add_block]; exact Kd.own_blk (Kd.V_away HO_0.out (fun _ hk => hk.2) (by first | omega | (have h_ := of_eq_true q230; have g_ := of_eq_true p230; omega)))) | (show (Addr.add _ _).block ≠ _; rw [add_block]; exact Kd.own_blk (Kd.V_away HO_0.out (fun _ hk => hk.2) (by first | omega | (have h_ := of_eq_true q230; have g_ := of_eq_true p230; omega)))) | (dsimp only; exact Kd.own_blk (Kd.V_away HO_0.out (fun _ hk => hk.2) (by first | omega | (have h_ := of_eq_true q230; have g_ := of_eq_true p230; omega))))) _).trans (((cell_far (p := ⟨gb233, _, none⟩) (by first | exact Kd.own_blk (Kd.V_away HO_0.out (fun _ hk => hk.2) (by first | omega | (have h_ := of_eq_true q230; have g_ := of_eq_true p230; omega))) | (rw [add_block]; exact Kd.own_blk (Kd.V_away HO_0.out (fun _ hk => hk.2) (by first | omega | (have h_ := of_eq_true q230; have g_ := of_eq_true p230; omega)))) | (show (Addr.add _ _).block ≠ _; rw [add_block]; exact Kd.own_blk (Kd.V_away HO_0.out (fun _ hk => hk.2) (by first | omega | (have h_ := of_eq_true q230; have g_ := of_eq_true p230; omega)))) | (dsimp only; exact Kd.own_blk (Kd.V_away HO_0.out (fun _ hk => hk.2) (by first | omega | (have h_ := of_eq_true q230; have g_ := of_eq_true p230; omega))))) _).trans (hHeld.2.2.1)))))), ((cell_far (p := ⟨gb233, _, none⟩) (by first | exact Kd.own_blk (Kd.V_away HO_0.out (fun _ hk => hk.2) (by first | omega | (have h_ := of_eq_true q231; have g_ := of_eq_true p231; omega))) | (rw [add_block]; exact Kd.own_blk (Kd.V_away HO_0.out (fun _ hk => hk.2) (by first | omega | (have h_ := of_eq_true q231; have g_ := of_eq_true p231; omega)))) | (show (Addr.add _ _).block ≠ _; rw [add_block]; exact Kd.own_blk (Kd.V_away HO_0.out (fun _ hk => hk.2) (by first | omega | (have h_ := of_eq_true q231; have g_ := of_eq_true p231; omega)))) | (dsimp only; exact Kd.own_blk (Kd.V_away HO_0.out (fun _ hk => hk.2) (by first | omega | (have h_ := of_eq_true q231; have g_ := of_eq_true p231; omega))))) _).trans (((cell_far (p := ⟨gb233, _, none⟩) (by first | exact Kd.own_blk (Kd.V_away HO_0.out (fun _ hk => hk.2) (by first | omega | (have h_ := of_eq_true q231; have g_ := of_eq_true p231; omega))) | (rw [add_block]; exact Kd.own_blk (Kd.V_away HO_0.out (fun _ hk => hk.2) (by first | omega | (have h_ := of_eq_true q231; have g_ := of_eq_true p231; omega)))) | (show (Addr.add _ _).block ≠ _; rw [add_block]; exact Kd.own_blk (Kd.V_away HO_0.out (fun _ hk => hk.2) (by first | omega | (have h_ := of_eq_true q231; have g_ := of_eq_true p231; omega)))) | (dsimp only; exact Kd.own_blk (Kd.V_away HO_0.out (fun _ hk => hk.2) (by first | omega | (have h_ := of_eq_true q231; have g_ := of_eq_true p231; omega))))) _).trans (((cell_far (p := ⟨gb233, _, none⟩) (by first | exact Kd.own_blk (Kd.V_away HO_0.out (fun _ hk => hk.2) (by first | omega | (have h_ := of_eq_true q231; have g_ := of_eq_true p231; omega))) | (rw [add_block]; exact Kd.own_blk (Kd.V_away HO_0.out (fun _ hk => hk.2) (by first | omega | (have h_ := of_eq_true q231; have g_ := of_eq_true p231; omega)))) | (show (Addr.add _ _).block ≠ _; rw [add_block]; exact Kd.own_blk (Kd.V_away HO_0.out (fun _ hk => hk.2) (by first | omega | (have h_ := of_eq_true q231; have g_ := of_eq_true p231; omega)))) | (dsimp only; exact Kd.own_blk (Kd.V_away HO_0.out (fun _ hk => hk.2) (by first | omega | (have h_ := of_eq_true q231; have g_ := of_eq_true p231; omega))))) _).trans (hHeld.2.2.2.1)))))), ((cell_far (p := ⟨gb233, _, none⟩) (by first | exact Kd.own_blk (Kd.V_away HO_0.out (fun _ hk => hk.2) (by first | omega | (have h_ := of_eq_true q231; have g_ := of_eq_true p231; omega))) | (rw [add_block]; exact Kd.own_blk (Kd.V_away HO_0.out (fun _ hk => hk.2) (by first | omega | (have h_ := of_eq_true q231; have g_ := of_eq_true p231; omega)))) | (show (Addr.add _ _).block ≠ _; rw [add_block]; exact Kd.own_blk (Kd.V_away HO_0.out (fun _ hk => hk.2) (by first | omega | (have h_ := of_eq_true q231; have g_ := of_eq_true p231; omega)))) | (dsimp only; exact Kd.own_blk (Kd.V_away HO_0.out (fun _ hk => hk.2) (by first | omega | (have h_ := of_eq_true q231; have g_ := of_eq_true p231; omega))))) _).trans (((cell_far (p := ⟨gb233, _, none⟩) (by first | exact Kd.own_blk (Kd.V_away HO_0.out (fun _ hk => hk.2) (by first | omega | (have h_ := of_eq_true q231; have g_ := of_eq_true p231; omega))) | (rw [add_block]; exact Kd.own_blk (Kd.V_away HO_0.out (fun _ hk => hk.2) (by first | omega | (have h_ := of_eq_true q231; have g_ := of_eq_true p231; omega)))) | (show (Addr.add _ _).block ≠ _; rw [add_block]; exact Kd.own_blk (Kd.V_away HO_0.out (fun _ hk => hk.2) (by first | omega | (have h_ := of_eq_true q231; have g_ := of_eq_true p231; omega)))) | (dsimp only; exact Kd.own_blk (Kd.V_away HO_0.out (fun _ hk => hk.2) (by first | omega | (have h_ := of_eq_true q231; have g_ := of_eq_true p231; omega))))) _).trans (((cell_far (p := ⟨gb233, _, none⟩) (by first | exact Kd.own_blk (Kd.V_away HO_0.out (fun _ hk => hk.2) (by first | omega | (have h_ := of_eq_true q231; have g_ := of_eq_true p231; omega))) | (rw [add_block]; exact Kd.own_blk (Kd.V_away HO_0.out (fun _ hk => hk.2) (by first | omega | (have h_ := of_eq_true q231; have g_ := of_eq_true p231; omega)))) | (show (Addr.add _ _).block ≠ _; rw [add_block]; exact Kd.own_blk (Kd.V_away HO_0.out (fun _ hk => hk.2) (by first | omega | (have h_ := of_eq_true q231; have g_ := of_eq_true p231; omega)))) | (dsimp only; exact Kd.own_blk (Kd.V_away HO_0.out (fun _ hk => hk.2) (by first | omega | (have h_ := of_eq_true q231; have g_ := of_eq_true p231; omega))))) _).trans (hHeld.2.2.2.2.1)))))), ((cell_far (p := ⟨gb233, _, none⟩) (by first | exact Kd.own_blk (Kd.V_away HO_0.out (fun _ hk => hk.2) (by first | omega | (have h_ := of_eq_true q231; have g_ := of_eq_true p231; omega))) | (rw [add_block]; exact Kd.own_blk (Kd.V_away HO_0.out (fun _ hk => hk.2) (by first | omega | (have h_ := of_eq_true q231; have g_ := of_eq_true p231; omega)))) | (show (Addr.add _ _).block ≠ _; rw [add_block]; exact Kd.own_blk (Kd.V_away HO_0.out (fun _ hk => hk.2) (by first | omega | (have h_ := of_eq_true q231; have g_ := of_eq_true p231; omega)))) | (dsimp only; exact Kd.own_blk (Kd.V_away HO_0.out (fun _ hk => hk.2) (by first | omega | (have h_ := of_eq_true q231; have g_ := of_eq_true p231; omega))))) _).trans (((cell_far (p := ⟨gb233, _, none⟩) (by first | exact Kd.own_blk (Kd.V_away HO_0.out (fun _ hk => hk.2) (by first | omega | (have h_ := of_eq_true q231; have g_ := of_eq_true p231; omega))) | (rw [add_block]; exact Kd.own_blk (Kd.V_away HO_0.out (fun _ hk => hk.2) (by first | omega | (have h_ := of_eq_true q231; have g_ := of_eq_true p231; omega)))) | (show (Addr.add _ _).block ≠ _; rw [add_block]; exact Kd.own_blk (Kd.V_away HO_0.out (fun _ hk => hk.2) (by first | omega | (have h_ := of_eq_true q231; have g_ := of_eq_true p231; omega)))) | (dsimp only; exact Kd.own_blk (Kd.V_away HO_0.out (fun _ hk => hk.2) (by first | omega | (have h_ := of_eq_true q231; have g_ := of_eq_true p231; omega))))) _).trans (((cell_far (p := ⟨gb233, _, none⟩) (by first | exact Kd.own_blk (Kd.V_away HO_0.out (fun _ hk => hk.2) (by first | omega | (have h_ := of_eq_true q231; have g_ := of_eq_true p231; omega))) | (rw [add_block]; exact Kd.own_blk (Kd.V_away HO_0.out (fun _ hk => hk.2) (by first | omega | (have h_ := of_eq_true q231; have g_ := of_eq_true p231; omega)))) | (show (Addr.add _ _).block ≠ _; rw [add_block]; exact Kd.own_blk (Kd.V_away HO_0.out (fun _ hk => hk.2) (by first | omega | (have h_ := of_eq_true q231; have g_ := of_eq_true p231; omega)))) | (dsimp only; exact Kd.own_blk (Kd.V_away HO_0.out (fun _ hk => hk.2) (by first | omega | (have h_ := of_eq_true q231; have g_ := of_eq_true p231; omega))))) _).trans (hHeld.2.2.2.2.2.1)))))), ((cell_far (p := ⟨gb233, _, none⟩) (by first | exact Kd.own_blk (Kd.V_away HO_0.out (fun _ hk => hk.2) (by first | omega | (have h_ := of_eq_true q232; have g_ := of_eq_true p232; omega))) | (rw [add_block]; exact Kd.own_blk (Kd.V_away HO_0.out (fun _ hk => hk.2) (by first | omega | (have h_ := of_eq_true q232; have g_ := of_eq_true p232; omega)))) | (show (Addr.add _ _).block ≠ _; rw [add_block]; exact Kd.own_blk (Kd.V_away HO_0.out (fun _ hk => hk.2) (by first | omega | (have h_ := of_eq_true q232; have g_ := of_eq_true p232; omega)))) | (dsimp only; exact Kd.own_blk (Kd.V_away HO_0.out (fun _ hk => hk.2) (by first | omega | (have h_ := of_eq_true q232; have g_ := of_eq_true p232; omega))))) _).trans (((cell_far (p := ⟨gb233, _, none⟩) (by first | exact Kd.own_blk (Kd.V_away HO_0.out (fun _ hk => hk.2) (by first | omega | (have h_ := of_eq_true q232; have g_ := of_eq_true p232; omega))) | (rw [add_block]; exact Kd.own_blk (Kd.V_away HO_0.out (fun _ hk => hk.2) (by first | omega | (have h_ := of_eq_true q232; have g_ := of_eq_true p232; omega)))) | (show (Addr.add _ _).block ≠ _; rw [add_block]; exact Kd.own_blk (Kd.V_away HO_0.out (fun _ hk => hk.2) (by first | omega | (have h_ := of_eq_true q232; have g_ := of_eq_true p232; omega)))) | (dsimp only; exact Kd.own_blk (Kd.V_away HO_0.out (fun _ hk => hk.2) (by first | omega | (have h_ := of_eq_true q232; have g_ := of_eq_true p232; omega))))) _).trans (((cell_far (p := ⟨gb233, _, none⟩) (by first | exact Kd.own_blk (Kd.V_away HO_0.out (fun _ hk => hk.2) (by first | omega | (have h_ := of_eq_true q232; have g_ := of_eq_true p232; omega))) | (rw [add_block]; exact Kd.own_blk (Kd.V_away HO_0.out (fun _ hk => hk.2) (by first | omega | (have h_ := of_eq_true q232; have g_ := of_eq_true p232; omega)))) | (show (Addr.add _ _).block ≠ _; rw [add_block]; exact Kd.own_blk (Kd.V_away HO_0.out (fun _ hk => hk.2) (by first | omega | (have h_ := of_eq_true q232; have g_ := of_eq_true p232; omega)))) | (dsimp only; exact Kd.own_blk (Kd.V_away HO_0.out (fun _ hk => hk.2) (by first | omega | (have h_ := of_eq_true q232; have g_ := of_eq_true p232; omega))))) _).trans (hHeld.2.2.2.2.2.2.1)))))), ((cell_far (p := ⟨gb233, _, none⟩) (by first | exact Kd.own_blk (Kd.V_away HO_0.out (fun _ hk => hk.2) (by first | omega | (have h_ := of_eq_true q232; have g_ := of_eq_true p232; omega))) | (rw [add_block]; exact Kd.own_blk (Kd.V_away HO_0.out (fun _ hk => hk.2) (by first | omega | (have h_ := of_eq_true q232; have g_ := of_eq_true p232; omega)))) | (show (Addr.add _ _).block ≠ _; rw [add_block]; exact Kd.own_blk (Kd.V_away HO_0.out (fun _ hk => hk.2) (by first | omega | (have h_ := of_eq_true q232; have g_ := of_eq_true p232; omega)))) | (dsimp only; exact Kd.own_blk (Kd.V_away HO_0.out (fun _ hk => hk.2) (by first | omega | (have h_ := of_eq_true q232; have g_ := of_eq_true p232; omega))))) _).trans (((cell_far (p := ⟨gb233, _, none⟩) (by first | exact Kd.own_blk (Kd.V_away HO_0.out (fun _ hk => hk.2) (by first | omega | (have h_ := of_eq_true q232; have g_ := of_eq_true p232; omega))) | (rw [add_block]; exact Kd.own_blk (Kd.V_away HO_0.out (fun _ hk => hk.2) (by first | omega | (have h_ := of_eq_true q232; have g_ := of_eq_true p232; omega)))) | (show (Addr.add _ _).block ≠ _; rw [add_block]; exact Kd.own_blk (Kd.V_away HO_0.out (fun _ hk => hk.2) (by first | omega | (have h_ := of_eq_true q232; have g_ := of_eq_true p232; omega)))) | (dsimp only; exact Kd.own_blk (Kd.V_away HO_0.out (fun _ hk => hk.2) (by first | omega | (have h_ := of_eq_true q232; have g_ := of_eq_true p232; omega))))) _).trans (((cell_far (p := ⟨gb233, _, none⟩) (by first | exact Kd.own_blk (Kd.V_away HO_0.out (fun _ hk => hk.2) (by first | omega | (have h_ := of_eq_true q232; have g_ := of_eq_true p232; omega))) | (rw [add_block]; exact Kd.own_blk (Kd.V_away HO_0.out (fun _ hk => hk.2) (by first | omega | (have h_ := of_eq_true q232; have g_ := of_eq_true p232; omega)))) | (show (Addr.add _ _).block ≠ _; rw [add_block]; exact Kd.own_blk (Kd.V_away HO_0.out (fun _ hk => hk.2) (by first | omega | (have h_ := of_eq_true q232; have g_ := of_eq_true p232; omega)))) | (dsimp only; exact Kd.own_blk (Kd.V_away HO_0.out (fun _ hk => hk.2) (by first | omega | (have h_ := of_eq_true q232; have g_ := of_eq_true p232; omega))))) _).trans (hHeld.2.2.2.2.2.2.2.1)))))), ((cell_far (p := ⟨gb233, _, none⟩) (by first | exact Kd.own_blk (Kd.V_away HO_0.out (fun _ hk => hk.2) (by first | omega | (have h_ := of_eq_true q232; have g_ := of_eq_true p232; omega))) | (rw [add_block]; exact Kd.own_blk (Kd.V_away HO_0.out (fun _ hk => hk.2) (by first | omega | (have h_ := of_eq_true q232; have g_ := of_eq_true p232; omega)))) | (show (Addr.add _ _).block ≠ _; rw [add_block]; exact Kd.own_blk (Kd.V_away HO_0.out (fun _ hk => hk.2) (by first | omega | (have h_ := of_eq_true q232; have g_ := of_eq_true p232; omega)))) | (dsimp only; exact Kd.own_blk (Kd.V_away HO_0.out (fun _ hk => hk.2) (by first | omega | (have h_ := of_eq_true q232; have g_ := of_eq_true p232; omega))))) _).trans (((cell_far (p := ⟨gb233, _, none⟩) (by first | exact Kd.own_blk (Kd.V_away HO_0.out (fun _ hk => hk.2) (by first | omega | (have h_ := of_eq_true q232; have g_ := of_eq_true p232; omega))) | (rw [add_block]; exact Kd.own_blk (Kd.V_away HO_0.out (fun _ hk => hk.2) (by first | omega | (have h_ := of_eq_true q232; have g_ := of_eq_true p232; omega)))) | (show (Addr.add _ _).block ≠ _; rw [add_block]; exact Kd.own_blk (Kd.V_away HO_0.out (fun _ hk => hk.2) (by first | omega | (have h_ := of_eq_true q232; have g_ := of_eq_true p232; omega)))) | (dsimp only; exact Kd.own_blk (Kd.V_away HO_0.out (fun _ hk => hk.2) (by first | omega | (have h_ := of_eq_true q232; have g_ := of_eq_true p232; omega))))) _).trans (((cell_far (p := ⟨gb233, _, none⟩) (by first | exact Kd.own_blk (Kd.V_away HO_0.out (fun _ hk => hk.2) (by first | omega | (have h_ := of_eq_true q232; have g_ := of_eq_true p232; omega))) | (rw [add_block]; exact Kd.own_blk (Kd.V_away HO_0.out (fun _ hk => hk.2) (by first | omega | (have h_ := of_eq_true q232; have g_ := of_eq_true p232; omega)))) | (show (Addr.add _ _).block ≠ _; rw [add_block]; exact Kd.own_blk (Kd.V_away HO_0.out (fun _ hk => hk.2) (by first | omega | (have h_ := of_eq_true q232; have g_ := of_eq_true p232; omega)))) | (dsimp only; exact Kd.own_blk (Kd.V_away HO_0.out (fun _ hk => hk.2) (by first | omega | (have h_ := of_eq_true q232; have g_ := of_eq_true p232; omega))))) _).trans (hHeld.2.2.2.2.2.2.2.2))))))⟩ (fun hHeld => ?_)
             clear hK K
             refine done_ (done_of HT_.out (by kernel_rfl)) ?_
             have hcz19_0 : w15.cell? ⟨gb233, 0, none⟩ = some (.string (⟨#[]⟩ : ByteArray)) := (blk_cell BK233.out 0).trans rfl
             have hcz19_1 : w15.cell? ⟨gb233, 1, none⟩ = some (.bool false) := (blk_cell BK233.out 1).trans rfl
             have hcz19_2 : w15.cell? ⟨gb233, 2, none⟩ = some (.slice none 0 0) := (blk_cell BK233.out 2).trans rfl
             have hfz19_0 := blk_frozen BK233.out 0
             have hfz19_1 := blk_frozen BK233.out 1
             have hfz19_2 := blk_frozen BK233.out 2
             try go_wp2_with (first | ((with_reducible refine gate_builtin (b := .append) (xs := #[.tmp 53, .tmp 55]) rfl ?_); at_builtin; refine Kd.N_append k38 (w0 := w) w.heap.size rfl (.tmp 53) (.tmp 55) 39 38 (.agg #[(.string ⟨#[]⟩), (.bool false), (.slice none 0 0)]) 48 rfl Try.underlying39 info38 rfl (by decide) (by omega) u3 x3_1 (⟨(⟨#[107]⟩ : ByteArray) ++ (((rd_T38 l0 x4_1).f0).extract 0 ((ji7) : Int).toNat), true, ([] : List Int)⟩ : S38) [.string ((⟨#[107]⟩ : ByteArray) ++ (((rd_T38 l0 x4_1).f0).extract 0 ((ji7) : Int).toNat)), .bool true, .slice none 0 0] (fun k_ => (P0_ k_ ∨ w.heap.size ≤ k_) ∧ k_ ≠ gb233) (fun k_ => ((fun k_ => (P0_ k_ ∨ w.heap.size ≤ k_) ∧ k_ ≠ gb233)) k_ ∧ some k_ ≠ (u3 : Value).ownBlock) rfl (by first | (go_simp; done) | (go_simp; rfl)) ?aP (fun _ hk => hk) ?aF ?aO ?aB ?aS ?aL ?_; (case aP => exact (k38_mkF _ _ (⟨(⟨#[107]⟩ : ByteArray) ++ (((rd_T38 l0 x4_1).f0).extract 0 ((ji7) : Int).toNat), true, ([] : List Int)⟩ : S38) (Nat.le_refl _) (Kd.F_nil _ _ _))); (case aB => exact (by repeat (first | (with_reducible first | exact HB.out | apply below_alloc | apply pw_below_drewN | apply below_drew1 | refine below_set ?_ GE233.out) | exact HB.out))); (case aF => exact (fun k_ hk => ⟨(.inr (Nat.le_trans (below_size (by repeat (first | (with_reducible first | exact HB.out | apply below_alloc | apply pw_below_drewN | apply below_drew1 | refine below_set ?_ GE233.out) | exact HB.out))) hk)), Kd.freshB (g := gb233) (o := .cells #[.string ((⟨#[107]⟩ : ByteArray) ++ (((rd_T38 l0 x4_1).f0).extract 0 ((ji7) : Int).toNat)), .bool true, .slice none 0 0] 38 (0, 0)) (by (with_reducible repeat (first | refine blk_drewN ?_ _ | refine blk_drew ?_ | refine blk_alloc ?_ _)); refine blk_put (cs := #[.string ((⟨#[107]⟩ : ByteArray) ++ (((rd_T38 l0 x4_1).f0).extract 0 ((ji7) : Int).toNat)), .bool true, .slice none 0 0]) ?_ 2 _ rfl; (with_reducible repeat (first | refine blk_drewN ?_ _ | refine blk_drew ?_ | refine blk_alloc ?_ _)); refine blk_put (cs := #[.string ((⟨#[107]⟩ : ByteArray) ++ (((rd_T38 l0 x4_1).f0).extract 0 ((ji7) : Int).toNat)), .bool false, .slice none 0 0]) ?_ 1 _ rfl; (with_reducible repeat (first | refine blk_drewN ?_ _ | refine blk_drew ?_ | refine blk_alloc ?_ _)); refine blk_put (cs := #[.string (⟨#[]⟩ : ByteArray), .bool false, .slice none 0 0]) ?_ 0 _ rfl; (with_reducible repeat (first | refine blk_drewN ?_ _ | refine blk_drew ?_ | refine blk_alloc ?_ _)); exact BK233.out) k_ hk⟩)); (case aO => exact (by (with_reducible repeat (first | apply Kd.N_alloc | apply Kd.N_drewN | apply Kd.N_drew)); exact Kd.N_mono (Kd.N_far (p := ⟨gb233, 2, none⟩) (Kd.N_far (p := ⟨gb233, 1, none⟩) (Kd.N_far (p := ⟨gb233, 0, none⟩) (Kd.N_mono HO_3.out (fun k_ hk => (⟨hk, hk.2⟩ : _ ∧ k_ ≠ gb233))) (fun _ hk => hk.2) (.string ((⟨#[107]⟩ : ByteArray) ++ (((rd_T38 l0 x4_1).f0).extract 0 ((ji7) : Int).toNat)))) (fun _ hk => hk.2) (.bool true)) (fun _ hk => hk.2) (.slice none 0 0)) (fun _ hk => ⟨hk.1.1, hk.1.2⟩))); (case aS => exact (below_size (by repeat (first | (with_reducible first | exact HB.out | apply below_alloc | apply pw_below_drewN | apply below_drew1 | refine below_set ?_ GE233.out) | exact HB.out)))); (case aL => have := LMc13.out; omega); intro v235 w20 ho hb hg hat; rw [← Ny234.out] at ho; have n0_ := Aside0.mk (Kd.V_afterv (ok := (fun k_ => (P0_ k_ ∨ w.heap.size ≤ k_) ∧ k_ ≠ gb233)) (by (with_reducible repeat (first | apply Kd.V_alloc | apply Kd.V_drewN | apply Kd.V_drew)); exact Kd.V_mono (Kd.V_far (p := ⟨gb233, 2, none⟩) (Kd.V_far (p := ⟨gb233, 1, none⟩) (Kd.V_far (p := ⟨gb233, 0, none⟩) (Kd.V_mono HO_0.out (fun k_ hk => (⟨hk, hk.2⟩ : _ ∧ k_ ≠ gb233))) (fun _ hk => hk.2) (.string ((⟨#[107]⟩ : ByteArray) ++ (((rd_T38 l0 x4_1).f0).extract 0 ((ji7) : Int).toNat)))) (fun _ hk => hk.2) (.bool true)) (fun _ hk => hk.2) (.slice none 0 0)) (fun _ hk => ⟨⟨hk.1.1.1, hk.1.2⟩, hk.1.1.2⟩)) hg hat); have n1_ := Aside0.mk (Kd.V_afterv (ok := (fun k_ => (P0_ k_ ∨ w.heap.size ≤ k_) ∧ k_ ≠ gb233)) (by (with_reducible repeat (first | apply Kd.V_alloc | apply Kd.V_drewN | apply Kd.V_drew)); exact Kd.V_mono (Kd.V_far (p := ⟨gb233, 2, none⟩) (Kd.V_far (p := ⟨gb233, 1, none⟩) (Kd.V_far (p := ⟨gb233, 0, none⟩) (Kd.V_mono HL230_2.out (fun k_ hk => (⟨hk, hk.2⟩ : _ ∧ k_ ≠ gb233))) (fun _ hk => hk.2) (.string ((⟨#[107]⟩ : ByteArray) ++ (((rd_T38 l0 x4_1).f0).extract 0 ((ji7) : Int).toNat)))) (fun _ hk => hk.2) (.bool true)) (fun _ hk => hk.2) (.slice none 0 0)) (fun _ hk => ⟨⟨hk.1.1.1, hk.1.2⟩, hk.1.1.2⟩)) hg hat); have n2_ := Aside0.mk (Kd.V_afterv (ok := (fun k_ => (P0_ k_ ∨ w.heap.size ≤ k_) ∧ k_ ≠ gb233)) (by (with_reducible repeat (first | apply Kd.V_alloc | apply Kd.V_drewN | apply Kd.V_drew)); exact Kd.V_mono (Kd.V_far (p := ⟨gb233, 2, none⟩) (Kd.V_far (p := ⟨gb233, 1, none⟩) (Kd.V_far (p := ⟨gb233, 0, none⟩) (Kd.V_mono HL231_2.out (fun k_ hk => (⟨hk, hk.2⟩ : _ ∧ k_ ≠ gb233))) (fun _ hk => hk.2) (.string ((⟨#[107]⟩ : ByteArray) ++ (((rd_T38 l0 x4_1).f0).extract 0 ((ji7) : Int).toNat)))) (fun _ hk => hk.2) (.bool true)) (fun _ hk => hk.2) (.slice none 0 0)) (fun _ hk => ⟨⟨hk.1.1.1, hk.1.2⟩, hk.1.1.2⟩)) hg hat); have n3_ := Aside0.mk (Kd.V_afterv (ok := (fun k_ => (P0_ k_ ∨ w.heap.size ≤ k_) ∧ k_ ≠ gb233)) (by (with_reducible repeat (first | apply Kd.V_alloc | apply Kd.V_drewN | apply Kd.V_drew)); exact Kd.V_mono (Kd.V_far (p := ⟨gb233, 2, none⟩) (Kd.V_far (p := ⟨gb233, 1, none⟩) (Kd.V_far (p := ⟨gb233, 0, none⟩) (Kd.V_mono HL232_2.out (fun k_ hk => (⟨hk, hk.2⟩ : _ ∧ k_ ≠ gb233))) (fun _ hk => hk.2) (.string ((⟨#[107]⟩ : ByteArray) ++ (((rd_T38 l0 x4_1).f0).extract 0 ((ji7) : Int).toNat)))) (fun _ hk => hk.2) (.bool true)) (fun _ hk => hk.2) (.slice none 0 0)) (fun _ hk => ⟨⟨hk.1.1.1, hk.1.2⟩, hk.1.1.2⟩)) hg hat); have n4_ := Aside0.mk (blk_grown (g := gb233) (o := .cells #[.string ((⟨#[107]⟩ : ByteArray) ++ (((rd_T38 l0 x4_1).f0).extract 0 ((ji7) : Int).toNat)), .bool true, .slice none 0 0] 38 (0, 0)) (by (with_reducible repeat (first | refine blk_drewN ?_ _ | refine blk_drew ?_ | refine blk_alloc ?_ _)); refine blk_put (cs := #[.string ((⟨#[107]⟩ : ByteArray) ++ (((rd_T38 l0 x4_1).f0).extract 0 ((ji7) : Int).toNat)), .bool true, .slice none 0 0]) ?_ 2 _ rfl; (with_reducible repeat (first | refine blk_drewN ?_ _ | refine blk_drew ?_ | refine blk_alloc ?_ _)); refine blk_put (cs := #[.string ((⟨#[107]⟩ : ByteArray) ++ (((rd_T38 l0 x4_1).f0).extract 0 ((ji7) : Int).toNat)), .bool false, .slice none 0 0]) ?_ 1 _ rfl; (with_reducible repeat (first | refine blk_drewN ?_ _ | refine blk_drew ?_ | refine blk_alloc ?_ _)); refine blk_put (cs := #[.string (⟨#[]⟩ : ByteArray), .bool false, .slice none 0 0]) ?_ 0 _ rfl; (with_reducible repeat (first | refine blk_drewN ?_ _ | refine blk_drew ?_ | refine blk_alloc ?_ _)); exact BK233.out) hg (Kd.N_away HO_3.out (fun _ hk => hk.2))); have n5_ := Aside0.mk (hb); have n6_ := Aside0.mk (ho); clear HO_0; clear HL230_2; clear HL231_2; clear HL232_2; clear BK233; clear HB; clear HO_3; have HO_0 := n0_; have HL230_2 := n1_; have HL231_2 := n2_; have HL232_2 := n3_; have BK233 := n4_; have HB := n5_; have HO236 := n6_; clear n0_ n1_ n2_ n3_ n4_ n5_ n6_; clear ho hb hg hat))
             go_roundg kj1
             case measure => have := HK1.out; have := HJ1.out; omega
             case rel => exact ⟨(y234), (wrap64 (x4_1 + 1)), (by first | rfl | (simp; done) | (simp [*]; done)), (by first | exact H' | (simp only [← Nbq11.out]; exact H') | (simp only [Nbq11.out]; exact H')), ⟨by have := HK1.out; have := HJ1.out; omega⟩, ⟨by (with_reducible repeat (first | apply Kd.V_alloc | apply Kd.V_drewN | apply Kd.V_drew)); exact Kd.V_mono HO_0.out (fun _ hk => ⟨hk.1.1, hk.2⟩)⟩, ⟨by (with_reducible repeat (first | apply Kd.N_alloc | apply Kd.N_drewN | apply Kd.N_drew)); exact Kd.N_mono HO236.out (fun _ hk => hk.1)⟩, ⟨by repeat (first | (with_reducible first | exact HB.out | apply below_alloc | apply pw_below_drewN | apply below_drew1 | refine below_set ?_ GE233.out) | exact HB.out)⟩⟩
            ·
             rw [if_neg c13] at H
             exact absurd H (by simp)
           ·
            replace c12 := Bool.eq_false_iff.mpr c12
            subst c12
            have H1 : (if 0 ≤ (mn (((rd_T38 l0 x4_1).f2).length : Int) 300) then (if (mn (((rd_T38 l0 x4_1).f2).length : Int) 300) ≤ (((rd_T38 l0 x4_1).f2).length : Int) then (if x3_1.length < 2932031007402 then (waybilllaw13_Tame.l0 kj1 l0 (x3_1 ++ [(⟨(⟨#[107]⟩ : ByteArray) ++ (((rd_T38 l0 x4_1).f0).extract 0 ((ji7) : Int).toNat), false, (((rd_T38 l0 x4_1).f2).take ((mn (((rd_T38 l0 x4_1).f2).length : Int) 300) : Int).toNat)⟩ : S38)]) (wrap64 (x4_1 + 1))) else (none)) else (none)) else (none)) = some r := by rw [if_neg (show ¬ (false = true) by decide)] at H; exact H
            clear H
            have H := H1
            clear H1
            obtain ⟨ji21, hji21⟩ : ∃ j_ : Int, (mn (((rd_T38 l0 x4_1).f2).length : Int) 300) = j_ := ⟨_, rfl⟩
            replace H : (if 0 ≤ (ji21) then (if (ji21) ≤ (((rd_T38 l0 x4_1).f2).length : Int) then (if x3_1.length < 2932031007402 then (waybilllaw13_Tame.l0 kj1 l0 (x3_1 ++ [(⟨(⟨#[107]⟩ : ByteArray) ++ (((rd_T38 l0 x4_1).f0).extract 0 ((ji7) : Int).toNat), false, (((rd_T38 l0 x4_1).f2).take ((ji21) : Int).toNat)⟩ : S38)]) (wrap64 (x4_1 + 1))) else (none)) else (none)) else (none)) = some r := by first | (rw [hji21] at H; exact H) | (simp only [hji21] at H ⊢; exact H)
            have hji21_ : (if 300 < (((rd_T38 l0 x4_1).f2).length : Int) then 300 else (((rd_T38 l0 x4_1).f2).length : Int)) = ji21 := hji21
            (try (have hji21u : ji21 ≤ 300 := by (rw [← hji21]; unfold mn; (repeat' split) <;> omega)))
            (try (have hji21v : ¬ (9223372036854775807 < 1 + ji21.toNat) := by omega))
            by_cases c22 : 0 ≤ (ji21)
            ·
             rw [if_pos c22] at H
             have c22b0 := eq_true c22
             have c22b1 : decide (0 ≤ (ji21)) = true := decide_eq_true c22
             clear c22
             by_cases c23 : (ji21) ≤ (((rd_T38 l0 x4_1).f2).length : Int)
             ·
              rw [if_pos c23] at H
              have c23b0 := eq_true c23
              have c23b1 : decide ((ji21) ≤ (((rd_T38 l0 x4_1).f2).length : Int)) = true := decide_eq_true c23
              clear c23
              obtain ⟨y239, hy239⟩ : ∃ y_ : List Int, y_ = (((rd_T38 l0 x4_1).f2).take ((ji21) : Int).toNat) := ⟨_, rfl⟩
              replace H : (if x3_1.length < 2932031007402 then (waybilllaw13_Tame.l0 kj1 l0 (x3_1 ++ [(⟨(⟨#[107]⟩ : ByteArray) ++ (((rd_T38 l0 x4_1).f0).extract 0 ((ji7) : Int).toNat), false, y239⟩ : S38)]) (wrap64 (x4_1 + 1))) else (none)) = some r := by first | (rw [hy239]; with_reducible exact H) | (have H2_ := (Option.bind_some _ _).symm.trans H; rw [hy239]; with_reducible exact H2_) | (have H2_ := (Option.bind_some _ _).symm.trans H; with_reducible exact H2_) | with_reducible exact H | (rw [hy239]; exact H) | exact H
              have Ny239 := Aside0.mk hy239
              clear hy239
              by_cases c24 : x3_1.length < 2932031007402
              ·
               rw [if_pos c24] at H
               have LMc24 := Aside0.mk c24
               clear c24
               obtain ⟨y244, hy244⟩ : ∃ y_ : List (S38), y_ = (x3_1 ++ [(⟨(⟨#[107]⟩ : ByteArray) ++ (((rd_T38 l0 x4_1).f0).extract 0 ((ji7) : Int).toNat), false, y239⟩ : S38)]) := ⟨_, rfl⟩
               replace H : (waybilllaw13_Tame.l0 kj1 l0 y244 (wrap64 (x4_1 + 1))) = some r := by first | (rw [hy244]; with_reducible exact H) | (have H2_ := (Option.bind_some _ _).symm.trans H; rw [hy244]; with_reducible exact H2_) | (have H2_ := (Option.bind_some _ _).symm.trans H; with_reducible exact H2_) | with_reducible exact H | (rw [hy244]; exact H) | exact H
               have Ny244 := Aside0.mk hy244
               clear hy244
               have H' := Aside0.mk H
               clear H
               try go_wp2
               have n0_ := Aside0.mk (Kd.V_drew HO_0.out)
               have n1_ := Aside0.mk (Kd.N_drew HO_3.out)
               have n2_ := Aside0.mk (below_drew1 HB.out)
               clear HO_0
               clear HO_3
               clear HB
               have HO_0 := n0_
               have HO_3 := n1_
               have HB := n2_
               clear n0_ n1_ n2_
               have p230 : 0 ≤ (x4_1 : Int) := of_decide_eq_true (by first | (with_reducible assumption) | assumption)
               have q230 : x4_1 < (l0.length : Int) := of_decide_eq_true (by first | (with_reducible assumption) | assumption)
               obtain ⟨ad230, A230_2, c230_2, e230, hx230_0, hx230_1, hx230_2, hl230_2, hi230_2⟩ := at_T38 (Kd.V_reads' HO_0.out).2.2 x4_1 p230 q230
               (try rw [← Nbq11.out] at hx230_1)
               cases e230
               obtain ⟨ce230, hce230, hMe230, hcc230⟩ := Kd.V_get HO_0.out z38 x4_1 p230 (by first | exact q230 | exact of_decide_eq_true (by first | (with_reducible assumption) | assumption) | (have e_ := (Kd.V_reads' HO_0.out).1; omega))
               obtain ⟨ua230_2, uc230_2, rfl, ul230_2, ge230_2⟩ := k38_openF hMe230
               have hv230_2 := hcc230 2 _ rfl
               rw [add_field _ _ 2 (by omega)] at hv230_2
               replace hv230_2 := Option.some.inj (hv230_2.symm.trans hx230_2)
               injection hv230_2 with hva_ hvn_ hvc_
               rw [hva_] at ge230_2
               rw [hvc_] at ul230_2
               have HL230_2 := Aside0.mk (show Kd.V (Kd.int .u8) 5 _ w.heap.size _ _ ((rd_T38 l0 x4_1).f2) from Kd.V_mk ul230_2 ge230_2)
               clear hva_ hvn_ hvc_ ge230_2 ul230_2
               clear hcc230 hce230
               have HR230_2 := Aside0.mk hi230_2
               have HC230_2 := Aside0.mk hl230_2
               clear hi230_2 hl230_2
               replace p230 := eq_true p230
               replace q230 := eq_true q230
               have p231 : 0 ≤ (x4_1 : Int) := of_decide_eq_true (by first | (with_reducible assumption) | assumption)
               have q231 : x4_1 < (l0.length : Int) := of_decide_eq_true (by first | (with_reducible assumption) | assumption)
               obtain ⟨ad231, A231_2, c231_2, e231, hx231_0, hx231_1, hx231_2, hl231_2, hi231_2⟩ := at_T38 (Kd.V_reads' HO_0.out).2.2 x4_1 p231 q231
               (try rw [← Nbq11.out] at hx231_1)
               obtain rfl : ad230 = ad231 := (by injection e231)
               obtain ⟨ce231, hce231, hMe231, hcc231⟩ := Kd.V_get HO_0.out z38 x4_1 p231 (by first | exact q231 | exact of_decide_eq_true (by first | (with_reducible assumption) | assumption) | (have e_ := (Kd.V_reads' HO_0.out).1; omega))
               obtain ⟨ua231_2, uc231_2, rfl, ul231_2, ge231_2⟩ := k38_openF hMe231
               have hv231_2 := hcc231 2 _ rfl
               rw [add_field _ _ 2 (by omega)] at hv231_2
               replace hv231_2 := Option.some.inj (hv231_2.symm.trans hx231_2)
               injection hv231_2 with hva_ hvn_ hvc_
               rw [hva_] at ge231_2
               rw [hvc_] at ul231_2
               have HL231_2 := Aside0.mk (show Kd.V (Kd.int .u8) 5 _ w.heap.size _ _ ((rd_T38 l0 x4_1).f2) from Kd.V_mk ul231_2 ge231_2)
               clear hva_ hvn_ hvc_ ge231_2 ul231_2
               clear hcc231 hce231
               have HR231_2 := Aside0.mk hi231_2
               have HC231_2 := Aside0.mk hl231_2
               clear hi231_2 hl231_2
               replace p231 := eq_true p231
               replace q231 := eq_true q231
               have ea_ := Option.some.inj (hx230_2.symm.trans hx231_2)
               injection ea_ with ea_ en_ ec_
               subst ea_
               subst ec_
               clear en_
               have p232 : 0 ≤ (x4_1 : Int) := of_decide_eq_true (by first | (with_reducible assumption) | assumption)
               have q232 : x4_1 < (l0.length : Int) := of_decide_eq_true (by first | (with_reducible assumption) | assumption)
               obtain ⟨ad232, A232_2, c232_2, e232, hx232_0, hx232_1, hx232_2, hl232_2, hi232_2⟩ := at_T38 (Kd.V_reads' HO_0.out).2.2 x4_1 p232 q232
               (try rw [← Nbq11.out] at hx232_1)
               obtain rfl : ad230 = ad232 := (by injection e232)
               obtain ⟨ce232, hce232, hMe232, hcc232⟩ := Kd.V_get HO_0.out z38 x4_1 p232 (by first | exact q232 | exact of_decide_eq_true (by first | (with_reducible assumption) | assumption) | (have e_ := (Kd.V_reads' HO_0.out).1; omega))
               obtain ⟨ua232_2, uc232_2, rfl, ul232_2, ge232_2⟩ := k38_openF hMe232
               have hv232_2 := hcc232 2 _ rfl
               rw [add_field _ _ 2 (by omega)] at hv232_2
               replace hv232_2 := Option.some.inj (hv232_2.symm.trans hx232_2)
               injection hv232_2 with hva_ hvn_ hvc_
               rw [hva_] at ge232_2
               rw [hvc_] at ul232_2
               have HL232_2 := Aside0.mk (show Kd.V (Kd.int .u8) 5 _ w.heap.size _ _ ((rd_T38 l0 x4_1).f2) from Kd.V_mk ul232_2 ge232_2)
               clear hva_ hvn_ hvc_ ge232_2 ul232_2
               clear hcc232 hce232
               have HR232_2 := Aside0.mk hi232_2
               have HC232_2 := Aside0.mk hl232_2
               clear hi232_2 hl232_2
               replace p232 := eq_true p232
               replace q232 := eq_true q232
               have ea_ := Option.some.inj (hx230_2.symm.trans hx232_2)
               injection ea_ with ea_ en_ ec_
               subst ea_
               subst ec_
               clear en_
               refine start_ (n := 22) (S := fun w' => w'.cell? (ad230.add ((x4_1).toNat * 3)) = some (.string ((rd_T38 l0 x4_1).f0)) ∧ w'.cell? ⟨(ad230.add ((x4_1).toNat * 3)).block, (ad230.add ((x4_1).toNat * 3)).off + 1, none⟩ = some (.bool false) ∧ w'.cell? ⟨(ad230.add ((x4_1).toNat * 3)).block, (ad230.add ((x4_1).toNat * 3)).off + 2, none⟩ = some (.slice A230_2 ((rd_T38 l0 x4_1).f2).length c230_2) ∧ w'.cell? (ad230.add ((x4_1).toNat * 3)) = some (.string ((rd_T38 l0 x4_1).f0)) ∧ w'.cell? ⟨(ad230.add ((x4_1).toNat * 3)).block, (ad230.add ((x4_1).toNat * 3)).off + 1, none⟩ = some (.bool false) ∧ w'.cell? ⟨(ad230.add ((x4_1).toNat * 3)).block, (ad230.add ((x4_1).toNat * 3)).off + 2, none⟩ = some (.slice A230_2 ((rd_T38 l0 x4_1).f2).length c230_2) ∧ w'.cell? (ad230.add ((x4_1).toNat * 3)) = some (.string ((rd_T38 l0 x4_1).f0)) ∧ w'.cell? ⟨(ad230.add ((x4_1).toNat * 3)).block, (ad230.add ((x4_1).toNat * 3)).off + 1, none⟩ = some (.bool false) ∧ w'.cell? ⟨(ad230.add ((x4_1).toNat * 3)).block, (ad230.add ((x4_1).toNat * 3)).off + 2, none⟩ = some (.slice A230_2 ((rd_T38 l0 x4_1).f2).length c230_2)) (ds := []) #[false, false, false, false, false, false, false, false, false, false, false, false, false, false, false, false, false, false, false, false, false, false] (by kernel_rfl) rfl rfl ⟨hx230_0, hx230_1, hx230_2, hx231_0, hx231_1, hx231_2, hx232_0, hx232_1, hx232_2⟩ (fun hHeld => ?_); refine with_tabW waybilllaw13_Tame.tab5 waybilllaw13_Tame.bits5 (fun HT_ HW_ => ?_)
               generalize wc.drew = w25 at HO_0 HO_3 HB HL230_2 HL231_2 HL232_2 HR230_2 HR231_2 HR232_2 hx230_0 hx230_1 hx230_2 hx231_0 hx231_1 hx231_2 hx232_0 hx232_1 hx232_2 hHeld ⊢
               refine pure_ (i := 0) (N := some 16) (v := ?_) (a' := ?_) #[true, false, false, false, false, false, false, false, false, false, false, false, false, false, false, false, false, false, false, false, false, false] rfl rfl (any_of HT_.out (by kernel_rfl)) (fun _ _ _ h => h) (Or.inl ⟨by rfl, ?_⟩) ?_ ?_
               rotate_left
               ·
                intro w'
                go_simp
                with_reducible rfl
               rotate_left
               ·
                simp only [Act.put, List.setIfInBounds_toArray, List.set_cons_zero, List.set_cons_succ, i64_w, i32_w]
                rfl
               refine pure_ (i := 1) (N := some 17) (v := ?_) (a' := ?_) #[true, true, false, false, false, false, false, false, false, false, false, false, false, false, false, false, false, false, false, false, false, false] rfl rfl (any_of HT_.out (by kernel_rfl)) (fun _ _ _ h => h) (Or.inl ⟨by rfl, ?_⟩) ?_ ?_
               rotate_left
               ·
                intro w'
                go_simp
                with_reducible rfl
               rotate_left
               ·
                simp only [Act.put, List.setIfInBounds_toArray, List.set_cons_zero, List.set_cons_succ, i64_w, i32_w]
                rfl
               refine pure_ (i := 2) (N := some 18) (v := ?_) (a' := ?_) #[true, true, true, false, false, false, false, false, false, false, false, false, false, false, false, false, false, false, false, false, false, false] rfl rfl (any_of HT_.out (by kernel_rfl)) (fun _ _ _ h => h) (Or.inl ⟨by rfl, ?_⟩) ?_ ?_
               rotate_left
               ·
                intro w'
                go_simp
                with_reducible rfl
               rotate_left
               ·
                simp only [Act.put, List.setIfInBounds_toArray, List.set_cons_zero, List.set_cons_succ, i64_w, i32_w]
                rfl
               refine pure_ (i := 3) (N := some 19) (v := ?_) (a' := ?_) #[true, true, true, true, false, false, false, false, false, false, false, false, false, false, false, false, false, false, false, false, false, false] rfl rfl (any_of HT_.out (by kernel_rfl)) (fun _ _ _ h => h) (Or.inl ⟨by rfl, ?_⟩) ?_ ?_
               rotate_left
               ·
                intro w'
                go_simp
                with_reducible rfl
               rotate_left
               ·
                simp only [Act.put, List.setIfInBounds_toArray, List.set_cons_zero, List.set_cons_succ, i64_w, i32_w]
                rfl
               refine pure_ (i := 5) (N := some 21) (v := ?_) (a' := ?_) #[true, true, true, true, false, true, false, false, false, false, false, false, false, false, false, false, false, false, false, false, false, false] rfl rfl (any_of HT_.out (by kernel_rfl)) (fun _ _ _ h => h) (Or.inl ⟨by rfl, ?_⟩) ?_ ?_
               rotate_left
               ·
                intro w'
                go_simp
                with_reducible rfl
               rotate_left
               ·
                simp only [Act.put, List.setIfInBounds_toArray, List.set_cons_zero, List.set_cons_succ, i64_w, i32_w]
                rfl
               refine pure_ (i := 6) (N := some 22) (v := ?_) (a' := ?_) #[true, true, true, true, false, true, true, false, false, false, false, false, false, false, false, false, false, false, false, false, false, false] rfl rfl (any_of HT_.out (by kernel_rfl)) (fun _ _ _ h => h) (Or.inl ⟨by rfl, ?_⟩) ?_ ?_
               rotate_left
               ·
                intro w'
                go_simp
                with_reducible rfl
               rotate_left
               ·
                simp only [Act.put, List.setIfInBounds_toArray, List.set_cons_zero, List.set_cons_succ, i64_w, i32_w]
                rfl
               refine pure_ (i := 7) (N := some 23) (v := ?_) (a' := ?_) #[true, true, true, true, false, true, true, true, false, false, false, false, false, false, false, false, false, false, false, false, false, false] rfl rfl (any_of HT_.out (by kernel_rfl)) (fun _ _ _ h => h) (Or.inl ⟨by rfl, ?_⟩) ?_ ?_
               rotate_left
               ·
                intro w'
                go_simp
                with_reducible rfl
               rotate_left
               ·
                simp only [Act.put, List.setIfInBounds_toArray, List.set_cons_zero, List.set_cons_succ, i64_w, i32_w]
                rfl
               refine pure_ (i := 8) (N := some 24) (v := ?_) (a' := ?_) #[true, true, true, true, false, true, true, true, true, false, false, false, false, false, false, false, false, false, false, false, false, false] rfl rfl (any_of HT_.out (by kernel_rfl)) (fun _ _ _ h => h) (Or.inl ⟨by rfl, ?_⟩) ?_ ?_
               rotate_left
               ·
                intro w'
                go_simp
                with_reducible rfl
               rotate_left
               ·
                simp only [Act.put, List.setIfInBounds_toArray, List.set_cons_zero, List.set_cons_succ, i64_w, i32_w]
                rfl
               refine pure_ (i := 14) (N := some 30) (v := ?_) (a' := ?_) #[true, true, true, true, false, true, true, true, true, false, false, false, false, false, true, false, false, false, false, false, false, false] rfl rfl (any_of HT_.out (by kernel_rfl)) (fun _ _ _ h => h) (Or.inl ⟨by rfl, ?_⟩) ?_ ?_
               rotate_left
               ·
                intro w'
                go_simp
                with_reducible rfl
               rotate_left
               ·
                simp only [Act.put, List.setIfInBounds_toArray, List.set_cons_zero, List.set_cons_succ, i64_w, i32_w]
                rfl
               refine pure_ (i := 15) (N := some 31) (v := ?_) (a' := ?_) #[true, true, true, true, false, true, true, true, true, false, false, false, false, false, true, true, false, false, false, false, false, false] rfl rfl (any_of HT_.out (by kernel_rfl)) (fun _ _ _ h => h) (Or.inl ⟨by rfl, ?_⟩) ?_ ?_
               rotate_left
               ·
                intro w'
                go_simp
                with_reducible rfl
               rotate_left
               ·
                simp only [Act.put, List.setIfInBounds_toArray, List.set_cons_zero, List.set_cons_succ, i64_w, i32_w]
                rfl
               refine pure_ (i := 16) (N := some 32) (v := ?_) (a' := ?_) #[true, true, true, true, false, true, true, true, true, false, false, false, false, false, true, true, true, false, false, false, false, false] rfl rfl (any_of HT_.out (by kernel_rfl)) (fun _ _ _ h => h) (Or.inl ⟨by rfl, ?_⟩) ?_ ?_
               rotate_left
               ·
                intro w'
                go_simp
                with_reducible rfl
               rotate_left
               ·
                simp only [Act.put, List.setIfInBounds_toArray, List.set_cons_zero, List.set_cons_succ, i64_w, i32_w]
                rfl
               refine pure_ (i := 17) (N := some 33) (v := ?_) (a' := ?_) #[true, true, true, true, false, true, true, true, true, false, false, false, false, false, true, true, true, true, false, false, false, false] rfl rfl (any_of HT_.out (by kernel_rfl)) (fun _ _ _ h => h) (Or.inl ⟨by rfl, ?_⟩) ?_ ?_
               rotate_left
               ·
                intro w'
                go_simp
                with_reducible rfl
               rotate_left
               ·
                simp only [Act.put, List.setIfInBounds_toArray, List.set_cons_zero, List.set_cons_succ, i64_w, i32_w]
                rfl
               refine take_ (i := 4) (N := some 20) (v := ?_) (a' := ?_) #[true, true, true, true, true, true, true, true, true, false, false, false, false, false, true, true, true, true, false, false, false, false] rfl rfl (take_ofW HT_.out HW_.out (by kernel_rfl)) (fun _ _ _ h => h) (Or.inl ⟨by rfl, ?_⟩) hHeld ?_ ?_
               rotate_left
               ·
                rintro w' ⟨s0, s1, s2, s3, s4, s5, s6, s7, s8⟩
                go_simp
                with_reducible rfl
               rotate_left
               ·
                simp only [Act.put, List.setIfInBounds_toArray, List.set_cons_zero, List.set_cons_succ, i64_w, i32_w]
                rfl
               refine take_ (i := 9) (N := some 25) (v := ?_) (a' := ?_) #[true, true, true, true, true, true, true, true, true, true, false, false, false, false, true, true, true, true, false, false, false, false] rfl rfl (take_ofW HT_.out HW_.out (by kernel_rfl)) (fun _ _ _ h => h) (Or.inl ⟨by rfl, ?_⟩) hHeld ?_ ?_
               rotate_left
               ·
                rintro w' ⟨s0, s1, s2, s3, s4, s5, s6, s7, s8⟩
                go_simp
                with_reducible rfl
               rotate_left
               ·
                simp only [Act.put, List.setIfInBounds_toArray, List.set_cons_zero, List.set_cons_succ, i64_w, i32_w]
                rfl
               refine pure_ (i := 10) (N := some 26) (v := ?_) (a' := ?_) #[true, true, true, true, true, true, true, true, true, true, true, false, false, false, true, true, true, true, false, false, false, false] rfl rfl (any_of HT_.out (by kernel_rfl)) (fun _ _ _ h => h) (Or.inl ⟨by rfl, ?_⟩) ?_ ?_
               rotate_left
               ·
                intro w'
                go_simp
                with_reducible rfl
               rotate_left
               ·
                simp only [Act.put, List.setIfInBounds_toArray, List.set_cons_zero, List.set_cons_succ, i64_w, i32_w]
                rfl
               refine pure_ (i := 11) (N := some 27) (v := ?_) (a' := ?_) #[true, true, true, true, true, true, true, true, true, true, true, true, false, false, true, true, true, true, false, false, false, false] rfl rfl (any_of HT_.out (by kernel_rfl)) (fun _ _ _ h => h) (Or.inl ⟨by rfl, ?_⟩) ?_ ?_
               rotate_left
               ·
                intro w'
                go_simp
                with_reducible rfl
               rotate_left
               ·
                simp only [Act.put, List.setIfInBounds_toArray, List.set_cons_zero, List.set_cons_succ, i64_w, i32_w]
                rfl
               refine pure_ (i := 12) (N := some 28) (v := ?_) (a' := ?_) #[true, true, true, true, true, true, true, true, true, true, true, true, true, false, true, true, true, true, false, false, false, false] rfl rfl (any_of HT_.out (by kernel_rfl)) (fun _ _ _ h => h) (Or.inl ⟨by rfl, ?_⟩) ?_ ?_
               rotate_left
               ·
                intro w'
                go_simp
                with_reducible rfl
               rotate_left
               ·
                simp only [Act.put, List.setIfInBounds_toArray, List.set_cons_zero, List.set_cons_succ, i64_w, i32_w]
                rfl
               refine pure_ (i := 13) (N := some 29) (v := ?_) (a' := ?_) #[true, true, true, true, true, true, true, true, true, true, true, true, true, true, true, true, true, true, false, false, false, false] rfl rfl (any_of HT_.out (by kernel_rfl)) (fun _ _ _ h => h) (Or.inl ⟨by rfl, ?_⟩) ?_ ?_
               rotate_left
               ·
                intro w'
                go_simp
                with_reducible rfl
               rotate_left
               ·
                simp only [Act.put, List.setIfInBounds_toArray, List.set_cons_zero, List.set_cons_succ, i64_w, i32_w]
                rfl
               refine take_ (i := 18) (N := some 34) (v := ?_) (a' := ?_) #[true, true, true, true, true, true, true, true, true, true, true, true, true, true, true, true, true, true, true, false, false, false] rfl rfl (take_ofW HT_.out HW_.out (by kernel_rfl)) (fun _ _ _ h => h) (Or.inl ⟨by rfl, ?_⟩) hHeld ?_ ?_
               rotate_left
               ·
                rintro w' ⟨s0, s1, s2, s3, s4, s5, s6, s7, s8⟩
                go_simp
                with_reducible rfl
               rotate_left
               ·
                simp only [Act.put, List.setIfInBounds_toArray, List.set_cons_zero, List.set_cons_succ, i64_w, i32_w]
                rfl
               refine pure_ (i := 19) (N := some 35) (v := ?_) (a' := ?_) #[true, true, true, true, true, true, true, true, true, true, true, true, true, true, true, true, true, true, true, true, false, false] rfl rfl (any_of HT_.out (by kernel_rfl)) (fun _ _ _ h => h) (Or.inl ⟨by rfl, ?_⟩) ?_ ?_
               rotate_left
               ·
                intro w'
                go_simp
                with_reducible rfl
               rotate_left
               ·
                simp only [Act.put, List.setIfInBounds_toArray, List.set_cons_zero, List.set_cons_succ, i64_w, i32_w]
                rfl
               refine one_ (i := 20) (N := some 5) #[true, true, true, true, true, true, true, true, true, true, true, true, true, true, true, true, true, true, true, true, true, false] rfl rfl (one_of HT_.out (by kernel_rfl)) (by decide) (fun K hK => ?_)
               refine box_step ?hg (N := 5) ?hd (cs := #[.string (⟨#[]⟩ : ByteArray), .bool false, .slice none 0 0]) (t := 38) ?hr ?_; (case hd => rfl); (case hg => rfl); (case hr => first | (go_simp; done) | (go_simp; rfl))
               intro gb233 hg w26 hbox hb
               have HS0_ := (hb.cell (World.block_lt_of_cell? _ _ (hHeld.1))).trans (hHeld.1)
               have HS1_ := (hb.cell (World.block_lt_of_cell? _ _ (hHeld.2.1))).trans (hHeld.2.1)
               have HS2_ := (hb.cell (World.block_lt_of_cell? _ _ (hHeld.2.2.1))).trans (hHeld.2.2.1)
               have HS3_ := (hb.cell (World.block_lt_of_cell? _ _ (hHeld.2.2.2.1))).trans (hHeld.2.2.2.1)
               have HS4_ := (hb.cell (World.block_lt_of_cell? _ _ (hHeld.2.2.2.2.1))).trans (hHeld.2.2.2.2.1)
               have HS5_ := (hb.cell (World.block_lt_of_cell? _ _ (hHeld.2.2.2.2.2.1))).trans (hHeld.2.2.2.2.2.1)
               have HS6_ := (hb.cell (World.block_lt_of_cell? _ _ (hHeld.2.2.2.2.2.2.1))).trans (hHeld.2.2.2.2.2.2.1)
               have HS7_ := (hb.cell (World.block_lt_of_cell? _ _ (hHeld.2.2.2.2.2.2.2.1))).trans (hHeld.2.2.2.2.2.2.2.1)
               have HS8_ := (hb.cell (World.block_lt_of_cell? _ _ (hHeld.2.2.2.2.2.2.2.2))).trans (hHeld.2.2.2.2.2.2.2.2)
               have n0_ := Aside0.mk (Kd.V_below (Kd.V_elderB (by (with_reducible repeat (first | apply Kd.V_alloc | apply Kd.V_drewN | apply Kd.V_drew)); exact HO_0.out) gb233 (Nat.le_of_eq hg.symm)) hb)
               have n1_ := Aside0.mk (Kd.N_below (Kd.N_elderB (by (with_reducible repeat (first | apply Kd.N_alloc | apply Kd.N_drewN | apply Kd.N_drew)); exact HO_3.out) gb233 (Nat.le_of_eq hg.symm)) hb)
               have n2_ := Aside0.mk (Kd.V_below (Kd.V_elderB (by (with_reducible repeat (first | apply Kd.V_alloc | apply Kd.V_drewN | apply Kd.V_drew)); exact HL230_2.out) gb233 (Nat.le_of_eq hg.symm)) hb)
               have n3_ := Aside0.mk (Kd.V_below (Kd.V_elderB (by (with_reducible repeat (first | apply Kd.V_alloc | apply Kd.V_drewN | apply Kd.V_drew)); exact HL231_2.out) gb233 (Nat.le_of_eq hg.symm)) hb)
               have n4_ := Aside0.mk (Kd.V_below (Kd.V_elderB (by (with_reducible repeat (first | apply Kd.V_alloc | apply Kd.V_drewN | apply Kd.V_drew)); exact HL232_2.out) gb233 (Nat.le_of_eq hg.symm)) hb)
               have n5_ := Aside0.mk (Kd.C_below (by repeat (first | (with_reducible exact HR230_2.out) | (with_reducible refine Kd.C_alloc ?_ _) | (with_reducible refine Kd.C_drewN ?_ _) | (with_reducible refine Kd.C_drew ?_) | exact HR230_2.out)) hb)
               have n6_ := Aside0.mk (Kd.C_below (by repeat (first | (with_reducible exact HR231_2.out) | (with_reducible refine Kd.C_alloc ?_ _) | (with_reducible refine Kd.C_drewN ?_ _) | (with_reducible refine Kd.C_drew ?_) | exact HR231_2.out)) hb)
               have n7_ := Aside0.mk (Kd.C_below (by repeat (first | (with_reducible exact HR232_2.out) | (with_reducible refine Kd.C_alloc ?_ _) | (with_reducible refine Kd.C_drewN ?_ _) | (with_reducible refine Kd.C_drew ?_) | exact HR232_2.out)) hb)
               have n8_ := Aside0.mk (below_step (by repeat (first | (with_reducible first | exact HB.out | apply below_alloc | apply pw_below_drewN | apply below_drew1) | exact HB.out)) hb)
               have n9_ := Aside0.mk (hbox)
               have n10_ := Aside0.mk ((by rw [hg]; exact (below_size (by repeat (first | (with_reducible first | exact HB.out | apply below_alloc | apply pw_below_drewN | apply below_drew1) | exact HB.out))) : w.heap.size ≤ gb233))
               have n11_ := Aside0.mk ((by rw [hg]; exact (below_size (by repeat (first | (with_reducible first | exact HB.out | apply below_alloc | apply pw_below_drewN | apply below_drew1) | exact HB.out))) : w.heap.size ≤ gb233))
               clear HO_0
               clear HO_3
               clear HL230_2
               clear HL231_2
               clear HL232_2
               clear HR230_2
               clear HR231_2
               clear HR232_2
               clear HB
               have HO_0 := n0_
               have HO_3 := n1_
               have HL230_2 := n2_
               have HL231_2 := n3_
               have HL232_2 := n4_
               have HR230_2 := n5_
               have HR231_2 := n6_
               have HR232_2 := n7_
               have HB := n8_
               have BK233 := n9_
               have GW233 := n10_
               have GE233 := n11_
               clear n0_ n1_ n2_ n3_ n4_ n5_ n6_ n7_ n8_ n9_ n10_ n11_
               clear hb hbox hg
               refine hK.out _ _ ⟨HS0_, HS1_, HS2_, HS3_, HS4_, HS5_, HS6_, HS7_, HS8_⟩ (fun hHeld => ?_)
               clear hK K
               refine norm_ (a' := ?_) ?_ ?_
               rotate_left
               ·
                show Act.put _ (some 5) _ = _
                simp only [Act.put, List.setIfInBounds_toArray, List.set_cons_zero, List.set_cons_succ, i64_w, i32_w]
                rfl
               refine one_ (i := 21) (N := none) #[true, true, true, true, true, true, true, true, true, true, true, true, true, true, true, true, true, true, true, true, true, true] rfl rfl (one_of HT_.out (by kernel_rfl)) (by decide) (fun K hK => ?_)
               have hs27 : w26.cell? ⟨gb233, 0, none⟩ = some (.string (⟨#[]⟩ : ByteArray)) := (blk_cell BK233.out 0).trans rfl
               have hfs27 := blk_frozen BK233.out 0
               have hs28 : w26.cell? ⟨gb233, 1, none⟩ = some (.bool false) := (blk_cell BK233.out 1).trans rfl
               have hfs28 := blk_frozen BK233.out 1
               have hs29 : w26.cell? ⟨gb233, 2, none⟩ = some (.slice none 0 0) := (blk_cell BK233.out 2).trans rfl
               have hfs29 := blk_frozen BK233.out 2
               refine skip_ (w1 := ?_) (by rfl) rfl ?_ ?_
               rotate_left
               ·
                go_simp
                rfl
               refine hK.out _ _ ⟨((cell_far (p := ⟨gb233, _, none⟩) (by first | exact Kd.own_blk (Kd.V_away HO_0.out (fun _ hk => hk.2) (by first | omega | (have h_ := of_eq_true q230; have g_ := of_eq_true p230; omega))) | (rw [add_block]; exact Kd.own_blk (Kd.V_away HO_0.out (fun _ hk => hk.2) (by first | omega | (have h_ := of_eq_true q230; have g_ := of_eq_true p230; omega)))) | (show (Addr.add _ _).block ≠ _; rw [add_block]; exact Kd.own_blk (Kd.V_away HO_0.out (fun _ hk => hk.2) (by first | omega | (have h_ := of_eq_true q230; have g_ := of_eq_true p230; omega)))) | (dsimp only; exact Kd.own_blk (Kd.V_away HO_0.out (fun _ hk => hk.2) (by first | omega | (have h_ := of_eq_true q230; have g_ := of_eq_true p230; omega))))) _).trans (((cell_far (p := ⟨gb233, _, none⟩) (by first | exact Kd.own_blk (Kd.V_away HO_0.out (fun _ hk => hk.2) (by first | omega | (have h_ := of_eq_true q230; have g_ := of_eq_true p230; omega))) | (rw [add_block]; exact Kd.own_blk (Kd.V_away HO_0.out (fun _ hk => hk.2) (by first | omega | (have h_ := of_eq_true q230; have g_ := of_eq_true p230; omega)))) | (show (Addr.add _ _).block ≠ _; rw [add_block]; exact Kd.own_blk (Kd.V_away HO_0.out (fun _ hk => hk.2) (by first | omega | (have h_ := of_eq_true q230; have g_ := of_eq_true p230; omega)))) | (dsimp only; exact Kd.own_blk (Kd.V_away HO_0.out (fun _ hk => hk.2) (by first | omega | (have h_ := of_eq_true q230; have g_ := of_eq_true p230; omega))))) _).trans (((cell_far (p := ⟨gb233, _, none⟩) (by first | exact Kd.own_blk (Kd.V_away HO_0.out (fun _ hk => hk.2) (by first | omega | (have h_ := of_eq_true q230; have g_ := of_eq_true p230; omega))) | (rw [add_block]; exact Kd.own_blk (Kd.V_away HO_0.out (fun _ hk => hk.2) (by first | omega | (have h_ := of_eq_true q230; have g_ := of_eq_true p230; omega)))) | (show (Addr.add _ _).block ≠ _; rw [add_block]; exact Kd.own_blk (Kd.V_away HO_0.out (fun _ hk => hk.2) (by first | omega | (have h_ := of_eq_true q230; have g_ := of_eq_true p230; omega)))) | (dsimp only; exact Kd.own_blk (Kd.V_away HO_0.out (fun _ hk => hk.2) (by first | omega | (have h_ := of_eq_true q230; have g_ := of_eq_true p230; omega))))) _).trans (hHeld.1)))))), ((cell_far (p := ⟨gb233, _, none⟩) (by first | exact Kd.own_blk (Kd.V_away HO_0.out (fun _ hk => hk.2) (by first | omega | (have h_ := of_eq_true q230; have g_ := of_eq_true p230; omega))) | (rw [add_block]; exact Kd.own_blk (Kd.V_away HO_0.out (fun _ hk => hk.2) (by first | omega | (have h_ := of_eq_true q230; have g_ := of_eq_true p230; omega)))) | (show (Addr.add _ _).block ≠ _; rw [add_block]; exact Kd.own_blk (Kd.V_away HO_0.out (fun _ hk => hk.2) (by first | omega | (have h_ := of_eq_true q230; have g_ := of_eq_true p230; omega)))) | (dsimp only; exact Kd.own_blk (Kd.V_away HO_0.out (fun _ hk => hk.2) (by first | omega | (have h_ := of_eq_true q230; have g_ := of_eq_true p230; omega))))) _).trans (((cell_far (p := ⟨gb233, _, none⟩) (by first | exact Kd.own_blk (Kd.V_away HO_0.out (fun _ hk => hk.2) (by first | omega | (have h_ := of_eq_true q230; have g_ := of_eq_true p230; omega))) | (rw [add_block]; exact Kd.own_blk (Kd.V_away HO_0.out (fun _ hk => hk.2) (by first | omega | (have h_ := of_eq_true q230; have g_ := of_eq_true p230; omega)))) | (show (Addr.add _ _).block ≠ _; rw [add_block]; exact Kd.own_blk (Kd.V_away HO_0.out (fun _ hk => hk.2) (by first | omega | (have h_ := of_eq_true q230; have g_ := of_eq_true p230; omega)))) | (dsimp only; exact Kd.own_blk (Kd.V_away HO_0.out (fun _ hk => hk.2) (by first | omega | (have h_ := of_eq_true q230; have g_ := of_eq_true p230; omega))))) _).trans (((cell_far (p := ⟨gb233, _, none⟩) (by first | exact Kd.own_blk (Kd.V_away HO_0.out (fun _ hk => hk.2) (by first | omega | (have h_ := of_eq_true q230; have g_ := of_eq_true p230; omega))) | (rw [add_block]; exact Kd.own_blk (Kd.V_away HO_0.out (fun _ hk => hk.2) (by first | omega | (have h_ := of_eq_true q230; have g_ := of_eq_true p230; omega)))) | (show (Addr.add _ _).block ≠ _; rw [add_block]; exact Kd.own_blk (Kd.V_away HO_0.out (fun _ hk => hk.2) (by first | omega | (have h_ := of_eq_true q230; have g_ := of_eq_true p230; omega)))) | (dsimp only; exact Kd.own_blk (Kd.V_away HO_0.out (fun _ hk => hk.2) (by first | omega | (have h_ := of_eq_true q230; have g_ := of_eq_true p230; omega))))) _).trans (hHeld.2.1)))))), ((cell_far (p := ⟨gb233, _, none⟩) (by first | exact Kd.own_blk (Kd.V_away HO_0.out (fun _ hk => hk.2) (by first | omega | (have h_ := of_eq_true q230; have g_ := of_eq_true p230; omega))) | (rw [add_block]; exact Kd.own_blk (Kd.V_away HO_0.out (fun _ hk => hk.2) (by first | omega | (have h_ := of_eq_true q230; have g_ := of_eq_true p230; omega)))) | (show (Addr.add _ _).block ≠ _; rw [add_block]; exact Kd.own_blk (Kd.V_away HO_0.out (fun _ hk => hk.2) (by first | omega | (have h_ := of_eq_true q230; have g_ := of_eq_true p230; omega)))) | (dsimp only; exact Kd.own_blk (Kd.V_away HO_0.out (fun _ hk => hk.2) (by first | omega | (have h_ := of_eq_true q230; have g_ := of_eq_true p230; omega))))) _).trans (((cell_far (p := ⟨gb233, _, none⟩) (by first | exact Kd.own_blk (Kd.V_away HO_0.out (fun _ hk => hk.2) (by first | omega | (have h_ := of_eq_true q230; have g_ := of_eq_true p230; omega))) | (rw [add_block]; exact Kd.own_blk (Kd.V_away HO_0.out (fun _ hk => hk.2) (by first | omega | (have h_ := of_eq_true q230; have g_ := of_eq_true p230; omega)))) | (show (Addr.add _ _).block ≠ _; rw [add_block]; exact Kd.own_blk (Kd.V_away HO_0.out (fun _ hk => hk.2) (by first | omega | (have h_ := of_eq_true q230; have g_ := of_eq_true p230; omega)))) | (dsimp only; exact Kd.own_blk (Kd.V_away HO_0.out (fun _ hk => hk.2) (by first | omega | (have h_ := of_eq_true q230; have g_ := of_eq_true p230; omega))))) _).trans (((cell_far (p := ⟨gb233, _, none⟩) (by first | exact Kd.own_blk (Kd.V_away HO_0.out (fun _ hk => hk.2) (by first | omega | (have h_ := of_eq_true q230; have g_ := of_eq_true p230; omega))) | (rw [add_block]; exact Kd.own_blk (Kd.V_away HO_0.out (fun _ hk => hk.2) (by first | omega | (have h_ := of_eq_true q230; have g_ := of_eq_true p230; omega)))) | (show (Addr.add _ _).block ≠ _; rw [add_block]; exact Kd.own_blk (Kd.V_away HO_0.out (fun _ hk => hk.2) (by first | omega | (have h_ := of_eq_true q230; have g_ := of_eq_true p230; omega)))) | (dsimp only; exact Kd.own_blk (Kd.V_away HO_0.out (fun _ hk => hk.2) (by first | omega | (have h_ := of_eq_true q230; have g_ := of_eq_true p230; omega))))) _).trans (hHeld.2.2.1)))))), ((cell_far (p := ⟨gb233, _, none⟩) (by first | exact Kd.own_blk (Kd.V_away HO_0.out (fun _ hk => hk.2) (by first | omega | (have h_ := of_eq_true q231; have g_ := of_eq_true p231; omega))) | (rw [add_block]; exact Kd.own_blk (Kd.V_away HO_0.out (fun _ hk => hk.2) (by first | omega | (have h_ := of_eq_true q231; have g_ := of_eq_true p231; omega)))) | (show (Addr.add _ _).block ≠ _; rw [add_block]; exact Kd.own_blk (Kd.V_away HO_0.out (fun _ hk => hk.2) (by first | omega | (have h_ := of_eq_true q231; have g_ := of_eq_true p231; omega)))) | (dsimp only; exact Kd.own_blk (Kd.V_away HO_0.out (fun _ hk => hk.2) (by first | omega | (have h_ := of_eq_true q231; have g_ := of_eq_true p231; omega))))) _).trans (((cell_far (p := ⟨gb233, _, none⟩) (by first | exact Kd.own_blk (Kd.V_away HO_0.out (fun _ hk => hk.2) (by first | omega | (have h_ := of_eq_true q231; have g_ := of_eq_true p231; omega))) | (rw [add_block]; exact Kd.own_blk (Kd.V_away HO_0.out (fun _ hk => hk.2) (by first | omega | (have h_ := of_eq_true q231; have g_ := of_eq_true p231; omega)))) | (show (Addr.add _ _).block ≠ _; rw [add_block]; exact Kd.own_blk (Kd.V_away HO_0.out (fun _ hk => hk.2) (by first | omega | (have h_ := of_eq_true q231; have g_ := of_eq_true p231; omega)))) | (dsimp only; exact Kd.own_blk (Kd.V_away HO_0.out (fun _ hk => hk.2) (by first | omega | (have h_ := of_eq_true q231; have g_ := of_eq_true p231; omega))))) _).trans (((cell_far (p := ⟨gb233, _, none⟩) (by first | exact Kd.own_blk (Kd.V_away HO_0.out (fun _ hk => hk.2) (by first | omega | (have h_ := of_eq_true q231; have g_ := of_eq_true p231; omega))) | (rw [add_block]; exact Kd.own_blk (Kd.V_away HO_0.out (fun _ hk => hk.2) (by first | omega | (have h_ := of_eq_true q231; have g_ := of_eq_true p231; omega)))) | (show (Addr.add _ _).block ≠ _; rw [add_block]; exact Kd.own_blk (Kd.V_away HO_0.out (fun _ hk => hk.2) (by first | omega | (have h_ := of_eq_true q231; have g_ := of_eq_true p231; omega)))) | (dsimp only; exact Kd.own_blk (Kd.V_away HO_0.out (fun _ hk => hk.2) (by first | omega | (have h_ := of_eq_true q231; have g_ := of_eq_true p231; omega))))) _).trans (hHeld.2.2.2.1)))))), ((cell_far (p := ⟨gb233, _, none⟩) (by first | exact Kd.own_blk (Kd.V_away HO_0.out (fun _ hk => hk.2) (by first | omega | (have h_ := of_eq_true q231; have g_ := of_eq_true p231; omega))) | (rw [add_block]; exact Kd.own_blk (Kd.V_away HO_0.out (fun _ hk => hk.2) (by first | omega | (have h_ := of_eq_true q231; have g_ := of_eq_true p231; omega)))) | (show (Addr.add _ _).block ≠ _; rw [add_block]; exact Kd.own_blk (Kd.V_away HO_0.out (fun _ hk => hk.2) (by first | omega | (have h_ := of_eq_true q231; have g_ := of_eq_true p231; omega)))) | (dsimp only; exact Kd.own_blk (Kd.V_away HO_0.out (fun _ hk => hk.2) (by first | omega | (have h_ := of_eq_true q231; have g_ := of_eq_true p231; omega))))) _).trans (((cell_far (p := ⟨gb233, _, none⟩) (by first | exact Kd.own_blk (Kd.V_away HO_0.out (fun _ hk => hk.2) (by first | omega | (have h_ := of_eq_true q231; have g_ := of_eq_true p231; omega))) | (rw [add_block]; exact Kd.own_blk (Kd.V_away HO_0.out (fun _ hk => hk.2) (by first | omega | (have h_ := of_eq_true q231; have g_ := of_eq_true p231; omega)))) | (show (Addr.add _ _).block ≠ _; rw [add_block]; exact Kd.own_blk (Kd.V_away HO_0.out (fun _ hk => hk.2) (by first | omega | (have h_ := of_eq_true q231; have g_ := of_eq_true p231; omega)))) | (dsimp only; exact Kd.own_blk (Kd.V_away HO_0.out (fun _ hk => hk.2) (by first | omega | (have h_ := of_eq_true q231; have g_ := of_eq_true p231; omega))))) _).trans (((cell_far (p := ⟨gb233, _, none⟩) (by first | exact Kd.own_blk (Kd.V_away HO_0.out (fun _ hk => hk.2) (by first | omega | (have h_ := of_eq_true q231; have g_ := of_eq_true p231; omega))) | (rw [add_block]; exact Kd.own_blk (Kd.V_away HO_0.out (fun _ hk => hk.2) (by first | omega | (have h_ := of_eq_true q231; have g_ := of_eq_true p231; omega)))) | (show (Addr.add _ _).block ≠ _; rw [add_block]; exact Kd.own_blk (Kd.V_away HO_0.out (fun _ hk => hk.2) (by first | omega | (have h_ := of_eq_true q231; have g_ := of_eq_true p231; omega)))) | (dsimp only; exact Kd.own_blk (Kd.V_away HO_0.out (fun _ hk => hk.2) (by first | omega | (have h_ := of_eq_true q231; have g_ := of_eq_true p231; omega))))) _).trans (hHeld.2.2.2.2.1)))))), ((cell_far (p := ⟨gb233, _, none⟩) (by first | exact Kd.own_blk (Kd.V_away HO_0.out (fun _ hk => hk.2) (by first | omega | (have h_ := of_eq_true q231; have g_ := of_eq_true p231; omega))) | (rw [add_block]; exact Kd.own_blk (Kd.V_away HO_0.out (fun _ hk => hk.2) (by first | omega | (have h_ := of_eq_true q231; have g_ := of_eq_true p231; omega)))) | (show (Addr.add _ _).block ≠ _; rw [add_block]; exact Kd.own_blk (Kd.V_away HO_0.out (fun _ hk => hk.2) (by first | omega | (have h_ := of_eq_true q231; have g_ := of_eq_true p231; omega)))) | (dsimp only; exact Kd.own_blk (Kd.V_away HO_0.out (fun _ hk => hk.2) (by first | omega | (have h_ := of_eq_true q231; have g_ := of_eq_true p231; omega))))) _).trans (((cell_far (p := ⟨gb233, _, none⟩) (by first | exact Kd.own_blk (Kd.V_away HO_0.out (fun _ hk => hk.2) (by first | omega | (have h_ := of_eq_true q231; have g_ := of_eq_true p231; omega))) | (rw [add_block]; exact Kd.own_blk (Kd.V_away HO_0.out (fun _ hk => hk.2) (by first | omega | (have h_ := of_eq_true q231; have g_ := of_eq_true p231; omega)))) | (show (Addr.add _ _).block ≠ _; rw [add_block]; exact Kd.own_blk (Kd.V_away HO_0.out (fun _ hk => hk.2) (by first | omega | (have h_ := of_eq_true q231; have g_ := of_eq_true p231; omega)))) | (dsimp only; exact Kd.own_blk (Kd.V_away HO_0.out (fun _ hk => hk.2) (by first | omega | (have h_ := of_eq_true q231; have g_ := of_eq_true p231; omega))))) _).trans (((cell_far (p := ⟨gb233, _, none⟩) (by first | exact Kd.own_blk (Kd.V_away HO_0.out (fun _ hk => hk.2) (by first | omega | (have h_ := of_eq_true q231; have g_ := of_eq_true p231; omega))) | (rw [add_block]; exact Kd.own_blk (Kd.V_away HO_0.out (fun _ hk => hk.2) (by first | omega | (have h_ := of_eq_true q231; have g_ := of_eq_true p231; omega)))) | (show (Addr.add _ _).block ≠ _; rw [add_block]; exact Kd.own_blk (Kd.V_away HO_0.out (fun _ hk => hk.2) (by first | omega | (have h_ := of_eq_true q231; have g_ := of_eq_true p231; omega)))) | (dsimp only; exact Kd.own_blk (Kd.V_away HO_0.out (fun _ hk => hk.2) (by first | omega | (have h_ := of_eq_true q231; have g_ := of_eq_true p231; omega))))) _).trans (hHeld.2.2.2.2.2.1)))))), ((cell_far (p := ⟨gb233, _, none⟩) (by first | exact Kd.own_blk (Kd.V_away HO_0.out (fun _ hk => hk.2) (by first | omega | (have h_ := of_eq_true q232; have g_ := of_eq_true p232; omega))) | (rw [add_block]; exact Kd.own_blk (Kd.V_away HO_0.out (fun _ hk => hk.2) (by first | omega | (have h_ := of_eq_true q232; have g_ := of_eq_true p232; omega)))) | (show (Addr.add _ _).block ≠ _; rw [add_block]; exact Kd.own_blk (Kd.V_away HO_0.out (fun _ hk => hk.2) (by first | omega | (have h_ := of_eq_true q232; have g_ := of_eq_true p232; omega)))) | (dsimp only; exact Kd.own_blk (Kd.V_away HO_0.out (fun _ hk => hk.2) (by first | omega | (have h_ := of_eq_true q232; have g_ := of_eq_true p232; omega))))) _).trans (((cell_far (p := ⟨gb233, _, none⟩) (by first | exact Kd.own_blk (Kd.V_away HO_0.out (fun _ hk => hk.2) (by first | omega | (have h_ := of_eq_true q232; have g_ := of_eq_true p232; omega))) | (rw [add_block]; exact Kd.own_blk (Kd.V_away HO_0.out (fun _ hk => hk.2) (by first | omega | (have h_ := of_eq_true q232; have g_ := of_eq_true p232; omega)))) | (show (Addr.add _ _).block ≠ _; rw [add_block]; exact Kd.own_blk (Kd.V_away HO_0.out (fun _ hk => hk.2) (by first | omega | (have h_ := of_eq_true q232; have g_ := of_eq_true p232; omega)))) | (dsimp only; exact Kd.own_blk (Kd.V_away HO_0.out (fun _ hk => hk.2) (by first | omega | (have h_ := of_eq_true q232; have g_ := of_eq_true p232; omega))))) _).trans (((cell_far (p := ⟨gb233, _, none⟩) (by first | exact Kd.own_blk (Kd.V_away HO_0.out (fun _ hk => hk.2) (by first | omega | (have h_ := of_eq_true q232; have g_ := of_eq_true p232; omega))) | (rw [add_block]; exact Kd.own_blk (Kd.V_away HO_0.out (fun _ hk => hk.2) (by first | omega | (have h_ := of_eq_true q232; have g_ := of_eq_true p232; omega)))) | (show (Addr.add _ _).block ≠ _; rw [add_block]; exact Kd.own_blk (Kd.V_away HO_0.out (fun _ hk => hk.2) (by first | omega | (have h_ := of_eq_true q232; have g_ := of_eq_true p232; omega)))) | (dsimp only; exact Kd.own_blk (Kd.V_away HO_0.out (fun _ hk => hk.2) (by first | omega | (have h_ := of_eq_true q232; have g_ := of_eq_true p232; omega))))) _).trans (hHeld.2.2.2.2.2.2.1)))))), ((cell_far (p := ⟨gb233, _, none⟩) (by first | exact Kd.own_blk (Kd.V_away HO_0.out (fun _ hk => hk.2) (by first | omega | (have h_ := of_eq_true q232; have g_ := of_eq_true p232; omega))) | (rw [add_block]; exact Kd.own_blk (Kd.V_away HO_0.out (fun _ hk => hk.2) (by first | omega | (have h_ := of_eq_true q232; have g_ := of_eq_true p232; omega)))) | (show (Addr.add _ _).block ≠ _; rw [add_block]; exact Kd.own_blk (Kd.V_away HO_0.out (fun _ hk => hk.2) (by first | omega | (have h_ := of_eq_true q232; have g_ := of_eq_true p232; omega)))) | (dsimp only; exact Kd.own_blk (Kd.V_away HO_0.out (fun _ hk => hk.2) (by first | omega | (have h_ := of_eq_true q232; have g_ := of_eq_true p232; omega))))) _).trans (((cell_far (p := ⟨gb233, _, none⟩) (by first | exact Kd.own_blk (Kd.V_away HO_0.out (fun _ hk => hk.2) (by first | omega | (have h_ := of_eq_true q232; have g_ := of_eq_true p232; omega))) | (rw [add_block]; exact Kd.own_blk (Kd.V_away HO_0.out (fun _ hk => hk.2) (by first | omega | (have h_ := of_eq_true q232; have g_ := of_eq_true p232; omega)))) | (show (Addr.add _ _).block ≠ _; rw [add_block]; exact Kd.own_blk (Kd.V_away HO_0.out (fun _ hk => hk.2) (by first | omega | (have h_ := of_eq_true q232; have g_ := of_eq_true p232; omega)))) | (dsimp only; exact Kd.own_blk (Kd.V_away HO_0.out (fun _ hk => hk.2) (by first | omega | (have h_ := of_eq_true q232; have g_ := of_eq_true p232; omega))))) _).trans (((cell_far (p := ⟨gb233, _, none⟩) (by first | exact Kd.own_blk (Kd.V_away HO_0.out (fun _ hk => hk.2) (by first | omega | (have h_ := of_eq_true q232; have g_ := of_eq_true p232; omega))) | (rw [add_block]; exact Kd.own_blk (Kd.V_away HO_0.out (fun _ hk => hk.2) (by first | omega | (have h_ := of_eq_true q232; have g_ := of_eq_true p232; omega)))) | (show (Addr.add _ _).block ≠ _; rw [add_block]; exact Kd.own_blk (Kd.V_away HO_0.out (fun _ hk => hk.2) (by first | omega | (have h_ := of_eq_true q232; have g_ := of_eq_true p232; omega)))) | (dsimp only; exact Kd.own_blk (Kd.V_away HO_0.out (fun _ hk => hk.2) (by first | omega | (have h_ := of_eq_true q232; have g_ := of_eq_true p232; omega))))) _).trans (hHeld.2.2.2.2.2.2.2.1)))))), ((cell_far (p := ⟨gb233, _, none⟩) (by first | exact Kd.own_blk (Kd.V_away HO_0.out (fun _ hk => hk.2) (by first | omega | (have h_ := of_eq_true q232; have g_ := of_eq_true p232; omega))) | (rw [add_block]; exact Kd.own_blk (Kd.V_away HO_0.out (fun _ hk => hk.2) (by first | omega | (have h_ := of_eq_true q232; have g_ := of_eq_true p232; omega)))) | (show (Addr.add _ _).block ≠ _; rw [add_block]; exact Kd.own_blk (Kd.V_away HO_0.out (fun _ hk => hk.2) (by first | omega | (have h_ := of_eq_true q232; have g_ := of_eq_true p232; omega)))) | (dsimp only; exact Kd.own_blk (Kd.V_away HO_0.out (fun _ hk => hk.2) (by first | omega | (have h_ := of_eq_true q232; have g_ := of_eq_true p232; omega))))) _).trans (((cell_far (p := ⟨gb233, _, none⟩) (by first | exact Kd.own_blk (Kd.V_away HO_0.out (fun _ hk => hk.2) (by first | omega | (have h_ := of_eq_true q232; have g_ := of_eq_true p232; omega))) | (rw [add_block]; exact Kd.own_blk (Kd.V_away HO_0.out (fun _ hk => hk.2) (by first | omega | (have h_ := of_eq_true q232; have g_ := of_eq_true p232; omega)))) | (show (Addr.add _ _).block ≠ _; rw [add_block]; exact Kd.own_blk (Kd.V_away HO_0.out (fun _ hk => hk.2) (by first | omega | (have h_ := of_eq_true q232; have g_ := of_eq_true p232; omega)))) | (dsimp only; exact Kd.own_blk (Kd.V_away HO_0.out (fun _ hk => hk.2) (by first | omega | (have h_ := of_eq_true q232; have g_ := of_eq_true p232; omega))))) _).trans (((cell_far (p := ⟨gb233, _, none⟩) (by first | exact Kd.own_blk (Kd.V_away HO_0.out (fun _ hk => hk.2) (by first | omega | (have h_ := of_eq_true q232; have g_ := of_eq_true p232; omega))) | (rw [add_block]; exact Kd.own_blk (Kd.V_away HO_0.out (fun _ hk => hk.2) (by first | omega | (have h_ := of_eq_true q232; have g_ := of_eq_true p232; omega)))) | (show (Addr.add _ _).block ≠ _; rw [add_block]; exact Kd.own_blk (Kd.V_away HO_0.out (fun _ hk => hk.2) (by first | omega | (have h_ := of_eq_true q232; have g_ := of_eq_true p232; omega)))) | (dsimp only; exact Kd.own_blk (Kd.V_away HO_0.out (fun _ hk => hk.2) (by first | omega | (have h_ := of_eq_true q232; have g_ := of_eq_true p232; omega))))) _).trans (hHeld.2.2.2.2.2.2.2.2))))))⟩ (fun hHeld => ?_)
               clear hK K
               refine done_ (done_of HT_.out (by kernel_rfl)) ?_
               have hcz30_0 : w26.cell? ⟨gb233, 0, none⟩ = some (.string (⟨#[]⟩ : ByteArray)) := (blk_cell BK233.out 0).trans rfl
               have hcz30_1 : w26.cell? ⟨gb233, 1, none⟩ = some (.bool false) := (blk_cell BK233.out 1).trans rfl
               have hcz30_2 : w26.cell? ⟨gb233, 2, none⟩ = some (.slice none 0 0) := (blk_cell BK233.out 2).trans rfl
               have hfz30_0 := blk_frozen BK233.out 0
               have hfz30_1 := blk_frozen BK233.out 1
               have hfz30_2 := blk_frozen BK233.out 2
               try go_wp2
               have n0_ : Aside0 (Kd.V k38 38 (((w26.setCell ⟨gb233, 0, none⟩ (.string ((⟨#[107]⟩ : ByteArray) ++ (((rd_T38 l0 x4_1).f0).extract 0 ((ji7) : Int).toNat)))).setCell ⟨gb233, 1, none⟩ (.bool false)).setCell ⟨gb233, 2, none⟩ (.slice none 0 0)) w.heap.size (fun k_ => (P0_ k_ ∨ w.heap.size ≤ k_) ∧ some k_ ≠ (u3 : Value).ownBlock ∧ k_ ≠ gb233) (.slice (some ad230) l0.length c0) l0) := ⟨by (with_reducible repeat (first | apply Kd.V_alloc | apply Kd.V_drewN | apply Kd.V_drew)); exact Kd.V_mono (Kd.V_far (p := ⟨gb233, 2, none⟩) (Kd.V_far (p := ⟨gb233, 1, none⟩) (Kd.V_far (p := ⟨gb233, 0, none⟩) (Kd.V_mono HO_0.out (fun k_ hk => (⟨hk, hk.2⟩ : _ ∧ k_ ≠ gb233))) (fun _ hk => hk.2) (.string ((⟨#[107]⟩ : ByteArray) ++ (((rd_T38 l0 x4_1).f0).extract 0 ((ji7) : Int).toNat)))) (fun _ hk => hk.2) (.bool false)) (fun _ hk => hk.2) (.slice none 0 0)) (fun _ hk => ⟨hk.1.1.1, ⟨hk.1.1.2, hk.1.2⟩⟩)⟩
               have n1_ : Aside0 (Kd.N k38 38 (((w26.setCell ⟨gb233, 0, none⟩ (.string ((⟨#[107]⟩ : ByteArray) ++ (((rd_T38 l0 x4_1).f0).extract 0 ((ji7) : Int).toNat)))).setCell ⟨gb233, 1, none⟩ (.bool false)).setCell ⟨gb233, 2, none⟩ (.slice none 0 0)) w.heap.size (fun k_ => (P0_ k_ ∨ w.heap.size ≤ k_) ∧ k_ ≠ gb233) u3 x3_1) := ⟨by (with_reducible repeat (first | apply Kd.N_alloc | apply Kd.N_drewN | apply Kd.N_drew)); exact Kd.N_mono (Kd.N_far (p := ⟨gb233, 2, none⟩) (Kd.N_far (p := ⟨gb233, 1, none⟩) (Kd.N_far (p := ⟨gb233, 0, none⟩) (Kd.N_mono HO_3.out (fun k_ hk => (⟨hk, hk.2⟩ : _ ∧ k_ ≠ gb233))) (fun _ hk => hk.2) (.string ((⟨#[107]⟩ : ByteArray) ++ (((rd_T38 l0 x4_1).f0).extract 0 ((ji7) : Int).toNat)))) (fun _ hk => hk.2) (.bool false)) (fun _ hk => hk.2) (.slice none 0 0)) (fun _ hk => ⟨hk.1.1, hk.1.2⟩)⟩
               have n2_ : Aside0 (Kd.V (Kd.int .u8) 5 (((w26.setCell ⟨gb233, 0, none⟩ (.string ((⟨#[107]⟩ : ByteArray) ++ (((rd_T38 l0 x4_1).f0).extract 0 ((ji7) : Int).toNat)))).setCell ⟨gb233, 1, none⟩ (.bool false)).setCell ⟨gb233, 2, none⟩ (.slice none 0 0)) w.heap.size (fun k_ => (P0_ k_ ∨ w.heap.size ≤ k_) ∧ some k_ ≠ (u3 : Value).ownBlock ∧ k_ ≠ gb233) (.slice A230_2 ((rd_T38 l0 x4_1).f2).length c230_2) ((rd_T38 l0 x4_1).f2)) := ⟨by (with_reducible repeat (first | apply Kd.V_alloc | apply Kd.V_drewN | apply Kd.V_drew)); exact Kd.V_mono (Kd.V_far (p := ⟨gb233, 2, none⟩) (Kd.V_far (p := ⟨gb233, 1, none⟩) (Kd.V_far (p := ⟨gb233, 0, none⟩) (Kd.V_mono HL230_2.out (fun k_ hk => (⟨hk, hk.2⟩ : _ ∧ k_ ≠ gb233))) (fun _ hk => hk.2) (.string ((⟨#[107]⟩ : ByteArray) ++ (((rd_T38 l0 x4_1).f0).extract 0 ((ji7) : Int).toNat)))) (fun _ hk => hk.2) (.bool false)) (fun _ hk => hk.2) (.slice none 0 0)) (fun _ hk => ⟨hk.1.1.1, ⟨hk.1.1.2, hk.1.2⟩⟩)⟩
               have n3_ : Aside0 (Kd.V (Kd.int .u8) 5 (((w26.setCell ⟨gb233, 0, none⟩ (.string ((⟨#[107]⟩ : ByteArray) ++ (((rd_T38 l0 x4_1).f0).extract 0 ((ji7) : Int).toNat)))).setCell ⟨gb233, 1, none⟩ (.bool false)).setCell ⟨gb233, 2, none⟩ (.slice none 0 0)) w.heap.size (fun k_ => (P0_ k_ ∨ w.heap.size ≤ k_) ∧ some k_ ≠ (u3 : Value).ownBlock ∧ k_ ≠ gb233) (.slice A230_2 ((rd_T38 l0 x4_1).f2).length c230_2) ((rd_T38 l0 x4_1).f2)) := ⟨by (with_reducible repeat (first | apply Kd.V_alloc | apply Kd.V_drewN | apply Kd.V_drew)); exact Kd.V_mono (Kd.V_far (p := ⟨gb233, 2, none⟩) (Kd.V_far (p := ⟨gb233, 1, none⟩) (Kd.V_far (p := ⟨gb233, 0, none⟩) (Kd.V_mono HL231_2.out (fun k_ hk => (⟨hk, hk.2⟩ : _ ∧ k_ ≠ gb233))) (fun _ hk => hk.2) (.string ((⟨#[107]⟩ : ByteArray) ++ (((rd_T38 l0 x4_1).f0).extract 0 ((ji7) : Int).toNat)))) (fun _ hk => hk.2) (.bool false)) (fun _ hk => hk.2) (.slice none 0 0)) (fun _ hk => ⟨hk.1.1.1, ⟨hk.1.1.2, hk.1.2⟩⟩)⟩
               have n4_ : Aside0 (Kd.V (Kd.int .u8) 5 (((w26.setCell ⟨gb233, 0, none⟩ (.string ((⟨#[107]⟩ : ByteArray) ++ (((rd_T38 l0 x4_1).f0).extract 0 ((ji7) : Int).toNat)))).setCell ⟨gb233, 1, none⟩ (.bool false)).setCell ⟨gb233, 2, none⟩ (.slice none 0 0)) w.heap.size (fun k_ => (P0_ k_ ∨ w.heap.size ≤ k_) ∧ some k_ ≠ (u3 : Value).ownBlock ∧ k_ ≠ gb233) (.slice A230_2 ((rd_T38 l0 x4_1).f2).length c230_2) ((rd_T38 l0 x4_1).f2)) := ⟨by (with_reducible repeat (first | apply Kd.V_alloc | apply Kd.V_drewN | apply Kd.V_drew)); exact Kd.V_mono (Kd.V_far (p := ⟨gb233, 2, none⟩) (Kd.V_far (p := ⟨gb233, 1, none⟩) (Kd.V_far (p := ⟨gb233, 0, none⟩) (Kd.V_mono HL232_2.out (fun k_ hk => (⟨hk, hk.2⟩ : _ ∧ k_ ≠ gb233))) (fun _ hk => hk.2) (.string ((⟨#[107]⟩ : ByteArray) ++ (((rd_T38 l0 x4_1).f0).extract 0 ((ji7) : Int).toNat)))) (fun _ hk => hk.2) (.bool false)) (fun _ hk => hk.2) (.slice none 0 0)) (fun _ hk => ⟨hk.1.1.1, ⟨hk.1.1.2, hk.1.2⟩⟩)⟩
               have n5_ : Aside0 ((((w26.setCell ⟨gb233, 0, none⟩ (.string ((⟨#[107]⟩ : ByteArray) ++ (((rd_T38 l0 x4_1).f0).extract 0 ((ji7) : Int).toNat)))).setCell ⟨gb233, 1, none⟩ (.bool false)).setCell ⟨gb233, 2, none⟩ (.slice none 0 0)).heap[gb233]? = some (.cells #[.string ((⟨#[107]⟩ : ByteArray) ++ (((rd_T38 l0 x4_1).f0).extract 0 ((ji7) : Int).toNat)), .bool false, .slice none 0 0] 38 (0, 0))) := ⟨by (with_reducible repeat (first | refine blk_drewN ?_ _ | refine blk_drew ?_ | refine blk_alloc ?_ _)); refine blk_put (cs := #[.string ((⟨#[107]⟩ : ByteArray) ++ (((rd_T38 l0 x4_1).f0).extract 0 ((ji7) : Int).toNat)), .bool false, .slice none 0 0]) ?_ 2 _ rfl; (with_reducible repeat (first | refine blk_drewN ?_ _ | refine blk_drew ?_ | refine blk_alloc ?_ _)); refine blk_put (cs := #[.string ((⟨#[107]⟩ : ByteArray) ++ (((rd_T38 l0 x4_1).f0).extract 0 ((ji7) : Int).toNat)), .bool false, .slice none 0 0]) ?_ 1 _ rfl; (with_reducible repeat (first | refine blk_drewN ?_ _ | refine blk_drew ?_ | refine blk_alloc ?_ _)); refine blk_put (cs := #[.string (⟨#[]⟩ : ByteArray), .bool false, .slice none 0 0]) ?_ 0 _ rfl; (with_reducible repeat (first | refine blk_drewN ?_ _ | refine blk_drew ?_ | refine blk_alloc ?_ _)); exact BK233.out⟩
               have n6_ : Aside0 (Below w.heap.size w (((w26.setCell ⟨gb233, 0, none⟩ (.string ((⟨#[107]⟩ : ByteArray) ++ (((rd_T38 l0 x4_1).f0).extract 0 ((ji7) : Int).toNat)))).setCell ⟨gb233, 1, none⟩ (.bool false)).setCell ⟨gb233, 2, none⟩ (.slice none 0 0))) := ⟨by repeat (first | (with_reducible first | exact HB.out | apply below_alloc | apply pw_below_drewN | apply below_drew1 | refine below_set ?_ GE233.out) | exact HB.out)⟩
               (try clear HO_0)
               (try clear HO_3)
               (try clear HL230_2)
               (try clear HL231_2)
               (try clear HL232_2)
               (try clear BK233)
               (try clear HB)
               generalize (((w26.setCell ⟨gb233, 0, none⟩ (.string ((⟨#[107]⟩ : ByteArray) ++ (((rd_T38 l0 x4_1).f0).extract 0 ((ji7) : Int).toNat)))).setCell ⟨gb233, 1, none⟩ (.bool false)).setCell ⟨gb233, 2, none⟩ (.slice none 0 0)) = w31 at n0_ n1_ n2_ n3_ n4_ n5_ n6_ ⊢
               have HO_0 := n0_
               have HO_3 := n1_
               have HL230_2 := n2_
               have HL231_2 := n3_
               have HL232_2 := n4_
               have BK233 := n5_
               have HB := n6_
               clear n0_ n1_ n2_ n3_ n4_ n5_ n6_
               have n0_ := Aside0.mk (Kd.V_drew HO_0.out)
               have n1_ := Aside0.mk (Kd.N_drew HO_3.out)
               have n2_ := Aside0.mk (Kd.V_drew HL230_2.out)
               have n3_ := Aside0.mk (Kd.V_drew HL231_2.out)
               have n4_ := Aside0.mk (Kd.V_drew HL232_2.out)
               have n5_ := Aside0.mk (blk_drew BK233.out)
               have n6_ := Aside0.mk (below_drew1 HB.out)
               clear HO_0
               clear HO_3
               clear HL230_2
               clear HL231_2
               clear HL232_2
               clear BK233
               clear HB
               have HO_0 := n0_
               have HO_3 := n1_
               have HL230_2 := n2_
               have HL231_2 := n3_
               have HL232_2 := n4_
               have BK233 := n5_
               have HB := n6_
               clear n0_ n1_ n2_ n3_ n4_ n5_ n6_
               have p237 : 0 ≤ (x4_1 : Int) := of_decide_eq_true (by first | (with_reducible assumption) | assumption)
               have q237 : x4_1 < (l0.length : Int) := of_decide_eq_true (by first | (with_reducible assumption) | assumption)
               obtain ⟨ad237, A237_2, c237_2, e237, hx237_0, hx237_1, hx237_2, hl237_2, hi237_2⟩ := at_T38 (Kd.V_reads' HO_0.out).2.2 x4_1 p237 q237
               (try rw [← Nbq11.out] at hx237_1)
               obtain rfl : ad230 = ad237 := (by injection e237)
               obtain ⟨ce237, hce237, hMe237, hcc237⟩ := Kd.V_get HO_0.out z38 x4_1 p237 (by first | exact q237 | exact of_decide_eq_true (by first | (with_reducible assumption) | assumption) | (have e_ := (Kd.V_reads' HO_0.out).1; omega))
               obtain ⟨ua237_2, uc237_2, rfl, ul237_2, ge237_2⟩ := k38_openF hMe237
               have hv237_2 := hcc237 2 _ rfl
               rw [add_field _ _ 2 (by omega)] at hv237_2
               replace hv237_2 := Option.some.inj (hv237_2.symm.trans hx237_2)
               injection hv237_2 with hva_ hvn_ hvc_
               rw [hva_] at ge237_2
               rw [hvc_] at ul237_2
               have HL237_2 := Aside0.mk (show Kd.V (Kd.int .u8) 5 _ w.heap.size _ _ ((rd_T38 l0 x4_1).f2) from Kd.V_mk ul237_2 ge237_2)
               clear hva_ hvn_ hvc_ ge237_2 ul237_2
               clear hcc237 hce237
               have HR237_2 := Aside0.mk hi237_2
               have HC237_2 := Aside0.mk hl237_2
               clear hi237_2 hl237_2
               replace p237 := eq_true p237
               replace q237 := eq_true q237
               have p238 : 0 ≤ (x4_1 : Int) := of_decide_eq_true (by first | (with_reducible assumption) | assumption)
               have q238 : x4_1 < (l0.length : Int) := of_decide_eq_true (by first | (with_reducible assumption) | assumption)
               obtain ⟨ad238, A238_2, c238_2, e238, hx238_0, hx238_1, hx238_2, hl238_2, hi238_2⟩ := at_T38 (Kd.V_reads' HO_0.out).2.2 x4_1 p238 q238
               (try rw [← Nbq11.out] at hx238_1)
               obtain rfl : ad230 = ad238 := (by injection e238)
               obtain ⟨ce238, hce238, hMe238, hcc238⟩ := Kd.V_get HO_0.out z38 x4_1 p238 (by first | exact q238 | exact of_decide_eq_true (by first | (with_reducible assumption) | assumption) | (have e_ := (Kd.V_reads' HO_0.out).1; omega))
               obtain ⟨ua238_2, uc238_2, rfl, ul238_2, ge238_2⟩ := k38_openF hMe238
               have hv238_2 := hcc238 2 _ rfl
               rw [add_field _ _ 2 (by omega)] at hv238_2
               replace hv238_2 := Option.some.inj (hv238_2.symm.trans hx238_2)
               injection hv238_2 with hva_ hvn_ hvc_
               rw [hva_] at ge238_2
               rw [hvc_] at ul238_2
               have HL238_2 := Aside0.mk (show Kd.V (Kd.int .u8) 5 _ w.heap.size _ _ ((rd_T38 l0 x4_1).f2) from Kd.V_mk ul238_2 ge238_2)
               clear hva_ hvn_ hvc_ ge238_2 ul238_2
               clear hcc238 hce238
               have HR238_2 := Aside0.mk hi238_2
               have HC238_2 := Aside0.mk hl238_2
               clear hi238_2 hl238_2
               replace p238 := eq_true p238
               replace q238 := eq_true q238
               have ea_ := Option.some.inj (hx237_2.symm.trans hx238_2)
               injection ea_ with ea_ en_ ec_
               subst ea_
               subst ec_
               clear en_
               have q33 : ((ji21) : Int) ≤ ((((rd_T38 l0 x4_1).f2).length : Int) : Int) := of_decide_eq_true (by first | (with_reducible assumption) | assumption)
               obtain ⟨i033, hi033, _, hsz33, _⟩ := info_parts info5
               have hroom33 : ((rd_T38 l0 x4_1).f2).length ≤ c237_2 := HC237_2.out
               have hC33 : Kd.F (Kd.int .u8) _ _ A237_2 ((rd_T38 l0 x4_1).f2).length ((rd_T38 l0 x4_1).f2) := (Kd.V_at (base := w.heap.size) HL237_2.out).2.2
               have hcut33 := cut_to (P := Try.prog) 26 5 .i64 Try.underlying26 hi033 A237_2 ((rd_T38 l0 x4_1).f2).length c237_2 (ji21) (of_decide_eq_true (by first | (with_reducible assumption) | assumption)) q33 hroom33
               have hr33 := Kd.F_take (m := ((ji21) : Int).toNat) hC33 (by omega)
               have hy33 : y239.length = ((ji21) : Int).toNat := (by rw [Ny239.out, List.length_take]; omega)
               rw [← Ny239.out] at hr33
               rw [← hy33] at hcut33
               have HO243 := Aside0.mk (show Kd.V (Kd.int .u8) 5 _ w.heap.size _ (.slice A237_2 y239.length c237_2) y239 from Kd.V_mk (by omega) hr33)
               have HC243 := Aside0.mk (show y239.length ≤ c237_2 from by omega)
               clear hr33 hC33 hroom33 hi033 hsz33
               have KY33 := Aside0.mk hy33
               clear hy33
               replace q33 := eq_true q33
               refine start_ (n := 15) (S := fun w' => w'.cell? (ad230.add ((x4_1).toNat * 3)) = some (.string ((rd_T38 l0 x4_1).f0)) ∧ w'.cell? ⟨(ad230.add ((x4_1).toNat * 3)).block, (ad230.add ((x4_1).toNat * 3)).off + 1, none⟩ = some (.bool (false)) ∧ w'.cell? ⟨(ad230.add ((x4_1).toNat * 3)).block, (ad230.add ((x4_1).toNat * 3)).off + 2, none⟩ = some (.slice A237_2 ((rd_T38 l0 x4_1).f2).length c237_2) ∧ w'.cell? (ad230.add ((x4_1).toNat * 3)) = some (.string ((rd_T38 l0 x4_1).f0)) ∧ w'.cell? ⟨(ad230.add ((x4_1).toNat * 3)).block, (ad230.add ((x4_1).toNat * 3)).off + 1, none⟩ = some (.bool (false)) ∧ w'.cell? ⟨(ad230.add ((x4_1).toNat * 3)).block, (ad230.add ((x4_1).toNat * 3)).off + 2, none⟩ = some (.slice A237_2 ((rd_T38 l0 x4_1).f2).length c237_2)) (ds := []) #[false, false, false, false, false, false, false, false, false, false, false, false, false, false, false] (by kernel_rfl) rfl rfl ⟨hx237_0, hx237_1, hx237_2, hx238_0, hx238_1, hx238_2⟩ (fun hHeld => ?_); refine with_tabW waybilllaw13_Tame.tab7 waybilllaw13_Tame.bits7 (fun HT_ HW_ => ?_)
               generalize w31.drew = w32 at HO_0 HO_3 HL230_2 HL231_2 HL232_2 BK233 HB HL237_2 HL238_2 HO243 HR237_2 HR238_2 hx237_0 hx237_1 hx237_2 hx238_0 hx238_1 hx238_2 hHeld ⊢
               refine pure_ (i := 0) (N := some 39) (v := ?_) (a' := ?_) #[true, false, false, false, false, false, false, false, false, false, false, false, false, false, false] rfl rfl (any_of HT_.out (by kernel_rfl)) (fun _ _ _ h => h) (Or.inl ⟨by rfl, ?_⟩) ?_ ?_
               rotate_left
               ·
                intro w'
                go_simp
                with_reducible rfl
               rotate_left
               ·
                simp only [Act.put, List.setIfInBounds_toArray, List.set_cons_zero, List.set_cons_succ, i64_w, i32_w]
                rfl
               refine pure_ (i := 1) (N := some 40) (v := ?_) (a' := ?_) #[true, true, false, false, false, false, false, false, false, false, false, false, false, false, false] rfl rfl (any_of HT_.out (by kernel_rfl)) (fun _ _ _ h => h) (Or.inl ⟨by rfl, ?_⟩) ?_ ?_
               rotate_left
               ·
                intro w'
                go_simp
                with_reducible rfl
               rotate_left
               ·
                simp only [Act.put, List.setIfInBounds_toArray, List.set_cons_zero, List.set_cons_succ, i64_w, i32_w]
                rfl
               refine pure_ (i := 2) (N := some 41) (v := ?_) (a' := ?_) #[true, true, true, false, false, false, false, false, false, false, false, false, false, false, false] rfl rfl (any_of HT_.out (by kernel_rfl)) (fun _ _ _ h => h) (Or.inl ⟨by rfl, ?_⟩) ?_ ?_
               rotate_left
               ·
                intro w'
                go_simp
                with_reducible rfl
               rotate_left
               ·
                simp only [Act.put, List.setIfInBounds_toArray, List.set_cons_zero, List.set_cons_succ, i64_w, i32_w]
                rfl
               refine pure_ (i := 3) (N := some 42) (v := ?_) (a' := ?_) #[true, true, true, true, false, false, false, false, false, false, false, false, false, false, false] rfl rfl (any_of HT_.out (by kernel_rfl)) (fun _ _ _ h => h) (Or.inl ⟨by rfl, ?_⟩) ?_ ?_
               rotate_left
               ·
                intro w'
                go_simp
                with_reducible rfl
               rotate_left
               ·
                simp only [Act.put, List.setIfInBounds_toArray, List.set_cons_zero, List.set_cons_succ, i64_w, i32_w]
                rfl
               refine pure_ (i := 5) (N := some 44) (v := ?_) (a' := ?_) #[true, true, true, true, false, true, false, false, false, false, false, false, false, false, false] rfl rfl (any_of HT_.out (by kernel_rfl)) (fun _ _ _ h => h) (Or.inl ⟨by rfl, ?_⟩) ?_ ?_
               rotate_left
               ·
                intro w'
                go_simp
                with_reducible rfl
               rotate_left
               ·
                simp only [Act.put, List.setIfInBounds_toArray, List.set_cons_zero, List.set_cons_succ, i64_w, i32_w]
                rfl
               refine pure_ (i := 6) (N := some 45) (v := ?_) (a' := ?_) #[true, true, true, true, false, true, true, false, false, false, false, false, false, false, false] rfl rfl (any_of HT_.out (by kernel_rfl)) (fun _ _ _ h => h) (Or.inl ⟨by rfl, ?_⟩) ?_ ?_
               rotate_left
               ·
                intro w'
                go_simp
                with_reducible rfl
               rotate_left
               ·
                simp only [Act.put, List.setIfInBounds_toArray, List.set_cons_zero, List.set_cons_succ, i64_w, i32_w]
                rfl
               refine pure_ (i := 7) (N := some 46) (v := ?_) (a' := ?_) #[true, true, true, true, false, true, true, true, false, false, false, false, false, false, false] rfl rfl (any_of HT_.out (by kernel_rfl)) (fun _ _ _ h => h) (Or.inl ⟨by rfl, ?_⟩) ?_ ?_
               rotate_left
               ·
                intro w'
                go_simp
                with_reducible rfl
               rotate_left
               ·
                simp only [Act.put, List.setIfInBounds_toArray, List.set_cons_zero, List.set_cons_succ, i64_w, i32_w]
                rfl
               refine pure_ (i := 8) (N := some 47) (v := ?_) (a' := ?_) #[true, true, true, true, false, true, true, true, true, false, false, false, false, false, false] rfl rfl (any_of HT_.out (by kernel_rfl)) (fun _ _ _ h => h) (Or.inl ⟨by rfl, ?_⟩) ?_ ?_
               rotate_left
               ·
                intro w'
                go_simp
                with_reducible rfl
               rotate_left
               ·
                simp only [Act.put, List.setIfInBounds_toArray, List.set_cons_zero, List.set_cons_succ, i64_w, i32_w]
                rfl
               refine take_ (i := 4) (N := some 43) (v := ?_) (a' := ?_) #[true, true, true, true, true, true, true, true, true, false, false, false, false, false, false] rfl rfl (take_ofW HT_.out HW_.out (by kernel_rfl)) (fun _ _ _ h => h) (Or.inl ⟨by rfl, ?_⟩) hHeld ?_ ?_
               rotate_left
               ·
                rintro w' ⟨s0, s1, s2, s3, s4, s5⟩
                go_simp
                with_reducible rfl
               rotate_left
               ·
                simp only [Act.put, List.setIfInBounds_toArray, List.set_cons_zero, List.set_cons_succ, i64_w, i32_w]
                rfl
               refine take_ (i := 9) (N := some 48) (v := ?_) (a' := ?_) #[true, true, true, true, true, true, true, true, true, true, false, false, false, false, false] rfl rfl (take_ofW HT_.out HW_.out (by kernel_rfl)) (fun _ _ _ h => h) (Or.inl ⟨by rfl, ?_⟩) hHeld ?_ ?_
               rotate_left
               ·
                rintro w' ⟨s0, s1, s2, s3, s4, s5⟩
                go_simp
                with_reducible rfl
               rotate_left
               ·
                simp only [Act.put, List.setIfInBounds_toArray, List.set_cons_zero, List.set_cons_succ, i64_w, i32_w]
                rfl
               refine pure_ (i := 10) (N := some 49) (v := ?_) (a' := ?_) #[true, true, true, true, true, true, true, true, true, true, true, false, false, false, false] rfl rfl (any_of HT_.out (by kernel_rfl)) (fun _ _ _ h => h) (Or.inl ⟨by rfl, ?_⟩) ?_ ?_
               rotate_left
               ·
                intro w'
                go_simp
                with_reducible rfl
               rotate_left
               ·
                simp only [Act.put, List.setIfInBounds_toArray, List.set_cons_zero, List.set_cons_succ, i64_w, i32_w]
                rfl
               refine pure_ (i := 11) (N := some 50) (v := ?_) (a' := ?_) #[true, true, true, true, true, true, true, true, true, true, true, true, false, false, false] rfl rfl (any_of HT_.out (by kernel_rfl)) (fun _ _ _ h => h) (Or.inl ⟨by rfl, ?_⟩) ?_ ?_
               rotate_left
               ·
                intro w'
                go_simp
                with_reducible rfl
               rotate_left
               ·
                simp only [Act.put, List.setIfInBounds_toArray, List.set_cons_zero, List.set_cons_succ, i64_w, i32_w]
                rfl
               refine pure_ (i := 12) (N := some 51) (v := ?_) (a' := ?_) #[true, true, true, true, true, true, true, true, true, true, true, true, true, false, false] rfl rfl (any_of HT_.out (by kernel_rfl)) (fun _ _ _ h => h) (Or.inl ⟨by rfl, ?_⟩) ?_ ?_
               rotate_left
               ·
                intro w'
                go_simp
                with_reducible rfl
               rotate_left
               ·
                simp only [Act.put, List.setIfInBounds_toArray, List.set_cons_zero, List.set_cons_succ, i64_w, i32_w]
                rfl
               refine pure_ (i := 13) (N := some 52) (v := ?_) (a' := ?_) #[true, true, true, true, true, true, true, true, true, true, true, true, true, true, false] rfl rfl (any_of HT_.out (by kernel_rfl)) (fun _ _ _ h => h) (Or.inl ⟨by rfl, ?_⟩) ?_ ?_
               rotate_left
               ·
                intro w'
                go_simp
                with_reducible rfl
               rotate_left
               ·
                simp only [Act.put, List.setIfInBounds_toArray, List.set_cons_zero, List.set_cons_succ, i64_w, i32_w]
                rfl
               refine one_ (i := 14) (N := none) #[true, true, true, true, true, true, true, true, true, true, true, true, true, true, true] rfl rfl (one_of HT_.out (by kernel_rfl)) (by decide) (fun K hK => ?_)
               have hs34 : w32.cell? ⟨gb233, 2, none⟩ = some (.slice none 0 0) := (blk_cell BK233.out 2).trans rfl
               have hfs34 := blk_frozen BK233.out 2
               refine skip_ (w1 := ?_) (by rfl) rfl ?_ ?_
               rotate_left
               ·
                go_simp
                rfl
               refine hK.out _ _ ⟨((cell_far (p := ⟨gb233, _, none⟩) (by first | exact Kd.own_blk (Kd.V_away HO_0.out (fun _ hk => hk.2.2) (by first | omega | (have h_ := of_eq_true q237; have g_ := of_eq_true p237; omega))) | (rw [add_block]; exact Kd.own_blk (Kd.V_away HO_0.out (fun _ hk => hk.2.2) (by first | omega | (have h_ := of_eq_true q237; have g_ := of_eq_true p237; omega)))) | (show (Addr.add _ _).block ≠ _; rw [add_block]; exact Kd.own_blk (Kd.V_away HO_0.out (fun _ hk => hk.2.2) (by first | omega | (have h_ := of_eq_true q237; have g_ := of_eq_true p237; omega)))) | (dsimp only; exact Kd.own_blk (Kd.V_away HO_0.out (fun _ hk => hk.2.2) (by first | omega | (have h_ := of_eq_true q237; have g_ := of_eq_true p237; omega))))) _).trans (hHeld.1)), ((cell_far (p := ⟨gb233, _, none⟩) (by first | exact Kd.own_blk (Kd.V_away HO_0.out (fun _ hk => hk.2.2) (by first | omega | (have h_ := of_eq_true q237; have g_ := of_eq_true p237; omega))) | (rw [add_block]; exact Kd.own_blk (Kd.V_away HO_0.out (fun _ hk => hk.2.2) (by first | omega | (have h_ := of_eq_true q237; have g_ := of_eq_true p237; omega)))) | (show (Addr.add _ _).block ≠ _; rw [add_block]; exact Kd.own_blk (Kd.V_away HO_0.out (fun _ hk => hk.2.2) (by first | omega | (have h_ := of_eq_true q237; have g_ := of_eq_true p237; omega)))) | (dsimp only; exact Kd.own_blk (Kd.V_away HO_0.out (fun _ hk => hk.2.2) (by first | omega | (have h_ := of_eq_true q237; have g_ := of_eq_true p237; omega))))) _).trans (hHeld.2.1)), ((cell_far (p := ⟨gb233, _, none⟩) (by first | exact Kd.own_blk (Kd.V_away HO_0.out (fun _ hk => hk.2.2) (by first | omega | (have h_ := of_eq_true q237; have g_ := of_eq_true p237; omega))) | (rw [add_block]; exact Kd.own_blk (Kd.V_away HO_0.out (fun _ hk => hk.2.2) (by first | omega | (have h_ := of_eq_true q237; have g_ := of_eq_true p237; omega)))) | (show (Addr.add _ _).block ≠ _; rw [add_block]; exact Kd.own_blk (Kd.V_away HO_0.out (fun _ hk => hk.2.2) (by first | omega | (have h_ := of_eq_true q237; have g_ := of_eq_true p237; omega)))) | (dsimp only; exact Kd.own_blk (Kd.V_away HO_0.out (fun _ hk => hk.2.2) (by first | omega | (have h_ := of_eq_true q237; have g_ := of_eq_true p237; omega))))) _).trans (hHeld.2.2.1)), ((cell_far (p := ⟨gb233, _, none⟩) (by first | exact Kd.own_blk (Kd.V_away HO_0.out (fun _ hk => hk.2.2) (by first | omega | (have h_ := of_eq_true q238; have g_ := of_eq_true p238; omega))) | (rw [add_block]; exact Kd.own_blk (Kd.V_away HO_0.out (fun _ hk => hk.2.2) (by first | omega | (have h_ := of_eq_true q238; have g_ := of_eq_true p238; omega)))) | (show (Addr.add _ _).block ≠ _; rw [add_block]; exact Kd.own_blk (Kd.V_away HO_0.out (fun _ hk => hk.2.2) (by first | omega | (have h_ := of_eq_true q238; have g_ := of_eq_true p238; omega)))) | (dsimp only; exact Kd.own_blk (Kd.V_away HO_0.out (fun _ hk => hk.2.2) (by first | omega | (have h_ := of_eq_true q238; have g_ := of_eq_true p238; omega))))) _).trans (hHeld.2.2.2.1)), ((cell_far (p := ⟨gb233, _, none⟩) (by first | exact Kd.own_blk (Kd.V_away HO_0.out (fun _ hk => hk.2.2) (by first | omega | (have h_ := of_eq_true q238; have g_ := of_eq_true p238; omega))) | (rw [add_block]; exact Kd.own_blk (Kd.V_away HO_0.out (fun _ hk => hk.2.2) (by first | omega | (have h_ := of_eq_true q238; have g_ := of_eq_true p238; omega)))) | (show (Addr.add _ _).block ≠ _; rw [add_block]; exact Kd.own_blk (Kd.V_away HO_0.out (fun _ hk => hk.2.2) (by first | omega | (have h_ := of_eq_true q238; have g_ := of_eq_true p238; omega)))) | (dsimp only; exact Kd.own_blk (Kd.V_away HO_0.out (fun _ hk => hk.2.2) (by first | omega | (have h_ := of_eq_true q238; have g_ := of_eq_true p238; omega))))) _).trans (hHeld.2.2.2.2.1)), ((cell_far (p := ⟨gb233, _, none⟩) (by first | exact Kd.own_blk (Kd.V_away HO_0.out (fun _ hk => hk.2.2) (by first | omega | (have h_ := of_eq_true q238; have g_ := of_eq_true p238; omega))) | (rw [add_block]; exact Kd.own_blk (Kd.V_away HO_0.out (fun _ hk => hk.2.2) (by first | omega | (have h_ := of_eq_true q238; have g_ := of_eq_true p238; omega)))) | (show (Addr.add _ _).block ≠ _; rw [add_block]; exact Kd.own_blk (Kd.V_away HO_0.out (fun _ hk => hk.2.2) (by first | omega | (have h_ := of_eq_true q238; have g_ := of_eq_true p238; omega)))) | (dsimp only; exact Kd.own_blk (Kd.V_away HO_0.out (fun _ hk => hk.2.2) (by first | omega | (have h_ := of_eq_true q238; have g_ := of_eq_true p238; omega))))) _).trans (hHeld.2.2.2.2.2))⟩ (fun hHeld => ?_)
               clear hK K
               refine done_ (done_of HT_.out (by kernel_rfl)) ?_
               have n0_ : Aside0 (Kd.V k38 38 (w32.setCell ⟨gb233, 2, none⟩ (.slice A237_2 y239.length c237_2)) w.heap.size (fun k_ => (P0_ k_ ∨ w.heap.size ≤ k_) ∧ some k_ ≠ (u3 : Value).ownBlock ∧ k_ ≠ gb233) (.slice (some ad230) l0.length c0) l0) := ⟨by (with_reducible repeat (first | apply Kd.V_alloc | apply Kd.V_drewN | apply Kd.V_drew)); exact Kd.V_mono (Kd.V_far (p := ⟨gb233, 2, none⟩) (Kd.V_mono HO_0.out (fun k_ hk => (⟨hk, hk.2.2⟩ : _ ∧ k_ ≠ gb233))) (fun _ hk => hk.2) (.slice A237_2 y239.length c237_2)) (fun _ hk => ⟨hk.1.1, ⟨hk.1.2.1, hk.1.2.2⟩⟩)⟩
               have n1_ : Aside0 (Kd.N k38 38 (w32.setCell ⟨gb233, 2, none⟩ (.slice A237_2 y239.length c237_2)) w.heap.size (fun k_ => (P0_ k_ ∨ w.heap.size ≤ k_) ∧ k_ ≠ gb233) u3 x3_1) := ⟨by (with_reducible repeat (first | apply Kd.N_alloc | apply Kd.N_drewN | apply Kd.N_drew)); exact Kd.N_mono (Kd.N_far (p := ⟨gb233, 2, none⟩) (Kd.N_mono HO_3.out (fun k_ hk => (⟨hk, hk.2⟩ : _ ∧ k_ ≠ gb233))) (fun _ hk => hk.2) (.slice A237_2 y239.length c237_2)) (fun _ hk => ⟨hk.1.1, hk.1.2⟩)⟩
               have n2_ : Aside0 (Kd.V (Kd.int .u8) 5 (w32.setCell ⟨gb233, 2, none⟩ (.slice A237_2 y239.length c237_2)) w.heap.size (fun k_ => (P0_ k_ ∨ w.heap.size ≤ k_) ∧ some k_ ≠ (u3 : Value).ownBlock ∧ k_ ≠ gb233) (.slice A230_2 ((rd_T38 l0 x4_1).f2).length c230_2) ((rd_T38 l0 x4_1).f2)) := ⟨by (with_reducible repeat (first | apply Kd.V_alloc | apply Kd.V_drewN | apply Kd.V_drew)); exact Kd.V_mono (Kd.V_far (p := ⟨gb233, 2, none⟩) (Kd.V_mono HL230_2.out (fun k_ hk => (⟨hk, hk.2.2⟩ : _ ∧ k_ ≠ gb233))) (fun _ hk => hk.2) (.slice A237_2 y239.length c237_2)) (fun _ hk => ⟨hk.1.1, ⟨hk.1.2.1, hk.1.2.2⟩⟩)⟩
               have n3_ : Aside0 (Kd.V (Kd.int .u8) 5 (w32.setCell ⟨gb233, 2, none⟩ (.slice A237_2 y239.length c237_2)) w.heap.size (fun k_ => (P0_ k_ ∨ w.heap.size ≤ k_) ∧ some k_ ≠ (u3 : Value).ownBlock ∧ k_ ≠ gb233) (.slice A230_2 ((rd_T38 l0 x4_1).f2).length c230_2) ((rd_T38 l0 x4_1).f2)) := ⟨by (with_reducible repeat (first | apply Kd.V_alloc | apply Kd.V_drewN | apply Kd.V_drew)); exact Kd.V_mono (Kd.V_far (p := ⟨gb233, 2, none⟩) (Kd.V_mono HL231_2.out (fun k_ hk => (⟨hk, hk.2.2⟩ : _ ∧ k_ ≠ gb233))) (fun _ hk => hk.2) (.slice A237_2 y239.length c237_2)) (fun _ hk => ⟨hk.1.1, ⟨hk.1.2.1, hk.1.2.2⟩⟩)⟩
               have n4_ : Aside0 (Kd.V (Kd.int .u8) 5 (w32.setCell ⟨gb233, 2, none⟩ (.slice A237_2 y239.length c237_2)) w.heap.size (fun k_ => (P0_ k_ ∨ w.heap.size ≤ k_) ∧ some k_ ≠ (u3 : Value).ownBlock ∧ k_ ≠ gb233) (.slice A230_2 ((rd_T38 l0 x4_1).f2).length c230_2) ((rd_T38 l0 x4_1).f2)) := ⟨by (with_reducible repeat (first | apply Kd.V_alloc | apply Kd.V_drewN | apply Kd.V_drew)); exact Kd.V_mono (Kd.V_far (p := ⟨gb233, 2, none⟩) (Kd.V_mono HL232_2.out (fun k_ hk => (⟨hk, hk.2.2⟩ : _ ∧ k_ ≠ gb233))) (fun _ hk => hk.2) (.slice A237_2 y239.length c237_2)) (fun _ hk => ⟨hk.1.1, ⟨hk.1.2.1, hk.1.2.2⟩⟩)⟩
               have n5_ : Aside0 (Kd.V (Kd.int .u8) 5 (w32.setCell ⟨gb233, 2, none⟩ (.slice A237_2 y239.length c237_2)) w.heap.size (fun k_ => (P0_ k_ ∨ w.heap.size ≤ k_) ∧ some k_ ≠ (u3 : Value).ownBlock ∧ k_ ≠ gb233) (.slice A237_2 ((rd_T38 l0 x4_1).f2).length c237_2) ((rd_T38 l0 x4_1).f2)) := ⟨by (with_reducible repeat (first | apply Kd.V_alloc | apply Kd.V_drewN | apply Kd.V_drew)); exact Kd.V_mono (Kd.V_far (p := ⟨gb233, 2, none⟩) (Kd.V_mono HL237_2.out (fun k_ hk => (⟨hk, hk.2.2⟩ : _ ∧ k_ ≠ gb233))) (fun _ hk => hk.2) (.slice A237_2 y239.length c237_2)) (fun _ hk => ⟨hk.1.1, ⟨hk.1.2.1, hk.1.2.2⟩⟩)⟩
               have n6_ : Aside0 (Kd.V (Kd.int .u8) 5 (w32.setCell ⟨gb233, 2, none⟩ (.slice A237_2 y239.length c237_2)) w.heap.size (fun k_ => (P0_ k_ ∨ w.heap.size ≤ k_) ∧ some k_ ≠ (u3 : Value).ownBlock ∧ k_ ≠ gb233) (.slice A237_2 ((rd_T38 l0 x4_1).f2).length c237_2) ((rd_T38 l0 x4_1).f2)) := ⟨by (with_reducible repeat (first | apply Kd.V_alloc | apply Kd.V_drewN | apply Kd.V_drew)); exact Kd.V_mono (Kd.V_far (p := ⟨gb233, 2, none⟩) (Kd.V_mono HL238_2.out (fun k_ hk => (⟨hk, hk.2.2⟩ : _ ∧ k_ ≠ gb233))) (fun _ hk => hk.2) (.slice A237_2 y239.length c237_2)) (fun _ hk => ⟨hk.1.1, ⟨hk.1.2.1, hk.1.2.2⟩⟩)⟩
               have n7_ : Aside0 (Kd.V (Kd.int .u8) 5 (w32.setCell ⟨gb233, 2, none⟩ (.slice A237_2 y239.length c237_2)) w.heap.size (fun k_ => (P0_ k_ ∨ w.heap.size ≤ k_) ∧ some k_ ≠ (u3 : Value).ownBlock ∧ k_ ≠ gb233) (.slice A237_2 y239.length c237_2) y239) := ⟨by (with_reducible repeat (first | apply Kd.V_alloc | apply Kd.V_drewN | apply Kd.V_drew)); exact Kd.V_mono (Kd.V_far (p := ⟨gb233, 2, none⟩) (Kd.V_mono HO243.out (fun k_ hk => (⟨hk, hk.2.2⟩ : _ ∧ k_ ≠ gb233))) (fun _ hk => hk.2) (.slice A237_2 y239.length c237_2)) (fun _ hk => ⟨hk.1.1, ⟨hk.1.2.1, hk.1.2.2⟩⟩)⟩
               have n8_ : Aside0 ((w32.setCell ⟨gb233, 2, none⟩ (.slice A237_2 y239.length c237_2)).heap[gb233]? = some (.cells #[.string ((⟨#[107]⟩ : ByteArray) ++ (((rd_T38 l0 x4_1).f0).extract 0 ((ji7) : Int).toNat)), .bool false, .slice A237_2 y239.length c237_2] 38 (0, 0))) := ⟨by (with_reducible repeat (first | refine blk_drewN ?_ _ | refine blk_drew ?_ | refine blk_alloc ?_ _)); refine blk_put (cs := #[.string ((⟨#[107]⟩ : ByteArray) ++ (((rd_T38 l0 x4_1).f0).extract 0 ((ji7) : Int).toNat)), .bool false, .slice none 0 0]) ?_ 2 _ rfl; (with_reducible repeat (first | refine blk_drewN ?_ _ | refine blk_drew ?_ | refine blk_alloc ?_ _)); exact BK233.out⟩
               have n9_ : Aside0 (Below w.heap.size w (w32.setCell ⟨gb233, 2, none⟩ (.slice A237_2 y239.length c237_2))) := ⟨by repeat (first | (with_reducible first | exact HB.out | apply below_alloc | apply pw_below_drewN | apply below_drew1 | refine below_set ?_ GE233.out) | exact HB.out)⟩
               (try clear HO_0)
               (try clear HO_3)
               (try clear HL230_2)
               (try clear HL231_2)
               (try clear HL232_2)
               (try clear HL237_2)
               (try clear HL238_2)
               (try clear HO243)
               (try clear BK233)
               (try clear HB)
               generalize (w32.setCell ⟨gb233, 2, none⟩ (.slice A237_2 y239.length c237_2)) = w35 at n0_ n1_ n2_ n3_ n4_ n5_ n6_ n7_ n8_ n9_ ⊢
               have HO_0 := n0_
               have HO_3 := n1_
               have HL230_2 := n2_
               have HL231_2 := n3_
               have HL232_2 := n4_
               have HL237_2 := n5_
               have HL238_2 := n6_
               have HO243 := n7_
               have BK233 := n8_
               have HB := n9_
               clear n0_ n1_ n2_ n3_ n4_ n5_ n6_ n7_ n8_ n9_
               have hcz36_0 : w35.cell? ⟨gb233, 0, none⟩ = some (.string ((⟨#[107]⟩ : ByteArray) ++ (((rd_T38 l0 x4_1).f0).extract 0 ((ji7) : Int).toNat))) := (blk_cell BK233.out 0).trans rfl
               have hcz36_1 : w35.cell? ⟨gb233, 1, none⟩ = some (.bool false) := (blk_cell BK233.out 1).trans rfl
               have hcz36_2 : w35.cell? ⟨gb233, 2, none⟩ = some (.slice A237_2 y239.length c237_2) := (blk_cell BK233.out 2).trans rfl
               have hfz36_0 := blk_frozen BK233.out 0
               have hfz36_1 := blk_frozen BK233.out 1
               have hfz36_2 := blk_frozen BK233.out 2
               try go_wp2_with (first | ((with_reducible refine gate_builtin (b := .append) (xs := #[.tmp 53, .tmp 55]) rfl ?_); at_builtin; refine Kd.N_append k38 (w0 := w) w.heap.size rfl (.tmp 53) (.tmp 55) 39 38 (.agg #[(.string ⟨#[]⟩), (.bool false), (.slice none 0 0)]) 48 rfl Try.underlying39 info38 rfl (by decide) (by omega) u3 x3_1 (⟨(⟨#[107]⟩ : ByteArray) ++ (((rd_T38 l0 x4_1).f0).extract 0 ((ji7) : Int).toNat), false, y239⟩ : S38) [.string ((⟨#[107]⟩ : ByteArray) ++ (((rd_T38 l0 x4_1).f0).extract 0 ((ji7) : Int).toNat)), .bool false, .slice A237_2 y239.length c237_2] (fun k_ => (P0_ k_ ∨ w.heap.size ≤ k_) ∧ k_ ≠ gb233) (fun k_ => ((fun k_ => (P0_ k_ ∨ w.heap.size ≤ k_) ∧ k_ ≠ gb233)) k_ ∧ some k_ ≠ (u3 : Value).ownBlock) rfl rfl ?aP (fun _ hk => hk) ?aF ?aO ?aB ?aS ?aL ?_; (case aP => exact (k38_mkF _ _ (⟨(⟨#[107]⟩ : ByteArray) ++ (((rd_T38 l0 x4_1).f0).extract 0 ((ji7) : Int).toNat), false, y239⟩ : S38) (Kd.V_reads' (Kd.V_mono (ok' := (fun k_ => ((fun k_ => (P0_ k_ ∨ w.heap.size ≤ k_) ∧ k_ ≠ gb233)) k_ ∧ some k_ ≠ (u3 : Value).ownBlock)) (HO243.out) (fun k_ hk => ⟨⟨hk.1, hk.2.2⟩, hk.2.1⟩))).2.1 (Kd.V_F (Kd.V_mono (ok' := (fun k_ => ((fun k_ => (P0_ k_ ∨ w.heap.size ≤ k_) ∧ k_ ≠ gb233)) k_ ∧ some k_ ≠ (u3 : Value).ownBlock)) (HO243.out) (fun k_ hk => ⟨⟨hk.1, hk.2.2⟩, hk.2.1⟩))))); (case aB => exact (by repeat (first | (with_reducible first | exact HB.out | apply below_alloc | apply pw_below_drewN | apply below_drew1 | refine below_set ?_ GE233.out) | exact HB.out))); (case aF => exact (fun k_ hk => ⟨(.inr (Nat.le_trans (below_size (by repeat (first | (with_reducible first | exact HB.out | apply below_alloc | apply pw_below_drewN | apply below_drew1 | refine below_set ?_ GE233.out) | exact HB.out))) hk)), Kd.freshB (g := gb233) (o := .cells #[.string ((⟨#[107]⟩ : ByteArray) ++ (((rd_T38 l0 x4_1).f0).extract 0 ((ji7) : Int).toNat)), .bool false, .slice A237_2 y239.length c237_2] 38 (0, 0)) (by (with_reducible repeat (first | refine blk_drewN ?_ _ | refine blk_drew ?_ | refine blk_alloc ?_ _)); exact BK233.out) k_ hk⟩)); (case aO => exact (by (with_reducible repeat (first | apply Kd.N_alloc | apply Kd.N_drewN | apply Kd.N_drew)); exact HO_3.out)); (case aS => exact (below_size (by repeat (first | (with_reducible first | exact HB.out | apply below_alloc | apply pw_below_drewN | apply below_drew1 | refine below_set ?_ GE233.out) | exact HB.out)))); (case aL => have := LMc24.out; omega); intro v245 w37 ho hb hg hat; rw [← Ny244.out] at ho; have n0_ := Aside0.mk (Kd.V_afterv (ok := (fun k_ => (P0_ k_ ∨ w.heap.size ≤ k_) ∧ k_ ≠ gb233)) (by (with_reducible repeat (first | apply Kd.V_alloc | apply Kd.V_drewN | apply Kd.V_drew)); exact Kd.V_mono HO_0.out (fun _ hk => ⟨⟨hk.1, hk.2.2⟩, hk.2.1⟩)) hg hat); have n1_ := Aside0.mk (Kd.V_afterv (ok := (fun k_ => (P0_ k_ ∨ w.heap.size ≤ k_) ∧ k_ ≠ gb233)) (by (with_reducible repeat (first | apply Kd.V_alloc | apply Kd.V_drewN | apply Kd.V_drew)); exact Kd.V_mono HL230_2.out (fun _ hk => ⟨⟨hk.1, hk.2.2⟩, hk.2.1⟩)) hg hat); have n2_ := Aside0.mk (Kd.V_afterv (ok := (fun k_ => (P0_ k_ ∨ w.heap.size ≤ k_) ∧ k_ ≠ gb233)) (by (with_reducible repeat (first | apply Kd.V_alloc | apply Kd.V_drewN | apply Kd.V_drew)); exact Kd.V_mono HL231_2.out (fun _ hk => ⟨⟨hk.1, hk.2.2⟩, hk.2.1⟩)) hg hat); have n3_ := Aside0.mk (Kd.V_afterv (ok := (fun k_ => (P0_ k_ ∨ w.heap.size ≤ k_) ∧ k_ ≠ gb233)) (by (with_reducible repeat (first | apply Kd.V_alloc | apply Kd.V_drewN | apply Kd.V_drew)); exact Kd.V_mono HL232_2.out (fun _ hk => ⟨⟨hk.1, hk.2.2⟩, hk.2.1⟩)) hg hat); have n4_ := Aside0.mk (blk_grown (g := gb233) (o := .cells #[.string ((⟨#[107]⟩ : ByteArray) ++ (((rd_T38 l0 x4_1).f0).extract 0 ((ji7) : Int).toNat)), .bool false, .slice A237_2 y239.length c237_2] 38 (0, 0)) (by (with_reducible repeat (first | refine blk_drewN ?_ _ | refine blk_drew ?_ | refine blk_alloc ?_ _)); exact BK233.out) hg (Kd.N_away HO_3.out (fun _ hk => hk.2))); have n5_ := Aside0.mk (Kd.V_afterv (ok := (fun k_ => (P0_ k_ ∨ w.heap.size ≤ k_) ∧ k_ ≠ gb233)) (by (with_reducible repeat (first | apply Kd.V_alloc | apply Kd.V_drewN | apply Kd.V_drew)); exact Kd.V_mono HL237_2.out (fun _ hk => ⟨⟨hk.1, hk.2.2⟩, hk.2.1⟩)) hg hat); have n6_ := Aside0.mk (Kd.V_afterv (ok := (fun k_ => (P0_ k_ ∨ w.heap.size ≤ k_) ∧ k_ ≠ gb233)) (by (with_reducible repeat (first | apply Kd.V_alloc | apply Kd.V_drewN | apply Kd.V_drew)); exact Kd.V_mono HL238_2.out (fun _ hk => ⟨⟨hk.1, hk.2.2⟩, hk.2.1⟩)) hg hat); have n7_ := Aside0.mk (Kd.V_afterv (ok := (fun k_ => (P0_ k_ ∨ w.heap.size ≤ k_) ∧ k_ ≠ gb233)) (by (with_reducible repeat (first | apply Kd.V_alloc | apply Kd.V_drewN | apply Kd.V_drew)); exact Kd.V_mono HO243.out (fun _ hk => ⟨⟨hk.1, hk.2.2⟩, hk.2.1⟩)) hg hat); have n8_ := Aside0.mk (hb); have n9_ := Aside0.mk (ho); clear HO_0; clear HL230_2; clear HL231_2; clear HL232_2; clear BK233; clear HL237_2; clear HL238_2; clear HO243; clear HB; clear HO_3; have HO_0 := n0_; have HL230_2 := n1_; have HL231_2 := n2_; have HL232_2 := n3_; have BK233 := n4_; have HL237_2 := n5_; have HL238_2 := n6_; have HO243 := n7_; have HB := n8_; have HO246 := n9_; clear n0_ n1_ n2_ n3_ n4_ n5_ n6_ n7_ n8_ n9_; clear ho hb hg hat))
               go_roundg kj1
               case measure => have := HK1.out; have := HJ1.out; omega
               case rel => exact ⟨(y244), (wrap64 (x4_1 + 1)), (by first | rfl | (simp; done) | (simp [*]; done)), (by first | exact H' | (simp only [← Nbq11.out]; exact H') | (simp only [Nbq11.out]; exact H')), ⟨by have := HK1.out; have := HJ1.out; omega⟩, ⟨by (with_reducible repeat (first | apply Kd.V_alloc | apply Kd.V_drewN | apply Kd.V_drew)); exact Kd.V_mono HO_0.out (fun _ hk => ⟨hk.1.1, hk.2⟩)⟩, ⟨by (with_reducible repeat (first | apply Kd.N_alloc | apply Kd.N_drewN | apply Kd.N_drew)); exact Kd.N_mono HO246.out (fun _ hk => hk.1)⟩, ⟨by repeat (first | (with_reducible first | exact HB.out | apply below_alloc | apply pw_below_drewN | apply below_drew1 | refine below_set ?_ GE233.out) | exact HB.out)⟩⟩
              ·
               rw [if_neg c24] at H
               exact absurd H (by simp)
             ·
              rw [if_neg c23] at H
              exact absurd H (by simp)
            ·
             rw [if_neg c22] at H
             exact absurd H (by simp)
          ·
           rw [if_neg c10] at H
           exact absurd H (by simp)
         ·
          rw [if_neg c9] at H
          exact absurd H (by simp)
        ·
         rw [if_neg c8] at H
         exact absurd H (by simp)
       ·
        rw [if_neg c6] at H
        exact absurd H (by simp)
      ·
       rw [if_neg c5] at H
       exact absurd H (by simp)
     ·
      replace c4 := Bool.eq_false_iff.mpr c4
      subst c4
      have H1 : (some x3_1) = some r := by rw [if_neg (show ¬ (false = true) by decide)] at H; exact H
      clear H
      have H := H1
      clear H1
      obtain rfl := Option.some.inj H
      go_wp2
      all_goals first | (go_ret; exact ⟨_, by first | rfl | (simp [errW_none, errW_some]; done) | (simp [errW_none, errW_some]; rfl) | (simp [*, errW_none, errW_some]; done) | (simp [*, errW_none, errW_some]; rfl), by (with_reducible repeat (first | apply Kd.N_alloc | apply Kd.N_drewN | apply Kd.N_drew)); exact HO_3.out, by repeat (first | (with_reducible first | exact HB.out | apply below_alloc | apply pw_below_drewN | apply below_drew1) | exact HB.out)⟩) | (exfalso; simp_all; done)

end Go.Proofs.Ytpjkaodbcclecaa.PM
