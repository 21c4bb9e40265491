/- What functions of the given program come to, and that they do: written out of the translation by a program of this session; Lean checks it. -/
import Derived.Test.YtfhaffpegncdiaaShort
import Derived.Test.YtfhaffpegncdiaaPTx0
namespace Go.Proofs.Ytfhaffpegncdiaa.PT
open Go.RowKit Go.Proofs.YtfhaffpegncdiaaW.PrintWords Go.Proofs.YtfhaffpegncdiaaW.PrintLast Go.Proofs.YtfhaffpegncdiaaW.PrintMore
attribute [local go_sem] max2_int min2_int max_two min_two max_three min_three max_four min_four   -- for this text's walks alone
set_option linter.unusedVariables false
set_option linter.unusedSimpArgs false

/-! ### zfg: function 58 -/
mutual
def zfg.l0 : Nat → List (S24) → Int → Int → Int → Option (Int)
 | 0, _, _, _, _ => none
 | k + 1, x0, x1, x5, x6 => if x6 < (x0.length : Int) then (if x5 ≤ 2000 then (if x1 ≤ 8 then (if 0 ≤ x6 then ((zfg.f k ((rd_T24 x0 x6).f4) (wrap64 (x1 + 1))).bind fun t297 => (zfg.l0 k x0 x1 (wrap64 ((wrap64 ((wrap64 ((wrap64 (x5 + 13)) + (((rd_T24 x0 x6).f0).size : Int))) + (mn (((rd_T24 x0 x6).f3).size : Int) 4000))) + t297)) (wrap64 (x6 + 1)))) else (none)) else (some x5)) else (some x5)) else (some x5)
def zfg.f : Nat → List (S24) → Int → Option (Int)
 | 0, _, _ => none
 | k + 1, l0, a1 => zfg.l0 k l0 a1 0 0
end
theorem zfg.mono_l : ∀ k, (∀ y0 y1, LeO (zfg.f k y0 y1) (zfg.f (k + 1) y0 y1)) ∧ (∀ y0 y1 y2 y3, LeO (zfg.l0 k y0 y1 y2 y3) (zfg.l0 (k + 1) y0 y1 y2 y3))
 | 0 => ⟨fun _ _ r h => by simp [zfg.f] at h, fun _ _ _ _ r h => by simp [zfg.l0] at h⟩
 | k + 1 => by
  obtain ⟨ih0, ih1⟩ := zfg.mono_l k
  refine ⟨?_, ?_⟩
  ·
   intro y0 y1
   unfold zfg.f
   repeat' first
   | (with_reducible exact ih0 _ _)
   | (with_reducible exact ih1 _ _ _ _)
   | (with_reducible exact LeO.refl _)
   | (with_reducible exact LeO.none _)
   | (with_reducible refine LeO.ite ?_ ?_)
   | (with_reducible refine LeO.bind ?_ (fun _ => ?_))
   | exact ih0 _ _
   | exact ih1 _ _ _ _
   | exact LeO.none _
   | refine LeO.ite ?_ ?_
   | refine LeO.bind ?_ (fun _ => ?_)
  intro y0 y1 y2 y3
  unfold zfg.l0
  repeat' first
  | (with_reducible exact ih0 _ _)
  | (with_reducible exact ih1 _ _ _ _)
  | (with_reducible exact LeO.refl _)
  | (with_reducible exact LeO.none _)
  | (with_reducible refine LeO.ite ?_ ?_)
  | (with_reducible refine LeO.bind ?_ (fun _ => ?_))
  | exact ih0 _ _
  | exact ih1 _ _ _ _
  | exact LeO.none _
  | refine LeO.ite ?_ ?_
  | refine LeO.bind ?_ (fun _ => ?_)
theorem zfg.mono : ∀ a0 a1 k, LeO (zfg.f k a0 a1) (zfg.f (k + 1) a0 a1) := by
 intro a0 a1 k
 obtain ⟨ih0, ih1⟩ := zfg.mono_l k
 exact ih0 a0 a1
def zfg.T5 : Bool × List (List Nat × List Nat) := (true, [([], []), ([0], [0]), ([], []), ([], []), ([2, 3], [2, 3]), ([4], [4]), ([5], [5]), ([6], [6]), ([1, 7], [1, 7]), ([], []), ([], []), ([9, 10], [9, 10]), ([11], [11]), ([12], [12]), ([13], [13]), ([14], [14]), ([8, 15], [8, 15]), ([], []), ([], []), ([17, 18], [17, 18]), ([19], [19]), ([20], [20]), ([], []), ([22], [22]), ([21, 23], [21, 23]), ([16, 24], [16, 24]), ([25, 24, 0, 1, 2, 3, 4, 5, 6, 7, 8, 9, 10, 11, 12, 13, 14, 15, 16, 17, 18, 19, 20, 21, 22, 23, 24, 25], [0, 25])])
def zfg.B5 : List Nat := [0, 1, 0, 0, 12, 28, 60, 124, 255, 0, 0, 1536, 3584, 7680, 15872, 32256, 65535, 0, 0, 393216, 917504, 1966080, 0, 4194304, 16646144, 33554431, 67108863]
theorem zfg.tab5 : rtab .any (opsOf Try.f58 5) = zfg.T5 := by kernel_rfl
theorem zfg.bits5 : waitsOk zfg.T5.2 zfg.B5 = true := by kernel_rfl
set_option maxHeartbeats 8000000 in
set_option maxRecDepth 100000 in
theorem zfg.calls (k : Nat) : ∀ (A0 : Option Addr) (c0 : Nat) (l0 : List (S24)) (a1 : Int) (r : Int) (w : World) (hr0 : Kd.C k24 w A0 l0.length l0) (hc0 : l0.length ≤ c0) (h : zfg.f k l0 a1 = some r),
  Calls Try.prog 58 #[.slice A0 l0.length c0, .int .i64 a1] w fun e w' => e = .returned (.int .i64 r) ∧ Below w.heap.size w w' := by
 induction k using Nat.strongRecOn with
 | _ k ih =>
 intro A0 c0 l0 a1 r w hr0 hc0 h
 cases k with
 | zero => exact absurd h (by simp [zfg.f])
 | succ k =>
 simp only [zfg.f] at h
 have HR0 := Zs.mk hr0
 have HC0 := Zs.mk hc0
 clear hr0 hc0
 have HB := Zs.mk (Below.refl w.heap.size w)
 have H : (zfg.l0 k l0 a1 0 0) = some r := h
 clear h
 have H' := Zs.mk H
 clear H
 go_enter Try.func58, Try.ntmps58
 go_wp2
 go_loopg [5, 6] k (fun kq v5 v6 w' => ∃ (x5_1 : Int) (x6_1 : Int), v5 = .int .i64 x5_1 ∧ v6 = .int .i64 x6_1 ∧ Zs (zfg.l0 kq l0 a1 x5_1 x6_1 = some r) ∧ Zs (kq ≤ k) ∧ Zs (Below w.heap.size w w'))
 case atStart => exact ⟨(0), (0), (by first | rfl | (simp; done) | (simp [*]; done)), (by first | rfl | (simp; done) | (simp [*]; done)), H', ⟨Nat.le_refl _⟩, ⟨by repeat (first | (with_reducible first | exact HB.out | apply zba | apply zbn | apply zbd) | exact HB.out)⟩⟩
 case round =>
  clear H'
  try clear p2
  obtain ⟨x5_1, x6_1, rfl, rfl, HA, HK1, HB⟩ := hrel
  cases gk with
  | zero => exact absurd HA.out (by simp [zfg.l0])
  | succ k1 =>
   have H := HA.out
   clear HA
   simp only [zfg.l0] at H
   by_cases c3 : x6_1 < (l0.length : Int)
   ·
    rw [if_pos c3] at H
    have c3b0 : decide (x6_1 < (l0.length : Int)) = true := decide_eq_true c3
    clear c3
    by_cases c4 : x5_1 ≤ 2000
    ·
     rw [if_pos c4] at H
     have c4b0 : decide (x5_1 ≤ 2000) = true := decide_eq_true c4
     clear c4
     by_cases c5 : a1 ≤ 8
     ·
      rw [if_pos c5] at H
      have c5b0 : decide (a1 ≤ 8) = true := decide_eq_true c5
      clear c5
      by_cases c6 : 0 ≤ x6_1
      ·
       rw [if_pos c6] at H
       have c6b0 : decide (0 ≤ x6_1) = true := decide_eq_true c6
       clear c6
       obtain ⟨ji7, hji7⟩ : ∃ j_ : Int, (mn (((rd_T24 l0 x6_1).f3).size : Int) 4000) = j_ := ⟨_, rfl⟩
       replace H : ((zfg.f k1 ((rd_T24 l0 x6_1).f4) (wrap64 (a1 + 1))).bind fun t297 => (zfg.l0 k1 l0 a1 (wrap64 ((wrap64 ((wrap64 ((wrap64 (x5_1 + 13)) + (((rd_T24 l0 x6_1).f0).size : Int))) + (ji7))) + t297)) (wrap64 (x6_1 + 1)))) = some r := by first | (rw [hji7] at H; exact H) | (simp only [hji7] at H ⊢; exact H)
       have hji7_ : (if 4000 < (((rd_T24 l0 x6_1).f3).size : Int) then 4000 else (((rd_T24 l0 x6_1).f3).size : Int)) = ji7 := hji7
       (try (have hji7u : ji7 ≤ 4000 := by (rw [← hji7]; unfold mn; (repeat' split) <;> omega)))
       (try (have hji7v : ¬ (9223372036854775807 < 1 + ji7.toNat) := by omega))
       replace H := Option.bind_eq_some_iff.mp H
       obtain ⟨t297, A80, H⟩ := H
       replace H : (zfg.l0 k1 l0 a1 (wrap64 ((wrap64 ((wrap64 ((wrap64 (x5_1 + 13)) + (((rd_T24 l0 x6_1).f0).size : Int))) + (ji7))) + t297)) (wrap64 (x6_1 + 1))) = some r := H
       have A8 := Zs.mk A80
       clear A80
       have H' := Zs.mk H
       clear H
       try go_wp2
       have n0_ := Zs.mk (zbd HB.out)
       clear HB
       have HB := n0_
       clear n0_
       have p294 : 0 ≤ (x6_1 : Int) := of_decide_eq_true (by first | (with_reducible assumption) | assumption)
       have q294 : x6_1 < (l0.length : Int) := of_decide_eq_true (by first | (with_reducible assumption) | assumption)
       obtain ⟨ad294, A294_4, c294_4, e294, hx294_0, hx294_1, hx294_2, hx294_3, hx294_4, hl294_4, hi294_4⟩ := at_T24 HR0.out x6_1 p294 q294
       have hw294_4 := hx294_4
       have hw294_3 := hx294_3
       have hw294_2 := hx294_2
       have hw294_1 := hx294_1
       have hw294_0 := hx294_0
       cases e294
       replace hx294_0 := (HB.out.cell (zq4 w _ hx294_0)).trans hx294_0
       replace hx294_1 := (HB.out.cell (zq4 w _ hx294_1)).trans hx294_1
       replace hx294_2 := (HB.out.cell (zq4 w _ hx294_2)).trans hx294_2
       replace hx294_3 := (HB.out.cell (zq4 w _ hx294_3)).trans hx294_3
       replace hx294_4 := (HB.out.cell (zq4 w _ hx294_4)).trans hx294_4
       have HR294_4 := Zs.mk hi294_4
       have HC294_4 := Zs.mk hl294_4
       clear hi294_4 hl294_4
       replace p294 := eq_true p294
       replace q294 := eq_true q294
       have p295 : 0 ≤ (x6_1 : Int) := of_decide_eq_true (by first | (with_reducible assumption) | assumption)
       have q295 : x6_1 < (l0.length : Int) := of_decide_eq_true (by first | (with_reducible assumption) | assumption)
       obtain ⟨ad295, A295_4, c295_4, e295, hx295_0, hx295_1, hx295_2, hx295_3, hx295_4, hl295_4, hi295_4⟩ := at_T24 HR0.out x6_1 p295 q295
       have hw295_4 := hx295_4
       have hw295_3 := hx295_3
       have hw295_2 := hx295_2
       have hw295_1 := hx295_1
       have hw295_0 := hx295_0
       obtain rfl : ad294 = ad295 := (by injection e295)
       replace hx295_0 := (HB.out.cell (zq4 w _ hx295_0)).trans hx295_0
       replace hx295_1 := (HB.out.cell (zq4 w _ hx295_1)).trans hx295_1
       replace hx295_2 := (HB.out.cell (zq4 w _ hx295_2)).trans hx295_2
       replace hx295_3 := (HB.out.cell (zq4 w _ hx295_3)).trans hx295_3
       replace hx295_4 := (HB.out.cell (zq4 w _ hx295_4)).trans hx295_4
       have HR295_4 := Zs.mk hi295_4
       have HC295_4 := Zs.mk hl295_4
       clear hi295_4 hl295_4
       replace p295 := eq_true p295
       replace q295 := eq_true q295
       have ea_ := Option.some.inj (hx294_4.symm.trans hx295_4)
       injection ea_ with ea_ en_ ec_
       subst ea_
       subst ec_
       clear en_
       have p296 : 0 ≤ (x6_1 : Int) := of_decide_eq_true (by first | (with_reducible assumption) | assumption)
       have q296 : x6_1 < (l0.length : Int) := of_decide_eq_true (by first | (with_reducible assumption) | assumption)
       obtain ⟨ad296, A296_4, c296_4, e296, hx296_0, hx296_1, hx296_2, hx296_3, hx296_4, hl296_4, hi296_4⟩ := at_T24 HR0.out x6_1 p296 q296
       have hw296_4 := hx296_4
       have hw296_3 := hx296_3
       have hw296_2 := hx296_2
       have hw296_1 := hx296_1
       have hw296_0 := hx296_0
       obtain rfl : ad294 = ad296 := (by injection e296)
       replace hx296_0 := (HB.out.cell (zq4 w _ hx296_0)).trans hx296_0
       replace hx296_1 := (HB.out.cell (zq4 w _ hx296_1)).trans hx296_1
       replace hx296_2 := (HB.out.cell (zq4 w _ hx296_2)).trans hx296_2
       replace hx296_3 := (HB.out.cell (zq4 w _ hx296_3)).trans hx296_3
       replace hx296_4 := (HB.out.cell (zq4 w _ hx296_4)).trans hx296_4
       have HR296_4 := Zs.mk hi296_4
       have HC296_4 := Zs.mk hl296_4
       clear hi296_4 hl296_4
       replace p296 := eq_true p296
       replace q296 := eq_true q296
       have ea_ := Option.some.inj (hx294_4.symm.trans hx296_4)
       injection ea_ with ea_ en_ ec_
       subst ea_
       subst ec_
       clear en_
       refine start_ (n := 27) (S := fun w' => w'.cell? (ad294.add ((x6_1).toNat * 5)) = some (.string ((rd_T24 l0 x6_1).f0)) ∧ w'.cell? ⟨(ad294.add ((x6_1).toNat * 5)).block, (ad294.add ((x6_1).toNat * 5)).off + 1, none⟩ = some (.int .u8 ((rd_T24 l0 x6_1).f1)) ∧ w'.cell? ⟨(ad294.add ((x6_1).toNat * 5)).block, (ad294.add ((x6_1).toNat * 5)).off + 2, none⟩ = some (.int .i64 ((rd_T24 l0 x6_1).f2)) ∧ w'.cell? ⟨(ad294.add ((x6_1).toNat * 5)).block, (ad294.add ((x6_1).toNat * 5)).off + 3, none⟩ = some (.string ((rd_T24 l0 x6_1).f3)) ∧ w'.cell? ⟨(ad294.add ((x6_1).toNat * 5)).block, (ad294.add ((x6_1).toNat * 5)).off + 4, none⟩ = some (.slice A294_4 ((rd_T24 l0 x6_1).f4).length c294_4) ∧ w'.cell? (ad294.add ((x6_1).toNat * 5)) = some (.string ((rd_T24 l0 x6_1).f0)) ∧ w'.cell? ⟨(ad294.add ((x6_1).toNat * 5)).block, (ad294.add ((x6_1).toNat * 5)).off + 1, none⟩ = some (.int .u8 ((rd_T24 l0 x6_1).f1)) ∧ w'.cell? ⟨(ad294.add ((x6_1).toNat * 5)).block, (ad294.add ((x6_1).toNat * 5)).off + 2, none⟩ = some (.int .i64 ((rd_T24 l0 x6_1).f2)) ∧ w'.cell? ⟨(ad294.add ((x6_1).toNat * 5)).block, (ad294.add ((x6_1).toNat * 5)).off + 3, none⟩ = some (.string ((rd_T24 l0 x6_1).f3)) ∧ w'.cell? ⟨(ad294.add ((x6_1).toNat * 5)).block, (ad294.add ((x6_1).toNat * 5)).off + 4, none⟩ = some (.slice A294_4 ((rd_T24 l0 x6_1).f4).length c294_4) ∧ w'.cell? (ad294.add ((x6_1).toNat * 5)) = some (.string ((rd_T24 l0 x6_1).f0)) ∧ w'.cell? ⟨(ad294.add ((x6_1).toNat * 5)).block, (ad294.add ((x6_1).toNat * 5)).off + 1, none⟩ = some (.int .u8 ((rd_T24 l0 x6_1).f1)) ∧ w'.cell? ⟨(ad294.add ((x6_1).toNat * 5)).block, (ad294.add ((x6_1).toNat * 5)).off + 2, none⟩ = some (.int .i64 ((rd_T24 l0 x6_1).f2)) ∧ w'.cell? ⟨(ad294.add ((x6_1).toNat * 5)).block, (ad294.add ((x6_1).toNat * 5)).off + 3, none⟩ = some (.string ((rd_T24 l0 x6_1).f3)) ∧ w'.cell? ⟨(ad294.add ((x6_1).toNat * 5)).block, (ad294.add ((x6_1).toNat * 5)).off + 4, none⟩ = some (.slice A294_4 ((rd_T24 l0 x6_1).f4).length c294_4)) (ds := []) #[false, false, false, false, false, false, false, false, false, false, false, false, false, false, false, false, false, false, false, false, false, false, false, false, false, false, false] (by kernel_rfl) rfl rfl ⟨((HB.out.cell (zq4 w _ hw294_0)).trans hw294_0), ((HB.out.cell (zq4 w _ hw294_1)).trans hw294_1), ((HB.out.cell (zq4 w _ hw294_2)).trans hw294_2), ((HB.out.cell (zq4 w _ hw294_3)).trans hw294_3), ((HB.out.cell (zq4 w _ hw294_4)).trans hw294_4), ((HB.out.cell (zq4 w _ hw295_0)).trans hw295_0), ((HB.out.cell (zq4 w _ hw295_1)).trans hw295_1), ((HB.out.cell (zq4 w _ hw295_2)).trans hw295_2), ((HB.out.cell (zq4 w _ hw295_3)).trans hw295_3), ((HB.out.cell (zq4 w _ hw295_4)).trans hw295_4), ((HB.out.cell (zq4 w _ hw296_0)).trans hw296_0), ((HB.out.cell (zq4 w _ hw296_1)).trans hw296_1), ((HB.out.cell (zq4 w _ hw296_2)).trans hw296_2), ((HB.out.cell (zq4 w _ hw296_3)).trans hw296_3), ((HB.out.cell (zq4 w _ hw296_4)).trans hw296_4)⟩ (fun hHeld => ?_); refine with_tabW zfg.tab5 zfg.bits5 (fun HT_ HW_ => ?_)
       generalize wr.drew = w9 at HB HR294_4 HR295_4 HR296_4 hx294_0 hx294_1 hx294_2 hx294_3 hx294_4 hx295_0 hx295_1 hx295_2 hx295_3 hx295_4 hx296_0 hx296_1 hx296_2 hx296_3 hx296_4 hHeld ⊢
       refine pure_ (i := 0) (N := some 21) (v := ?_) (a' := ?_) #[true, false, false, false, false, false, false, false, false, false, false, false, false, false, false, false, false, false, false, false, false, false, false, false, false, false, false] rfl rfl (any_of HT_.out (by kernel_rfl)) (fun _ _ _ h => h) (Or.inl ⟨by rfl, ?_⟩) ?_ ?_
       rotate_left
       ·
        intro w'
        go_simp
        with_reducible rfl
       rotate_left
       ·
        simp only [Act.put, zq1, zq2, zq3, i64_w, i32_w]
        rfl
       refine pure_ (i := 1) (N := some 22) (v := ?_) (a' := ?_) #[true, true, false, false, false, false, false, false, false, false, false, false, false, false, false, false, false, false, false, false, false, false, false, false, false, false, false] rfl rfl (any_of HT_.out (by kernel_rfl)) (fun _ _ _ h => h) (Or.inl ⟨by rfl, ?_⟩) ?_ ?_
       rotate_left
       ·
        intro w'
        go_simp
        with_reducible rfl
       rotate_left
       ·
        simp only [Act.put, zq1, zq2, zq3, i64_w, i32_w]
        rfl
       refine pure_ (i := 2) (N := some 23) (v := ?_) (a' := ?_) #[true, true, true, false, false, false, false, false, false, false, false, false, false, false, false, false, false, false, false, false, false, false, false, false, false, false, false] rfl rfl (any_of HT_.out (by kernel_rfl)) (fun _ _ _ h => h) (Or.inl ⟨by rfl, ?_⟩) ?_ ?_
       rotate_left
       ·
        intro w'
        go_simp
        with_reducible rfl
       rotate_left
       ·
        simp only [Act.put, zq1, zq2, zq3, i64_w, i32_w]
        rfl
       refine pure_ (i := 3) (N := some 24) (v := ?_) (a' := ?_) #[true, true, true, true, false, false, false, false, false, false, false, false, false, false, false, false, false, false, false, false, false, false, false, false, false, false, false] rfl rfl (any_of HT_.out (by kernel_rfl)) (fun _ _ _ h => h) (Or.inl ⟨by rfl, ?_⟩) ?_ ?_
       rotate_left
       ·
        intro w'
        go_simp
        with_reducible rfl
       rotate_left
       ·
        simp only [Act.put, zq1, zq2, zq3, i64_w, i32_w]
        rfl
       refine pure_ (i := 4) (N := some 25) (v := ?_) (a' := ?_) #[true, true, true, true, true, false, false, false, false, false, false, false, false, false, false, false, false, false, false, false, false, false, false, false, false, false, false] rfl rfl (any_of HT_.out (by kernel_rfl)) (fun _ _ _ h => h) (Or.inl ⟨by rfl, ?_⟩) ?_ ?_
       rotate_left
       ·
        intro w'
        go_simp
        with_reducible rfl
       rotate_left
       ·
        simp only [Act.put, zq1, zq2, zq3, i64_w, i32_w]
        rfl
       refine pure_ (i := 5) (N := some 26) (v := ?_) (a' := ?_) #[true, true, true, true, true, true, false, false, false, false, false, false, false, false, false, false, false, false, false, false, false, false, false, false, false, false, false] rfl rfl (any_of HT_.out (by kernel_rfl)) (fun _ _ _ h => h) (Or.inl ⟨by rfl, ?_⟩) ?_ ?_
       rotate_left
       ·
        intro w'
        go_simp
        with_reducible rfl
       rotate_left
       ·
        simp only [Act.put, zq1, zq2, zq3, i64_w, i32_w]
        rfl
       refine pure_ (i := 9) (N := some 30) (v := ?_) (a' := ?_) #[true, true, true, true, true, true, false, false, false, true, false, false, false, false, false, false, false, false, false, false, false, false, false, false, false, false, false] rfl rfl (any_of HT_.out (by kernel_rfl)) (fun _ _ _ h => h) (Or.inl ⟨by rfl, ?_⟩) ?_ ?_
       rotate_left
       ·
        intro w'
        go_simp
        with_reducible rfl
       rotate_left
       ·
        simp only [Act.put, zq1, zq2, zq3, i64_w, i32_w]
        rfl
       refine pure_ (i := 10) (N := some 31) (v := ?_) (a' := ?_) #[true, true, true, true, true, true, false, false, false, true, true, false, false, false, false, false, false, false, false, false, false, false, false, false, false, false, false] rfl rfl (any_of HT_.out (by kernel_rfl)) (fun _ _ _ h => h) (Or.inl ⟨by rfl, ?_⟩) ?_ ?_
       rotate_left
       ·
        intro w'
        go_simp
        with_reducible rfl
       rotate_left
       ·
        simp only [Act.put, zq1, zq2, zq3, i64_w, i32_w]
        rfl
       refine pure_ (i := 11) (N := some 32) (v := ?_) (a' := ?_) #[true, true, true, true, true, true, false, false, false, true, true, true, false, false, false, false, false, false, false, false, false, false, false, false, false, false, false] rfl rfl (any_of HT_.out (by kernel_rfl)) (fun _ _ _ h => h) (Or.inl ⟨by rfl, ?_⟩) ?_ ?_
       rotate_left
       ·
        intro w'
        go_simp
        with_reducible rfl
       rotate_left
       ·
        simp only [Act.put, zq1, zq2, zq3, i64_w, i32_w]
        rfl
       refine pure_ (i := 12) (N := some 33) (v := ?_) (a' := ?_) #[true, true, true, true, true, true, false, false, false, true, true, true, true, false, false, false, false, false, false, false, false, false, false, false, false, false, false] rfl rfl (any_of HT_.out (by kernel_rfl)) (fun _ _ _ h => h) (Or.inl ⟨by rfl, ?_⟩) ?_ ?_
       rotate_left
       ·
        intro w'
        go_simp
        with_reducible rfl
       rotate_left
       ·
        simp only [Act.put, zq1, zq2, zq3, i64_w, i32_w]
        rfl
       refine pure_ (i := 17) (N := some 38) (v := ?_) (a' := ?_) #[true, true, true, true, true, true, false, false, false, true, true, true, true, false, false, false, false, true, false, false, false, false, false, false, false, false, false] rfl rfl (any_of HT_.out (by kernel_rfl)) (fun _ _ _ h => h) (Or.inl ⟨by rfl, ?_⟩) ?_ ?_
       rotate_left
       ·
        intro w'
        go_simp
        with_reducible rfl
       rotate_left
       ·
        simp only [Act.put, zq1, zq2, zq3, i64_w, i32_w]
        rfl
       refine pure_ (i := 18) (N := some 39) (v := ?_) (a' := ?_) #[true, true, true, true, true, true, false, false, false, true, true, true, true, false, false, false, false, true, true, false, false, false, false, false, false, false, false] rfl rfl (any_of HT_.out (by kernel_rfl)) (fun _ _ _ h => h) (Or.inl ⟨by rfl, ?_⟩) ?_ ?_
       rotate_left
       ·
        intro w'
        go_simp
        with_reducible rfl
       rotate_left
       ·
        simp only [Act.put, zq1, zq2, zq3, i64_w, i32_w]
        rfl
       refine pure_ (i := 19) (N := some 40) (v := ?_) (a' := ?_) #[true, true, true, true, true, true, false, false, false, true, true, true, true, false, false, false, false, true, true, true, false, false, false, false, false, false, false] rfl rfl (any_of HT_.out (by kernel_rfl)) (fun _ _ _ h => h) (Or.inl ⟨by rfl, ?_⟩) ?_ ?_
       rotate_left
       ·
        intro w'
        go_simp
        with_reducible rfl
       rotate_left
       ·
        simp only [Act.put, zq1, zq2, zq3, i64_w, i32_w]
        rfl
       refine pure_ (i := 20) (N := some 41) (v := ?_) (a' := ?_) #[true, true, true, true, true, true, false, false, false, true, true, true, true, false, false, false, false, true, true, true, true, false, false, false, false, false, false] rfl rfl (any_of HT_.out (by kernel_rfl)) (fun _ _ _ h => h) (Or.inl ⟨by rfl, ?_⟩) ?_ ?_
       rotate_left
       ·
        intro w'
        go_simp
        with_reducible rfl
       rotate_left
       ·
        simp only [Act.put, zq1, zq2, zq3, i64_w, i32_w]
        rfl
       refine pure_ (i := 22) (N := some 43) (v := ?_) (a' := ?_) #[true, true, true, true, true, true, false, false, false, true, true, true, true, false, false, false, false, true, true, true, true, false, true, false, false, false, false] rfl rfl (any_of HT_.out (by kernel_rfl)) (fun _ _ _ h => h) (Or.inl ⟨by rfl, ?_⟩) ?_ ?_
       rotate_left
       ·
        intro w'
        go_simp
        with_reducible rfl
       rotate_left
       ·
        simp only [Act.put, zq1, zq2, zq3, i64_w, i32_w]
        rfl
       refine pure_ (i := 23) (N := some 44) (v := ?_) (a' := ?_) #[true, true, true, true, true, true, false, false, false, true, true, true, true, false, false, false, false, true, true, true, true, false, true, true, false, false, false] rfl rfl (any_of HT_.out (by kernel_rfl)) (fun _ _ _ h => h) (Or.inl ⟨by rfl, ?_⟩) ?_ ?_
       rotate_left
       ·
        intro w'
        go_simp
        with_reducible rfl
       rotate_left
       ·
        simp only [Act.put, zq1, zq2, zq3, i64_w, i32_w]
        rfl
       refine take_ (i := 6) (N := some 27) (v := ?_) (a' := ?_) #[true, true, true, true, true, true, true, false, false, true, true, true, true, false, false, false, false, true, true, true, true, false, true, true, false, false, false] rfl rfl (take_ofW HT_.out HW_.out (by kernel_rfl)) (fun _ _ _ h => h) (Or.inl ⟨by rfl, ?_⟩) hHeld ?_ ?_
       rotate_left
       ·
        rintro w' ⟨s0, s1, s2, s3, s4, s5, s6, s7, s8, s9, s10, s11, s12, s13, s14⟩
        go_simp
        with_reducible rfl
       rotate_left
       ·
        simp only [Act.put, zq1, zq2, zq3, i64_w, i32_w]
        rfl
       refine pure_ (i := 7) (N := some 28) (v := ?_) (a' := ?_) #[true, true, true, true, true, true, true, true, false, true, true, true, true, false, false, false, false, true, true, true, true, false, true, true, false, false, false] rfl rfl (any_of HT_.out (by kernel_rfl)) (fun _ _ _ h => h) (Or.inl ⟨by rfl, ?_⟩) ?_ ?_
       rotate_left
       ·
        intro w'
        go_simp
        with_reducible rfl
       rotate_left
       ·
        simp only [Act.put, zq1, zq2, zq3, i64_w, i32_w]
        rfl
       refine pure_ (i := 8) (N := some 29) (v := ?_) (a' := ?_) #[true, true, true, true, true, true, true, true, true, true, true, true, true, false, false, false, false, true, true, true, true, false, true, true, false, false, false] rfl rfl (any_of HT_.out (by kernel_rfl)) (fun _ _ _ h => h) (Or.inl ⟨by rfl, ?_⟩) ?_ ?_
       rotate_left
       ·
        intro w'
        go_simp
        with_reducible rfl
       rotate_left
       ·
        simp only [Act.put, zq1, zq2, zq3, i64_w, i32_w]
        rfl
       refine take_ (i := 13) (N := some 34) (v := ?_) (a' := ?_) #[true, true, true, true, true, true, true, true, true, true, true, true, true, true, false, false, false, true, true, true, true, false, true, true, false, false, false] rfl rfl (take_ofW HT_.out HW_.out (by kernel_rfl)) (fun _ _ _ h => h) (Or.inl ⟨by rfl, ?_⟩) hHeld ?_ ?_
       rotate_left
       ·
        rintro w' ⟨s0, s1, s2, s3, s4, s5, s6, s7, s8, s9, s10, s11, s12, s13, s14⟩
        go_simp
        with_reducible rfl
       rotate_left
       ·
        simp only [Act.put, zq1, zq2, zq3, i64_w, i32_w]
        rfl
       refine pure_ (i := 14) (N := some 35) (v := ?_) (a' := ?_) #[true, true, true, true, true, true, true, true, true, true, true, true, true, true, true, false, false, true, true, true, true, false, true, true, false, false, false] rfl rfl (any_of HT_.out (by kernel_rfl)) (fun _ _ _ h => h) (Or.inl ⟨by rfl, ?_⟩) ?_ ?_
       rotate_left
       ·
        intro w'
        go_simp
        with_reducible rfl
       rotate_left
       ·
        simp only [Act.put, zq1, zq2, zq3, i64_w, i32_w]
        rfl
       refine pure_ (i := 15) (N := some 36) (v := ?_) (a' := ?_) #[true, true, true, true, true, true, true, true, true, true, true, true, true, true, true, true, false, true, true, true, true, false, true, true, false, false, false] rfl rfl (any_of HT_.out (by kernel_rfl)) (fun _ _ _ h => h) (Or.inl ⟨by rfl, ?_⟩) ?_ ?_
       rotate_left
       ·
        intro w'
        go_simp
        with_reducible rfl
       rotate_left
       ·
        simp only [Act.put, zq1, zq2, zq3, i64_w, i32_w]
        rfl
       refine pure_ (i := 16) (N := some 37) (v := ?_) (a' := ?_) #[true, true, true, true, true, true, true, true, true, true, true, true, true, true, true, true, true, true, true, true, true, false, true, true, false, false, false] rfl rfl (any_of HT_.out (by kernel_rfl)) (fun _ _ _ h => h) (Or.inl ⟨by rfl, ?_⟩) ?_ ?_
       rotate_left
       ·
        intro w'
        go_simp
        with_reducible rfl
       rotate_left
       ·
        simp only [Act.put, zq1, zq2, zq3, i64_w, i32_w]
        rfl
       refine take_ (i := 21) (N := some 42) (v := ?_) (a' := ?_) #[true, true, true, true, true, true, true, true, true, true, true, true, true, true, true, true, true, true, true, true, true, true, true, true, false, false, false] rfl rfl (take_ofW HT_.out HW_.out (by kernel_rfl)) (fun _ _ _ h => h) (Or.inl ⟨by rfl, ?_⟩) hHeld ?_ ?_
       rotate_left
       ·
        rintro w' ⟨s0, s1, s2, s3, s4, s5, s6, s7, s8, s9, s10, s11, s12, s13, s14⟩
        go_simp
        with_reducible rfl
       rotate_left
       ·
        simp only [Act.put, zq1, zq2, zq3, i64_w, i32_w]
        rfl
       refine one_ (i := 24) (N := some 45) #[true, true, true, true, true, true, true, true, true, true, true, true, true, true, true, true, true, true, true, true, true, true, true, true, true, false, false] rfl rfl (one_of HT_.out (by kernel_rfl)) (by decide) (fun K hK => ?_)
       refine goes_ Try.func58 (by kernel_rfl) rfl #[.slice A294_4 ((rd_T24 l0 x6_1).f4).length c294_4, .int .i64 (wrap64 (a1 + 1))] (by rfl) rfl rfl (by (try simp only [List.map_toArray, List.map_cons, List.map_nil]); first | done | rfl | (simp only [List.length_drop, List.length_take]; rfl)) ?_
       with_reducible refine (ih k1 (by have := HK1.out; omega) _ _ ((rd_T24 l0 x6_1).f4) (wrap64 (a1 + 1)) t297 _ ?side1 ?side2 A8.out).mono ?_
       (case side1 => repeat (first | exact (Kd.C_below HR296_4.out HB.out) | (with_reducible refine Kd.C_alloc ?_ _) | (with_reducible refine Kd.C_drewN ?_ _) | (with_reducible refine Kd.C_drew ?_)))
       (case side2 => exact HC296_4.out)
       rintro e w10 ⟨rfl, hb⟩
       refine ⟨_, rfl, ?_⟩
       have n0_ := Zs.mk (zbt (by repeat (first | (with_reducible first | exact HB.out | apply zba | apply zbn | apply zbd) | exact HB.out)) hb)
       clear HB
       have HB := n0_
       clear n0_
       (try clear hb)
       (try clear hb2)
       (try clear hk)
       (try clear hi)
       (try clear hge)
       refine hK.out _ _ ⟨((HB.out.cell (zq4 w _ hw294_0)).trans hw294_0), ((HB.out.cell (zq4 w _ hw294_1)).trans hw294_1), ((HB.out.cell (zq4 w _ hw294_2)).trans hw294_2), ((HB.out.cell (zq4 w _ hw294_3)).trans hw294_3), ((HB.out.cell (zq4 w _ hw294_4)).trans hw294_4), ((HB.out.cell (zq4 w _ hw295_0)).trans hw295_0), ((HB.out.cell (zq4 w _ hw295_1)).trans hw295_1), ((HB.out.cell (zq4 w _ hw295_2)).trans hw295_2), ((HB.out.cell (zq4 w _ hw295_3)).trans hw295_3), ((HB.out.cell (zq4 w _ hw295_4)).trans hw295_4), ((HB.out.cell (zq4 w _ hw296_0)).trans hw296_0), ((HB.out.cell (zq4 w _ hw296_1)).trans hw296_1), ((HB.out.cell (zq4 w _ hw296_2)).trans hw296_2), ((HB.out.cell (zq4 w _ hw296_3)).trans hw296_3), ((HB.out.cell (zq4 w _ hw296_4)).trans hw296_4)⟩ (fun hHeld => ?_)
       clear hK K
       refine norm_ (a' := ?_) ?_ ?_
       rotate_left
       ·
        show Act.put _ (some 45) _ = _
        simp only [Act.put, zq1, zq2, zq3, i64_w, i32_w]
        rfl
       refine pure_ (i := 25) (N := some 46) (v := ?_) (a' := ?_) #[true, true, true, true, true, true, true, true, true, true, true, true, true, true, true, true, true, true, true, true, true, true, true, true, true, true, false] rfl rfl (any_of HT_.out (by kernel_rfl)) (fun _ _ _ h => h) (Or.inl ⟨by rfl, ?_⟩) ?_ ?_
       rotate_left
       ·
        intro w'
        go_simp
        with_reducible rfl
       rotate_left
       ·
        simp only [Act.put, zq1, zq2, zq3, i64_w, i32_w]
        rfl
       refine pure_ (i := 26) (N := some 5) (v := ?_) (a' := ?_) #[true, true, true, true, true, true, true, true, true, true, true, true, true, true, true, true, true, true, true, true, true, true, true, true, true, true, true] rfl rfl (any_of HT_.out (by kernel_rfl)) (fun _ _ _ h => h) (Or.inl ⟨by rfl, ?_⟩) ?_ ?_
       rotate_left
       ·
        intro w'
        go_simp
        with_reducible rfl
       rotate_left
       ·
        simp only [Act.put, zq1, zq2, zq3, i64_w, i32_w]
        rfl
       refine done_ (done_of HT_.out (by kernel_rfl)) ?_
       try go_wp2
       go_roundg k1
       case measure => have := HK1.out; omega
       case rel => exact ⟨(wrap64 ((wrap64 ((wrap64 ((wrap64 (x5_1 + 13)) + (((rd_T24 l0 x6_1).f0).size : Int))) + (ji7))) + t297)), (wrap64 (x6_1 + 1)), (by first | rfl | (simp; done) | (simp only [← hji7] <;> (first | rfl | simp)) | (simp [*]; done)), (by first | rfl | (simp; done) | (simp [*]; done)), H', ⟨by have := HK1.out; omega⟩, ⟨by repeat (first | (with_reducible first | exact HB.out | apply zba | apply zbn | apply zbd) | exact HB.out)⟩⟩
      rw [if_neg c6] at H
      exact absurd H (by simp)
     rw [if_neg c5] at H
     have c5b0 : decide (a1 ≤ 8) = false := decide_eq_false c5
     clear c5
     obtain rfl := Option.some.inj H
     go_wp2
     all_goals first | (go_ret; exact ⟨by first | rfl | (simp [zen, zes]; done) | (simp [zen, zes]; rfl) | (simp [*, zen, zes]; done) | (simp [*, zen, zes]; rfl), by repeat (first | (with_reducible first | exact HB.out | apply zba | apply zbn | apply zbd) | exact HB.out)⟩) | (exfalso; simp_all; done)
    rw [if_neg c4] at H
    have c4b0 : decide (x5_1 ≤ 2000) = false := decide_eq_false c4
    clear c4
    obtain rfl := Option.some.inj H
    go_wp2
    all_goals first | (go_ret; exact ⟨by first | rfl | (simp [zen, zes]; done) | (simp [zen, zes]; rfl) | (simp [*, zen, zes]; done) | (simp [*, zen, zes]; rfl), by repeat (first | (with_reducible first | exact HB.out | apply zba | apply zbn | apply zbd) | exact HB.out)⟩) | (exfalso; simp_all; done)
   rw [if_neg c3] at H
   have c3b0 : decide (x6_1 < (l0.length : Int)) = false := decide_eq_false c3
   clear c3
   obtain rfl := Option.some.inj H
   go_wp2
   all_goals first | (go_ret; exact ⟨by first | rfl | (simp [zen, zes]; done) | (simp [zen, zes]; rfl) | (simp [*, zen, zes]; done) | (simp [*, zen, zes]; rfl), by repeat (first | (with_reducible first | exact HB.out | apply zba | apply zbn | apply zbd) | exact HB.out)⟩) | (exfalso; simp_all; done)

end Go.Proofs.Ytfhaffpegncdiaa.PT
