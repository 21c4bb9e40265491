/- What functions of the given program come to, and that they do: written out of the translation by a program of this session; Lean checks it. -/
import Derived.Test.YtfhaffpegncdiaaPNx0
import Derived.Test.YtfhaffpegncdiaaPNx10
import Derived.Test.YtfhaffpegncdiaaPNx11
import Derived.Test.YtfhaffpegncdiaaPNx17
namespace Go.Proofs.Ytfhaffpegncdiaa.PN
open Go.RowKit Go.Proofs.YtfhaffpegncdiaaW.PrintWords Go.Proofs.YtfhaffpegncdiaaW.PrintLast Go.Proofs.YtfhaffpegncdiaaW.PrintMore
attribute [local go_sem] max2_int min2_int max_two min_two max_three min_three max_four min_four   -- for this text's walks alone
set_option linter.unusedVariables false
set_option linter.unusedSimpArgs false

/-! ### waybilllaw10_NodeFind: function 10 -/
mutual
def waybilllaw10_NodeFind.j0 : Nat → ByteArray → Bool → Bool → List (S41) → Option (Bool)
  | 0, _, _, _, _ => none
  | k + 1, x1, x22, x464000, x464001 => if x22 = true then ((waybilllaw10_awake.f k).bind fun t465 => (some t465)) else ((waybilllaw10_Tame.f k x464000 x464001).bind fun bt466 => (if (bt466.2.length : Int) = 0 then ((node_Find.f k bt466.1 bt466.2 x1).bind fun bt470 => (if bt470.1 = 0 then (if bt470.2 = true then (none) else ((waybilllaw10_awake.f k).bind fun t472 => (some t472))) else (none))) else (waybilllaw10_NodeFind.l0 k x1 (-1) bt466.1 bt466.2)))
def waybilllaw10_NodeFind.l0 : Nat → ByteArray → Int → Bool → List (S41) → Option (Bool)
  | 0, _, _, _, _ => none
  | k + 1, x1, x7, x464000, x464001 => if x7 < (x464001.length : Int) then (if x7 ≥ 0 then (if 0 ≤ x7 then (waybilllaw10_NodeFind.j2 k x1 x7 ((rd_T41 x464001 x7).f0) x464000 x464001) else (none)) else (waybilllaw10_NodeFind.j2 k x1 x7 x1 x464000 x464001)) else ((waybilllaw10_awake.f k).bind fun t473 => (some t473))
def waybilllaw10_NodeFind.j2 : Nat → ByteArray → Int → ByteArray → Bool → List (S41) → Option (Bool)
  | 0, _, _, _, _, _ => none
  | k + 1, x1, x7, x8, x464000, x464001 => waybilllaw10_NodeFind.l1 k x1 x7 x8 0 false 0 x464000 x464001
def waybilllaw10_NodeFind.l1 : Nat → ByteArray → Int → ByteArray → Int → Bool → Int → Bool → List (S41) → Option (Bool)
  | 0, _, _, _, _, _, _, _, _ => none
  | k + 1, x1, x7, x8, x9, x10, x11, x464000, x464001 => if x11 < (x464001.length : Int) then (if 0 ≤ x11 then (if (Op.bytesLess (((rd_T41 x464001 x11).f0).toList) x8.toList) = true then (if x10 = true then (waybilllaw10_NodeFind.l1 k x1 x7 x8 (wrap64 (x9 + 1)) true (wrap64 (x11 + 1)) x464000 x464001) else (waybilllaw10_NodeFind.l1 k x1 x7 x8 (wrap64 (x9 + 1)) (((rd_T41 x464001 x11).f0).toList == x8.toList) (wrap64 (x11 + 1)) x464000 x464001)) else (if x10 = true then (waybilllaw10_NodeFind.l1 k x1 x7 x8 x9 true (wrap64 (x11 + 1)) x464000 x464001) else (waybilllaw10_NodeFind.l1 k x1 x7 x8 x9 (((rd_T41 x464001 x11).f0).toList == x8.toList) (wrap64 (x11 + 1)) x464000 x464001))) else (none)) else (if x464000 = true then (waybilllaw10_NodeFind.j4 k x1 x7 x8 x9 x10 x9 false x464000 x464001) else (waybilllaw10_NodeFind.j4 k x1 x7 x8 x9 x10 x9 (!x10) x464000 x464001))
def waybilllaw10_NodeFind.j4 : Nat → ByteArray → Int → ByteArray → Int → Bool → Int → Bool → Bool → List (S41) → Option (Bool)
  | 0, _, _, _, _, _, _, _, _, _ => none
  | k + 1, x1, x7, x8, x9, x10, x12, x96, x464000, x464001 => if x96 = true then ((node_Find.f k x464000 x464001 x8).bind fun bt478 => (if bt478.1 = (mx (wrap64 (x9 - 1)) 0) then (if (bt478.2 != x10) = true then (none) else (waybilllaw10_NodeFind.l0 k x1 (wrap64 (x7 + 1)) x464000 x464001)) else (none))) else ((node_Find.f k x464000 x464001 x8).bind fun bt480 => (if bt480.1 = x12 then (if (bt480.2 != x10) = true then (none) else (waybilllaw10_NodeFind.l0 k x1 (wrap64 (x7 + 1)) x464000 x464001)) else (none)))
end
def waybilllaw10_NodeFind.f (k : Nat) (a0_0 : Bool) (l0_1 : List (S41)) (a1 : ByteArray) : Option (Bool) := (waybilllaw10_Small.f k a0_0 l0_1).bind fun t464 => (if t464 = true then (waybilllaw10_NodeFind.j0 k a1 (decide ((a1.size : Int) > 300)) a0_0 l0_1) else (waybilllaw10_NodeFind.j0 k a1 true a0_0 l0_1))
theorem waybilllaw10_NodeFind.mono_l : ∀ k, (∀ y0 y1 y2 y3, LeO (waybilllaw10_NodeFind.j0 k y0 y1 y2 y3) (waybilllaw10_NodeFind.j0 (k + 1) y0 y1 y2 y3)) ∧ (∀ y0 y1 y2 y3, LeO (waybilllaw10_NodeFind.l0 k y0 y1 y2 y3) (waybilllaw10_NodeFind.l0 (k + 1) y0 y1 y2 y3)) ∧ (∀ y0 y1 y2 y3 y4, LeO (waybilllaw10_NodeFind.j2 k y0 y1 y2 y3 y4) (waybilllaw10_NodeFind.j2 (k + 1) y0 y1 y2 y3 y4)) ∧ (∀ y0 y1 y2 y3 y4 y5 y6 y7, LeO (waybilllaw10_NodeFind.l1 k y0 y1 y2 y3 y4 y5 y6 y7) (waybilllaw10_NodeFind.l1 (k + 1) y0 y1 y2 y3 y4 y5 y6 y7)) ∧ (∀ y0 y1 y2 y3 y4 y5 y6 y7 y8, LeO (waybilllaw10_NodeFind.j4 k y0 y1 y2 y3 y4 y5 y6 y7 y8) (waybilllaw10_NodeFind.j4 (k + 1) y0 y1 y2 y3 y4 y5 y6 y7 y8))
  | 0 => ⟨fun _ _ _ _ r h => by simp [waybilllaw10_NodeFind.j0] at h, fun _ _ _ _ r h => by simp [waybilllaw10_NodeFind.l0] at h, fun _ _ _ _ _ r h => by simp [waybilllaw10_NodeFind.j2] at h, fun _ _ _ _ _ _ _ _ r h => by simp [waybilllaw10_NodeFind.l1] at h, fun _ _ _ _ _ _ _ _ _ r h => by simp [waybilllaw10_NodeFind.j4] at h⟩
  | k + 1 => by
    obtain ⟨ih0, ih1, ih2, ih3, ih4⟩ := waybilllaw10_NodeFind.mono_l k
    refine ⟨?_, ?_, ?_, ?_, ?_⟩
    · intro y0 y1 y2 y3
      unfold waybilllaw10_NodeFind.j0
      repeat' first
      | (with_reducible exact ih0 _ _ _ _)
      | (with_reducible exact ih1 _ _ _ _)
      | (with_reducible exact ih2 _ _ _ _ _)
      | (with_reducible exact ih3 _ _ _ _ _ _ _ _)
      | (with_reducible exact ih4 _ _ _ _ _ _ _ _ _)
      | (with_reducible exact node_Find.mono _ _ _ _)
      | (with_reducible exact waybilllaw10_Small.mono _ _ _)
      | (with_reducible exact waybilllaw10_Tame.mono _ _ _)
      | (with_reducible exact waybilllaw10_awake.mono _)
      | (with_reducible exact LeO.refl _)
      | (with_reducible exact LeO.none _)
      | (with_reducible refine LeO.ite ?_ ?_)
      | (with_reducible refine LeO.bind ?_ (fun _ => ?_))
      | exact ih0 _ _ _ _
      | exact ih1 _ _ _ _
      | exact ih2 _ _ _ _ _
      | exact ih3 _ _ _ _ _ _ _ _
      | exact ih4 _ _ _ _ _ _ _ _ _
      | exact node_Find.mono _ _ _ _
      | exact waybilllaw10_Small.mono _ _ _
      | exact waybilllaw10_Tame.mono _ _ _
      | exact waybilllaw10_awake.mono _
      | exact LeO.none _
      | refine LeO.ite ?_ ?_
      | refine LeO.bind ?_ (fun _ => ?_)
    · intro y0 y1 y2 y3
      unfold waybilllaw10_NodeFind.l0
      repeat' first
      | (with_reducible exact ih0 _ _ _ _)
      | (with_reducible exact ih1 _ _ _ _)
      | (with_reducible exact ih2 _ _ _ _ _)
      | (with_reducible exact ih3 _ _ _ _ _ _ _ _)
      | (with_reducible exact ih4 _ _ _ _ _ _ _ _ _)
      | (with_reducible exact node_Find.mono _ _ _ _)
      | (with_reducible exact waybilllaw10_Small.mono _ _ _)
      | (with_reducible exact waybilllaw10_Tame.mono _ _ _)
      | (with_reducible exact waybilllaw10_awake.mono _)
      | (with_reducible exact LeO.refl _)
      | (with_reducible exact LeO.none _)
      | (with_reducible refine LeO.ite ?_ ?_)
      | (with_reducible refine LeO.bind ?_ (fun _ => ?_))
      | exact ih0 _ _ _ _
      | exact ih1 _ _ _ _
      | exact ih2 _ _ _ _ _
      | exact ih3 _ _ _ _ _ _ _ _
      | exact ih4 _ _ _ _ _ _ _ _ _
      | exact node_Find.mono _ _ _ _
      | exact waybilllaw10_Small.mono _ _ _
      | exact waybilllaw10_Tame.mono _ _ _
      | exact waybilllaw10_awake.mono _
      | exact LeO.none _
      | refine LeO.ite ?_ ?_
      | refine LeO.bind ?_ (fun _ => ?_)
    · intro y0 y1 y2 y3 y4
      unfold waybilllaw10_NodeFind.j2
      repeat' first
      | (with_reducible exact ih0 _ _ _ _)
      | (with_reducible exact ih1 _ _ _ _)
      | (with_reducible exact ih2 _ _ _ _ _)
      | (with_reducible exact ih3 _ _ _ _ _ _ _ _)
      | (with_reducible exact ih4 _ _ _ _ _ _ _ _ _)
      | (with_reducible exact node_Find.mono _ _ _ _)
      | (with_reducible exact waybilllaw10_Small.mono _ _ _)
      | (with_reducible exact waybilllaw10_Tame.mono _ _ _)
      | (with_reducible exact waybilllaw10_awake.mono _)
      | (with_reducible exact LeO.refl _)
      | (with_reducible exact LeO.none _)
      | (with_reducible refine LeO.ite ?_ ?_)
      | (with_reducible refine LeO.bind ?_ (fun _ => ?_))
      | exact ih0 _ _ _ _
      | exact ih1 _ _ _ _
      | exact ih2 _ _ _ _ _
      | exact ih3 _ _ _ _ _ _ _ _
      | exact ih4 _ _ _ _ _ _ _ _ _
      | exact node_Find.mono _ _ _ _
      | exact waybilllaw10_Small.mono _ _ _
      | exact waybilllaw10_Tame.mono _ _ _
      | exact waybilllaw10_awake.mono _
      | exact LeO.none _
      | refine LeO.ite ?_ ?_
      | refine LeO.bind ?_ (fun _ => ?_)
    · intro y0 y1 y2 y3 y4 y5 y6 y7
      unfold waybilllaw10_NodeFind.l1
      repeat' first
      | (with_reducible exact ih0 _ _ _ _)
      | (with_reducible exact ih1 _ _ _ _)
      | (with_reducible exact ih2 _ _ _ _ _)
      | (with_reducible exact ih3 _ _ _ _ _ _ _ _)
      | (with_reducible exact ih4 _ _ _ _ _ _ _ _ _)
      | (with_reducible exact node_Find.mono _ _ _ _)
      | (with_reducible exact waybilllaw10_Small.mono _ _ _)
      | (with_reducible exact waybilllaw10_Tame.mono _ _ _)
      | (with_reducible exact waybilllaw10_awake.mono _)
      | (with_reducible exact LeO.refl _)
      | (with_reducible exact LeO.none _)
      | (with_reducible refine LeO.ite ?_ ?_)
      | (with_reducible refine LeO.bind ?_ (fun _ => ?_))
      | exact ih0 _ _ _ _
      | exact ih1 _ _ _ _
      | exact ih2 _ _ _ _ _
      | exact ih3 _ _ _ _ _ _ _ _
      | exact ih4 _ _ _ _ _ _ _ _ _
      | exact node_Find.mono _ _ _ _
      | exact waybilllaw10_Small.mono _ _ _
      | exact waybilllaw10_Tame.mono _ _ _
      | exact waybilllaw10_awake.mono _
      | exact LeO.none _
      | refine LeO.ite ?_ ?_
      | refine LeO.bind ?_ (fun _ => ?_)
    · intro y0 y1 y2 y3 y4 y5 y6 y7 y8
      unfold waybilllaw10_NodeFind.j4
      repeat' first
      | (with_reducible exact ih0 _ _ _ _)
      | (with_reducible exact ih1 _ _ _ _)
      | (with_reducible exact ih2 _ _ _ _ _)
      | (with_reducible exact ih3 _ _ _ _ _ _ _ _)
      | (with_reducible exact ih4 _ _ _ _ _ _ _ _ _)
      | (with_reducible exact node_Find.mono _ _ _ _)
      | (with_reducible exact waybilllaw10_Small.mono _ _ _)
      | (with_reducible exact waybilllaw10_Tame.mono _ _ _)
      | (with_reducible exact waybilllaw10_awake.mono _)
      | (with_reducible exact LeO.refl _)
      | (with_reducible exact LeO.none _)
      | (with_reducible refine LeO.ite ?_ ?_)
      | (with_reducible refine LeO.bind ?_ (fun _ => ?_))
      | exact ih0 _ _ _ _
      | exact ih1 _ _ _ _
      | exact ih2 _ _ _ _ _
      | exact ih3 _ _ _ _ _ _ _ _
      | exact ih4 _ _ _ _ _ _ _ _ _
      | exact node_Find.mono _ _ _ _
      | exact waybilllaw10_Small.mono _ _ _
      | exact waybilllaw10_Tame.mono _ _ _
      | exact waybilllaw10_awake.mono _
      | exact LeO.none _
      | refine LeO.ite ?_ ?_
      | refine LeO.bind ?_ (fun _ => ?_)
theorem waybilllaw10_NodeFind.mono : ∀ a0 a1 a2 k, LeO (waybilllaw10_NodeFind.f k a0 a1 a2) (waybilllaw10_NodeFind.f (k + 1) a0 a1 a2) := by
  intro a0 a1 a2 k
  obtain ⟨ih0, ih1, ih2, ih3, ih4⟩ := waybilllaw10_NodeFind.mono_l k
  unfold waybilllaw10_NodeFind.f
  repeat' first
      | (with_reducible exact ih0 _ _ _ _)
      | (with_reducible exact ih1 _ _ _ _)
      | (with_reducible exact ih2 _ _ _ _ _)
      | (with_reducible exact ih3 _ _ _ _ _ _ _ _)
      | (with_reducible exact ih4 _ _ _ _ _ _ _ _ _)
      | (with_reducible exact node_Find.mono _ _ _ _)
      | (with_reducible exact waybilllaw10_Small.mono _ _ _)
      | (with_reducible exact waybilllaw10_Tame.mono _ _ _)
      | (with_reducible exact waybilllaw10_awake.mono _)
      | (with_reducible exact LeO.refl _)
      | (with_reducible exact LeO.none _)
      | (with_reducible refine LeO.ite ?_ ?_)
      | (with_reducible refine LeO.bind ?_ (fun _ => ?_))
      | exact ih0 _ _ _ _
      | exact ih1 _ _ _ _
      | exact ih2 _ _ _ _ _
      | exact ih3 _ _ _ _ _ _ _ _
      | exact ih4 _ _ _ _ _ _ _ _ _
      | exact node_Find.mono _ _ _ _
      | exact waybilllaw10_Small.mono _ _ _
      | exact waybilllaw10_Tame.mono _ _ _
      | exact waybilllaw10_awake.mono _
      | exact LeO.none _
      | refine LeO.ite ?_ ?_
      | refine LeO.bind ?_ (fun _ => ?_)
set_option maxHeartbeats 8000000 in
set_option maxRecDepth 100000 in
theorem waybilllaw10_NodeFind.calls (k : Nat) (a0_0 : Bool) (A0_1 : Option Addr) (c0_1 : Nat) (l0_1 : List (S41)) (a1 : ByteArray) (r : Bool) (w : World) (hr0_1 : Kd.C k41 w A0_1 l0_1.length l0_1) (hc0_1 : l0_1.length ≤ c0_1) (h : waybilllaw10_NodeFind.f k a0_0 l0_1 a1 = some r) :
    Calls Try.prog 10 #[.agg #[.bool a0_0, .slice A0_1 l0_1.length c0_1], .string a1] w fun e w' => e = .returned (.bool r) ∧ Below w.heap.size w w' := by
  have hu44 := Try.underlying44
  have HR0_1 := Aside0.mk hr0_1
  have HC0_1 := Aside0.mk hc0_1
  clear hr0_1 hc0_1
  have HB := Aside0.mk (Below.refl w.heap.size w)
  have H : ((waybilllaw10_Small.f k a0_0 l0_1).bind fun t464 => (if t464 = true then (waybilllaw10_NodeFind.j0 k a1 (decide ((a1.size : Int) > 300)) a0_0 l0_1) else (waybilllaw10_NodeFind.j0 k a1 true a0_0 l0_1))) = some r := h
  clear h
  have HC3 := Aside0.mk H
  clear H
  go_enter Try.func10, Try.ntmps10
  go_upto_region 1 with (first | ((with_reducible refine gate_dst (N := 2) rfl ?_); (try (refine gate_guard (by rfl) ?_; dsimp only)); refine box_event ?hg (N := 2) ?hd (cs := #[.bool a0_0, .slice A0_1 l0_1.length c0_1]) (t := 44) ?hr ?_; (case hd => rfl); (case hg => rfl); (case hr => first | (go_simp; done) | (go_simp; rfl)); intro gb463 hg w4 hbox hb; have n0_ := Aside0.mk (below_step (by repeat (first | (with_reducible first | exact HB.out | apply below_alloc | apply pw_below_drewN | apply below_drew1) | exact HB.out)) hb); have n1_ := Aside0.mk (hbox); have n2_ := Aside0.mk ((by rw [hg]; exact (below_size (by repeat (first | (with_reducible first | exact HB.out | apply below_alloc | apply pw_below_drewN | apply below_drew1) | exact HB.out))) : w.heap.size ≤ gb463)); have n3_ := Aside0.mk ((by rw [hg]; exact (below_size (by repeat (first | (with_reducible first | exact HB.out | apply below_alloc | apply pw_below_drewN | apply below_drew1) | exact HB.out))) : w.heap.size ≤ gb463)); clear HB; have HB := n0_; have BK463 := n1_; have GW463 := n2_; have GE463 := n3_; clear n0_ n1_ n2_ n3_; clear hb hbox hg))
  (try simp only [Act.put, List.setIfInBounds_toArray, List.set_cons_zero, List.set_cons_succ])
  go_cut [22] (fun v22 wc => ∃ (kq : Nat) (x22_2 : Bool), v22 = .bool x22_2 ∧ Aside0 (waybilllaw10_NodeFind.j0 kq a1 x22_2 a0_0 l0_1 = some r) ∧ Aside0 (kq ≤ k) ∧ Aside0 (wc.heap[gb463]? = some (.cells #[.bool a0_0, (.slice A0_1 l0_1.length c0_1)] 44 (0, 0))) ∧ Aside0 (Below w.heap.size w wc))
  case first =>
    have H := HC3.out
    clear HC3
    replace H := Option.bind_eq_some_iff.mp H
    obtain ⟨t464, A50, H⟩ := H
    replace H : (if t464 = true then (waybilllaw10_NodeFind.j0 k a1 (decide ((a1.size : Int) > 300)) a0_0 l0_1) else (waybilllaw10_NodeFind.j0 k a1 true a0_0 l0_1)) = some r := H
    have A5 := Aside0.mk A50
    clear A50
    by_cases c6 : t464 = true
    · subst c6
      have H1 : (waybilllaw10_NodeFind.j0 k a1 (decide ((a1.size : Int) > 300)) a0_0 l0_1) = some r := by rw [if_pos rfl] at H; exact H
      clear H
      have H := H1
      clear H1
      have H' := Aside0.mk H
      clear H
      have hcz7_0 : w4.cell? ⟨gb463, 0, none⟩ = some (.bool a0_0) := (blk_cell BK463.out 0).trans rfl
      have hcz7_1 : w4.cell? ⟨gb463, 1, none⟩ = some (.slice A0_1 l0_1.length c0_1) := (blk_cell BK463.out 1).trans rfl
      have hfz7_0 := blk_frozen BK463.out 0
      have hfz7_1 := blk_frozen BK463.out 1
      go_wp2_with (first | ((with_reducible refine gate_callee (f := 22) rfl ?_); refine goesL_ (some 16) rfl rfl Try.func22 (by kernel_rfl) rfl #[.agg #[.bool a0_0, .slice A0_1 l0_1.length c0_1]] rfl (by (try simp only [List.map_toArray, List.map_cons, List.map_nil]); first | done | rfl | (simp only [List.length_drop, List.length_take]; rfl)) ?_; (with_reducible refine (waybilllaw10_Small.calls k a0_0 _ _ l0_1 true _ ?side1 ?side2 A5.out).mono ?_); (case side1 => repeat (first | exact (Kd.C_below HR0_1.out HB.out) | (with_reducible refine Kd.C_alloc ?_ _) | (with_reducible refine Kd.C_drewN ?_ _) | (with_reducible refine Kd.C_drew ?_))); (case side2 => exact HC0_1.out); rintro e w8 ⟨rfl, hb⟩; refine ⟨_, rfl, ?_⟩; have n0_ := Aside0.mk (blk_below (g := gb463) (o := .cells #[.bool a0_0, .slice A0_1 l0_1.length c0_1] 44 (0, 0)) (by (with_reducible repeat (first | refine blk_drewN ?_ _ | refine blk_drew ?_ | refine blk_alloc ?_ _)); exact BK463.out) hb); have n1_ := Aside0.mk (below_step (by repeat (first | (with_reducible first | exact HB.out | apply below_alloc | apply pw_below_drewN | apply below_drew1 | refine below_set ?_ GE463.out) | exact HB.out)) hb); clear BK463; clear HB; have BK463 := n0_; have HB := n1_; clear n0_ n1_; (try clear hb); (try clear hb2); (try clear hk); (try clear hi); (try clear hge)))
      go_meet
      case rel => exact ⟨_, (decide ((a1.size : Int) > 300)), (by first | rfl | (simp; done) | (simp [*]; done)), H', ⟨by first | omega | exact Nat.le_refl _⟩, ⟨by (with_reducible repeat (first | refine blk_drewN ?_ _ | refine blk_drew ?_ | refine blk_alloc ?_ _)); exact BK463.out⟩, ⟨by repeat (first | (with_reducible first | exact HB.out | apply below_alloc | apply pw_below_drewN | apply below_drew1 | refine below_set ?_ GE463.out) | exact HB.out)⟩⟩
    · replace c6 := Bool.eq_false_iff.mpr c6
      subst c6
      have H1 : (waybilllaw10_NodeFind.j0 k a1 true a0_0 l0_1) = some r := by rw [if_neg (show ¬ (false = true) by decide)] at H; exact H
      clear H
      have H := H1
      clear H1
      have H' := Aside0.mk H
      clear H
      have hcz9_0 : w4.cell? ⟨gb463, 0, none⟩ = some (.bool a0_0) := (blk_cell BK463.out 0).trans rfl
      have hcz9_1 : w4.cell? ⟨gb463, 1, none⟩ = some (.slice A0_1 l0_1.length c0_1) := (blk_cell BK463.out 1).trans rfl
      have hfz9_0 := blk_frozen BK463.out 0
      have hfz9_1 := blk_frozen BK463.out 1
      go_wp2_with (first | ((with_reducible refine gate_callee (f := 22) rfl ?_); refine goesL_ (some 16) rfl rfl Try.func22 (by kernel_rfl) rfl #[.agg #[.bool a0_0, .slice A0_1 l0_1.length c0_1]] rfl (by (try simp only [List.map_toArray, List.map_cons, List.map_nil]); first | done | rfl | (simp only [List.length_drop, List.length_take]; rfl)) ?_; (with_reducible refine (waybilllaw10_Small.calls k a0_0 _ _ l0_1 false _ ?side1 ?side2 A5.out).mono ?_); (case side1 => repeat (first | exact (Kd.C_below HR0_1.out HB.out) | (with_reducible refine Kd.C_alloc ?_ _) | (with_reducible refine Kd.C_drewN ?_ _) | (with_reducible refine Kd.C_drew ?_))); (case side2 => exact HC0_1.out); rintro e w10 ⟨rfl, hb⟩; refine ⟨_, rfl, ?_⟩; have n0_ := Aside0.mk (blk_below (g := gb463) (o := .cells #[.bool a0_0, .slice A0_1 l0_1.length c0_1] 44 (0, 0)) (by (with_reducible repeat (first | refine blk_drewN ?_ _ | refine blk_drew ?_ | refine blk_alloc ?_ _)); exact BK463.out) hb); have n1_ := Aside0.mk (below_step (by repeat (first | (with_reducible first | exact HB.out | apply below_alloc | apply pw_below_drewN | apply below_drew1 | refine below_set ?_ GE463.out) | exact HB.out)) hb); clear BK463; clear HB; have BK463 := n0_; have HB := n1_; clear n0_ n1_; (try clear hb); (try clear hb2); (try clear hk); (try clear hi); (try clear hge)))
      go_meet
      case rel => exact ⟨_, (true), (by first | rfl | (simp; done) | (simp [*]; done)), H', ⟨by first | omega | exact Nat.le_refl _⟩, ⟨by (with_reducible repeat (first | refine blk_drewN ?_ _ | refine blk_drew ?_ | refine blk_alloc ?_ _)); exact BK463.out⟩, ⟨by repeat (first | (with_reducible first | exact HB.out | apply below_alloc | apply pw_below_drewN | apply below_drew1 | refine below_set ?_ GE463.out) | exact HB.out)⟩⟩
  case rest =>
    clear HC3
    try clear c1
    try clear c2
    try clear p2
    try clear c6
    try clear c10
    try clear hcz7_0
    try clear hcz7_1
    try clear hcz9_0
    try clear hcz9_1
    try clear hfz7_0
    try clear hfz7_1
    try clear hfz9_0
    try clear hfz9_1
    obtain ⟨kq, x22_2, rfl, HA, HJ2, BK463, HB⟩ := hcut
    cases kq with
    | zero => exact absurd HA.out (by simp [waybilllaw10_NodeFind.j0])
    | succ kj2 =>
      have H := HA.out
      clear HA
      simp only [waybilllaw10_NodeFind.j0] at H
      by_cases c11 : x22_2 = true
      · subst c11
        have H1 : ((waybilllaw10_awake.f kj2).bind fun t465 => (some t465)) = some r := by rw [if_pos rfl] at H; exact H
        clear H
        have H := H1
        clear H1
        replace H := Option.bind_eq_some_iff.mp H
        obtain ⟨t465, A120, H⟩ := H
        replace H : (some t465) = some r := H
        have A12 := Aside0.mk A120
        clear A120
        obtain rfl := Option.some.inj H
        go_wp2_with (first | ((with_reducible refine gate_callee (f := 21) rfl ?_); refine goesL_ (some 23) rfl rfl Try.func21 (by kernel_rfl) rfl #[] rfl (by (try simp only [List.map_toArray, List.map_cons, List.map_nil]); first | done | rfl | (simp only [List.length_drop, List.length_take]; rfl)) ?_; (with_reducible refine (waybilllaw10_awake.calls kj2  t465 _ A12.out).mono ?_); rintro e w13 ⟨rfl, hb⟩; refine ⟨_, rfl, ?_⟩; have n0_ := Aside0.mk (blk_below (g := gb463) (o := .cells #[.bool a0_0, .slice A0_1 l0_1.length c0_1] 44 (0, 0)) (by (with_reducible repeat (first | refine blk_drewN ?_ _ | refine blk_drew ?_ | refine blk_alloc ?_ _)); exact BK463.out) hb); have n1_ := Aside0.mk (below_step (by repeat (first | (with_reducible first | exact HB.out | apply below_alloc | apply pw_below_drewN | apply below_drew1 | refine below_set ?_ GE463.out) | exact HB.out)) hb); clear BK463; clear HB; have BK463 := n0_; have HB := n1_; clear n0_ n1_; (try clear hb); (try clear hb2); (try clear hk); (try clear hi); (try clear hge)))
        all_goals first | (go_ret; exact ⟨by first | rfl | (simp [errW_none, errW_some]; done) | (simp [errW_none, errW_some]; rfl) | (simp [*, errW_none, errW_some]; done) | (simp [*, errW_none, errW_some]; rfl), by repeat (first | (with_reducible first | exact HB.out | apply below_alloc | apply pw_below_drewN | apply below_drew1 | refine below_set ?_ GE463.out) | exact HB.out)⟩) | (exfalso; simp_all; done)
      · replace c11 := Bool.eq_false_iff.mpr c11
        subst c11
        have H1 : ((waybilllaw10_Tame.f kj2 a0_0 l0_1).bind fun bt466 => (if (bt466.2.length : Int) = 0 then ((node_Find.f kj2 bt466.1 bt466.2 a1).bind fun bt470 => (if bt470.1 = 0 then (if bt470.2 = true then (none) else ((waybilllaw10_awake.f kj2).bind fun t472 => (some t472))) else (none))) else (waybilllaw10_NodeFind.l0 kj2 a1 (-1) bt466.1 bt466.2))) = some r := by rw [if_neg (show ¬ (false = true) by decide)] at H; exact H
        clear H
        have H := H1
        clear H1
        replace H := Option.bind_eq_some_iff.mp H
        obtain ⟨⟨t466, t467⟩, A140, H⟩ := H
        replace H : (if (t467.length : Int) = 0 then ((node_Find.f kj2 t466 t467 a1).bind fun bt470 => (if bt470.1 = 0 then (if bt470.2 = true then (none) else ((waybilllaw10_awake.f kj2).bind fun t472 => (some t472))) else (none))) else (waybilllaw10_NodeFind.l0 kj2 a1 (-1) t466 t467)) = some r := H
        have A14 := Aside0.mk A140
        clear A140
        by_cases c15 : (t467.length : Int) = 0
        · rw [if_pos c15] at H
          have c15b0 : ((t467.length : Int) == 0) = true := beq_iff_eq.mpr c15
          have c15b1 : ((t467.length : Int) != 0) = false := bne_eq_false_iff_eq.mpr c15
          clear c15
          replace H := Option.bind_eq_some_iff.mp H
          obtain ⟨⟨t470, t471⟩, A160, H⟩ := H
          replace H : (if t470 = 0 then (if t471 = true then (none) else ((waybilllaw10_awake.f kj2).bind fun t472 => (some t472))) else (none)) = some r := H
          have A16 := Aside0.mk A160
          clear A160
          by_cases c17 : t470 = 0
          · rw [if_pos c17] at H
            have c17b0 : (t470 == 0) = true := beq_iff_eq.mpr c17
            have c17b1 : (t470 != 0) = false := bne_eq_false_iff_eq.mpr c17
            clear c17
            by_cases c18 : t471 = true
            · subst c18
              have H1 : (none) = some r := by rw [if_pos rfl] at H; exact H
              clear H
              have H := H1
              clear H1
              exact absurd H (by simp)
            · replace c18 := Bool.eq_false_iff.mpr c18
              subst c18
              have H1 : ((waybilllaw10_awake.f kj2).bind fun t472 => (some t472)) = some r := by rw [if_neg (show ¬ (false = true) by decide)] at H; exact H
              clear H
              have H := H1
              clear H1
              replace H := Option.bind_eq_some_iff.mp H
              obtain ⟨t472, A190, H⟩ := H
              replace H : (some t472) = some r := H
              have A19 := Aside0.mk A190
              clear A190
              obtain rfl := Option.some.inj H
              have hcz20_0 : wc.cell? ⟨gb463, 0, none⟩ = some (.bool a0_0) := (blk_cell BK463.out 0).trans rfl
              have hcz20_1 : wc.cell? ⟨gb463, 1, none⟩ = some (.slice A0_1 l0_1.length c0_1) := (blk_cell BK463.out 1).trans rfl
              have hfz20_0 := blk_frozen BK463.out 0
              have hfz20_1 := blk_frozen BK463.out 1
              go_wp2_with (first | ((with_reducible refine gate_callee (f := 30) rfl ?_); refine goesL_ (some 25) rfl rfl Try.func30 (by kernel_rfl) rfl #[.agg #[.bool a0_0, .slice A0_1 l0_1.length c0_1]] rfl (by (try simp only [List.map_toArray, List.map_cons, List.map_nil]); first | done | rfl | (simp only [List.length_drop, List.length_take]; rfl)) ?_; (with_reducible refine (waybilllaw10_Tame.calls kj2 a0_0 _ _ l0_1 t466 t467 _ ?side1 ?side2 A14.out).mono ?_); (case side1 => repeat (first | exact (Kd.C_below HR0_1.out HB.out) | (with_reducible refine Kd.C_alloc ?_ _) | (with_reducible refine Kd.C_drewN ?_ _) | (with_reducible refine Kd.C_drew ?_))); (case side2 => exact HC0_1.out); rintro e w21 ⟨v468, rfl, ho0, hb⟩; refine ⟨_, rfl, ?_⟩; have n0_ := Aside0.mk (Kd.R_lower ho0 (below_size (by repeat (first | (with_reducible first | exact HB.out | apply below_alloc | apply pw_below_drewN | apply below_drew1 | refine below_set ?_ GE463.out) | exact HB.out)))); have n1_ := Aside0.mk (blk_below (g := gb463) (o := .cells #[.bool a0_0, .slice A0_1 l0_1.length c0_1] 44 (0, 0)) (by (with_reducible repeat (first | refine blk_drewN ?_ _ | refine blk_drew ?_ | refine blk_alloc ?_ _)); exact BK463.out) hb); have n2_ := Aside0.mk (below_step (by repeat (first | (with_reducible first | exact HB.out | apply below_alloc | apply pw_below_drewN | apply below_drew1 | refine below_set ?_ GE463.out) | exact HB.out)) hb); clear BK463; clear HB; have HO469 := n0_; have BK463 := n1_; have HB := n2_; clear n0_ n1_ n2_; (try clear hb); (try clear hb2); (try clear hk); (try clear hi); (try clear hge); (try clear ho0); have hcz22_0 : w21.cell? ⟨gb463, 0, none⟩ = some (.bool a0_0) := (blk_cell BK463.out 0).trans rfl; have hcz22_1 : w21.cell? ⟨gb463, 1, none⟩ = some (.slice A0_1 l0_1.length c0_1) := (blk_cell BK463.out 1).trans rfl; have hfz22_0 := blk_frozen BK463.out 0; have hfz22_1 := blk_frozen BK463.out 1; obtain ⟨Ao23, co23, eo23⟩ := Kd.R_slice HO469.out; subst eo23) | ((with_reducible refine gate_callee (f := 31) rfl ?_); refine goesL_ (some 33) rfl rfl Try.func31 (by kernel_rfl) rfl #[.agg #[.bool t466, .slice Ao23 t467.length co23], .string a1] rfl (by (try simp only [List.map_toArray, List.map_cons, List.map_nil]); first | done | rfl | (simp only [List.length_drop, List.length_take]; rfl)) ?_; (with_reducible refine (node_Find.calls kj2 t466 _ _ t467 a1 t470 false _ ?side1 ?side2 A16.out).mono ?_); (case side1 => refine (Kd.R_reads' (e := 41) (base := w.heap.size) (ok := fun k_ => True) (n := t467.length) (c := co23) ?_).2.2; exact (by (with_reducible repeat (first | apply Kd.R_alloc | apply Kd.R_drewN | apply Kd.R_drew)); exact (Kd.R_mono (Kd.R_far (p := ⟨gb463, 1, none⟩) (Kd.R_far (p := ⟨gb463, 0, none⟩) (Kd.R_types HO469.out BK463.out (by decide)) (fun _ hk => hk.2) (.bool t466)) (fun _ hk => hk.2) (.slice Ao23 t467.length co23)) (fun _ h_ => h_.1)))); (case side2 => exact (Kd.R_reads' HO469.out).2.1); rintro e w24 ⟨rfl, hb⟩; refine ⟨_, rfl, ?_⟩; have n0_ := Aside0.mk (Kd.R_below (by (with_reducible repeat (first | apply Kd.R_alloc | apply Kd.R_drewN | apply Kd.R_drew)); exact (Kd.R_mono (Kd.R_far (p := ⟨gb463, 1, none⟩) (Kd.R_far (p := ⟨gb463, 0, none⟩) (Kd.R_types HO469.out BK463.out (by decide)) (fun _ hk => hk.2) (.bool t466)) (fun _ hk => hk.2) (.slice Ao23 t467.length co23)) (fun _ h_ => h_.1))) hb); have n1_ := Aside0.mk (blk_below (g := gb463) (o := .cells #[.bool t466, .slice Ao23 t467.length co23] 44 (0, 0)) (by (with_reducible repeat (first | refine blk_drewN ?_ _ | refine blk_drew ?_ | refine blk_alloc ?_ _)); refine blk_put (cs := #[.bool t466, .slice A0_1 l0_1.length c0_1]) ?_ 1 _ rfl; (with_reducible repeat (first | refine blk_drewN ?_ _ | refine blk_drew ?_ | refine blk_alloc ?_ _)); refine blk_put (cs := #[.bool a0_0, .slice A0_1 l0_1.length c0_1]) ?_ 0 _ rfl; (with_reducible repeat (first | refine blk_drewN ?_ _ | refine blk_drew ?_ | refine blk_alloc ?_ _)); exact BK463.out) hb); have n2_ := Aside0.mk (below_step (by repeat (first | (with_reducible first | exact HB.out | apply below_alloc | apply pw_below_drewN | apply below_drew1 | refine below_set ?_ GE463.out) | exact HB.out)) hb); clear HO469; clear BK463; clear HB; have HO469 := n0_; have BK463 := n1_; have HB := n2_; clear n0_ n1_ n2_; (try clear hb); (try clear hb2); (try clear hk); (try clear hi); (try clear hge)) | (go_at_call 21; (with_reducible refine (waybilllaw10_awake.calls kj2  t472 _ A19.out).mono ?_); rintro e w25 ⟨rfl, hb⟩; have n0_ := Aside0.mk (Kd.R_below (by (with_reducible repeat (first | apply Kd.R_alloc | apply Kd.R_drewN | apply Kd.R_drew)); exact HO469.out) hb); have n1_ := Aside0.mk (blk_below (g := gb463) (o := .cells #[.bool t466, .slice Ao23 t467.length co23] 44 (0, 0)) (by (with_reducible repeat (first | refine blk_drewN ?_ _ | refine blk_drew ?_ | refine blk_alloc ?_ _)); exact BK463.out) hb); have n2_ := Aside0.mk (below_step (by repeat (first | (with_reducible first | exact HB.out | apply below_alloc | apply pw_below_drewN | apply below_drew1 | refine below_set ?_ GE463.out) | exact HB.out)) hb); clear HO469; clear BK463; clear HB; have HO469 := n0_; have BK463 := n1_; have HB := n2_; clear n0_ n1_ n2_; (try clear hb); (try clear hb2); (try clear hk); (try clear hi); (try clear hge)))
              all_goals first | (go_ret; exact ⟨by first | rfl | (simp [errW_none, errW_some]; done) | (simp [errW_none, errW_some]; rfl) | (simp [*, errW_none, errW_some]; done) | (simp [*, errW_none, errW_some]; rfl), by repeat (first | (with_reducible first | exact HB.out | apply below_alloc | apply pw_below_drewN | apply below_drew1 | refine below_set ?_ GE463.out) | exact HB.out)⟩) | (exfalso; simp_all; done)
          · rw [if_neg c17] at H
            exact absurd H (by simp)
        · rw [if_neg c15] at H
          have c15b0 : ((t467.length : Int) == 0) = false := beq_eq_false_iff_ne.mpr c15
          have c15b1 : ((t467.length : Int) != 0) = true := bne_iff_ne.mpr c15
          have c15b2 : ¬ (t467 = []) := fun h_ => c15 (by rw [h_]; rfl)
          have H' := Aside0.mk H
          clear H
          have hcz26_0 : wc.cell? ⟨gb463, 0, none⟩ = some (.bool a0_0) := (blk_cell BK463.out 0).trans rfl
          have hcz26_1 : wc.cell? ⟨gb463, 1, none⟩ = some (.slice A0_1 l0_1.length c0_1) := (blk_cell BK463.out 1).trans rfl
          have hfz26_0 := blk_frozen BK463.out 0
          have hfz26_1 := blk_frozen BK463.out 1
          go_wp2_with (first | ((with_reducible refine gate_callee (f := 30) rfl ?_); refine goesL_ (some 25) rfl rfl Try.func30 (by kernel_rfl) rfl #[.agg #[.bool a0_0, .slice A0_1 l0_1.length c0_1]] rfl (by (try simp only [List.map_toArray, List.map_cons, List.map_nil]); first | done | rfl | (simp only [List.length_drop, List.length_take]; rfl)) ?_; (with_reducible refine (waybilllaw10_Tame.calls kj2 a0_0 _ _ l0_1 t466 t467 _ ?side1 ?side2 A14.out).mono ?_); (case side1 => repeat (first | exact (Kd.C_below HR0_1.out HB.out) | (with_reducible refine Kd.C_alloc ?_ _) | (with_reducible refine Kd.C_drewN ?_ _) | (with_reducible refine Kd.C_drew ?_))); (case side2 => exact HC0_1.out); rintro e w27 ⟨v468, rfl, ho0, hb⟩; refine ⟨_, rfl, ?_⟩; have n0_ := Aside0.mk (Kd.R_lower ho0 (below_size (by repeat (first | (with_reducible first | exact HB.out | apply below_alloc | apply pw_below_drewN | apply below_drew1 | refine below_set ?_ GE463.out) | exact HB.out)))); have n1_ := Aside0.mk (blk_below (g := gb463) (o := .cells #[.bool a0_0, .slice A0_1 l0_1.length c0_1] 44 (0, 0)) (by (with_reducible repeat (first | refine blk_drewN ?_ _ | refine blk_drew ?_ | refine blk_alloc ?_ _)); exact BK463.out) hb); have n2_ := Aside0.mk (below_step (by repeat (first | (with_reducible first | exact HB.out | apply below_alloc | apply pw_below_drewN | apply below_drew1 | refine below_set ?_ GE463.out) | exact HB.out)) hb); clear BK463; clear HB; have HO469 := n0_; have BK463 := n1_; have HB := n2_; clear n0_ n1_ n2_; (try clear hb); (try clear hb2); (try clear hk); (try clear hi); (try clear hge); (try clear ho0); have hcz28_0 : w27.cell? ⟨gb463, 0, none⟩ = some (.bool a0_0) := (blk_cell BK463.out 0).trans rfl; have hcz28_1 : w27.cell? ⟨gb463, 1, none⟩ = some (.slice A0_1 l0_1.length c0_1) := (blk_cell BK463.out 1).trans rfl; have hfz28_0 := blk_frozen BK463.out 0; have hfz28_1 := blk_frozen BK463.out 1; obtain ⟨Ao29, co29, eo29⟩ := Kd.R_slice HO469.out; subst eo29))
          go_loopg [7] kj2 (fun kq v7 w' => ∃ (x7_2 : Int), v7 = .int .i64 x7_2 ∧ Aside0 (waybilllaw10_NodeFind.l0 kq a1 x7_2 t466 t467 = some r) ∧ Aside0 (kq ≤ kj2) ∧ Aside0 (Kd.R k41 41 w' w.heap.size (fun _ => True) (.slice Ao29 t467.length co29) t467) ∧ Aside0 (w'.heap[gb463]? = some (.cells #[.bool t466, (.slice Ao29 t467.length co29)] 44 (0, 0))) ∧ Aside0 (Below w.heap.size w w'))
          case atStart => exact ⟨((-1)), (by first | rfl | (simp; done) | (simp [*]; done)), H', ⟨Nat.le_refl _⟩, ⟨by (with_reducible repeat (first | apply Kd.R_alloc | apply Kd.R_drewN | apply Kd.R_drew)); exact Kd.R_mono (Kd.R_far (p := ⟨gb463, 1, none⟩) (Kd.R_far (p := ⟨gb463, 0, none⟩) (Kd.R_types HO469.out BK463.out (by decide)) (fun _ hk => hk.2) (.bool t466)) (fun _ hk => hk.2) (.slice Ao29 t467.length co29)) (fun _ hk => trivial)⟩, ⟨by (with_reducible repeat (first | refine blk_drewN ?_ _ | refine blk_drew ?_ | refine blk_alloc ?_ _)); refine blk_put (cs := #[.bool t466, .slice A0_1 l0_1.length c0_1]) ?_ 1 _ rfl; (with_reducible repeat (first | refine blk_drewN ?_ _ | refine blk_drew ?_ | refine blk_alloc ?_ _)); refine blk_put (cs := #[.bool a0_0, .slice A0_1 l0_1.length c0_1]) ?_ 0 _ rfl; (with_reducible repeat (first | refine blk_drewN ?_ _ | refine blk_drew ?_ | refine blk_alloc ?_ _)); exact BK463.out⟩, ⟨by repeat (first | (with_reducible first | exact HB.out | apply below_alloc | apply pw_below_drewN | apply below_drew1 | refine below_set ?_ GE463.out) | exact HB.out)⟩⟩
          case round =>
            clear H'
            try clear c1
            try clear c2
            try clear p2
            try clear c3
            try clear c6
            try clear c10
            try clear c11
            try clear c15
            try clear c15b0
            try clear c15b1
            try clear c15b2
            try clear c17
            try clear c17b0
            try clear c17b1
            try clear c18
            try clear c21
            try clear c22
            try clear hcz20_0
            try clear hcz20_1
            try clear hcz22_0
            try clear hcz22_1
            try clear hcz26_0
            try clear hcz26_1
            try clear hcz28_0
            try clear hcz28_1
            try clear hcz7_0
            try clear hcz7_1
            try clear hcz9_0
            try clear hcz9_1
            try clear hfz20_0
            try clear hfz20_1
            try clear hfz22_0
            try clear hfz22_1
            try clear hfz26_0
            try clear hfz26_1
            try clear hfz28_0
            try clear hfz28_1
            try clear hfz7_0
            try clear hfz7_1
            try clear hfz9_0
            try clear hfz9_1
            try clear p2
            obtain ⟨x7_2, rfl, HA, HK2, HO_464001, BK463, HB⟩ := hrel
            cases gk with
            | zero => exact absurd HA.out (by simp [waybilllaw10_NodeFind.l0])
            | succ k2 =>
              have H := HA.out
              clear HA
              simp only [waybilllaw10_NodeFind.l0] at H
              by_cases c30 : x7_2 < (t467.length : Int)
              · rw [if_pos c30] at H
                have c30b0 : decide (x7_2 < (t467.length : Int)) = true := decide_eq_true c30
                clear c30
                have HC31 := Aside0.mk H
                clear H
                have hcz32_0 : wr.cell? ⟨gb463, 0, none⟩ = some (.bool t466) := (blk_cell BK463.out 0).trans rfl
                have hcz32_1 : wr.cell? ⟨gb463, 1, none⟩ = some (.slice Ao29 t467.length co29) := (blk_cell BK463.out 1).trans rfl
                have hfz32_0 := blk_frozen BK463.out 0
                have hfz32_1 := blk_frozen BK463.out 1
                go_upto_if 54 with (fail)
                go_cut [8] (fun v8 wc => ∃ (kq : Nat) (x8_30 : ByteArray), v8 = .string x8_30 ∧ Aside0 (waybilllaw10_NodeFind.j2 kq a1 x7_2 x8_30 t466 t467 = some r) ∧ Aside0 (kq ≤ k2) ∧ Aside0 (Kd.R k41 41 wc w.heap.size (fun _ => True) (.slice Ao29 t467.length co29) t467) ∧ Aside0 (wc.heap[gb463]? = some (.cells #[.bool t466, (.slice Ao29 t467.length co29)] 44 (0, 0))) ∧ Aside0 (Below w.heap.size w wc))
                case first =>
                  have H := HC31.out
                  clear HC31
                  by_cases c33 : x7_2 ≥ 0
                  · rw [if_pos c33] at H
                    have c33b0 : decide (0 ≤ x7_2) = true := decide_eq_true c33
                    clear c33
                    (first | rw [c33b0] | rw [c33b2] | rw [c33b1] | (simp only [i64_w, i32_w]; rw [c33b0]) | skip)
                    by_cases c34 : 0 ≤ x7_2
                    · rw [if_pos c34] at H
                      have c34b0 : decide (0 ≤ x7_2) = true := decide_eq_true c34
                      clear c34
                      have H' := Aside0.mk H
                      clear H
                      have hcz35_0 : wr.cell? ⟨gb463, 0, none⟩ = some (.bool t466) := (blk_cell BK463.out 0).trans rfl
                      have hcz35_1 : wr.cell? ⟨gb463, 1, none⟩ = some (.slice Ao29 t467.length co29) := (blk_cell BK463.out 1).trans rfl
                      have hfz35_0 := blk_frozen BK463.out 0
                      have hfz35_1 := blk_frozen BK463.out 1
                      have p474 : 0 ≤ (x7_2 : Int) := of_decide_eq_true (by first | (with_reducible assumption) | assumption)
                      have q474 : x7_2 < (t467.length : Int) := of_decide_eq_true (by first | (with_reducible assumption) | assumption)
                      obtain ⟨ad474, e474, hx474_0, hx474_1, hx474_2⟩ := at_T41 (Kd.R_reads' HO_464001.out).2.2 x7_2 p474 q474
                      cases e474
                      replace p474 := eq_true p474
                      replace q474 := eq_true q474
                      go_wp2
                      go_meet
                      case rel => exact ⟨_, ((rd_T41 t467 x7_2).f0), (by first | rfl | (simp; done) | (simp [*]; done)), H', ⟨by have := HJ2.out; have := HK2.out; first | omega | exact Nat.le_refl _⟩, ⟨by (with_reducible repeat (first | apply Kd.R_alloc | apply Kd.R_drewN | apply Kd.R_drew)); exact HO_464001.out⟩, ⟨by (with_reducible repeat (first | refine blk_drewN ?_ _ | refine blk_drew ?_ | refine blk_alloc ?_ _)); exact BK463.out⟩, ⟨by repeat (first | (with_reducible first | exact HB.out | apply below_alloc | apply pw_below_drewN | apply below_drew1 | refine below_set ?_ GE463.out) | exact HB.out)⟩⟩
                    · rw [if_neg c34] at H
                      exact absurd H (by simp)
                  · rw [if_neg c33] at H
                    have c33b0 : decide (0 ≤ x7_2) = false := decide_eq_false c33
                    clear c33
                    (first | rw [c33b0] | rw [c33b2] | rw [c33b1] | (simp only [i64_w, i32_w]; rw [c33b0]) | skip)
                    have H' := Aside0.mk H
                    clear H
                    go_wp2
                    go_meet
                    case rel => exact ⟨_, (a1), (by first | rfl | (simp; done) | (simp [*]; done)), H', ⟨by have := HJ2.out; have := HK2.out; first | omega | exact Nat.le_refl _⟩, ⟨by (with_reducible repeat (first | apply Kd.R_alloc | apply Kd.R_drewN | apply Kd.R_drew)); exact HO_464001.out⟩, ⟨by (with_reducible repeat (first | refine blk_drewN ?_ _ | refine blk_drew ?_ | refine blk_alloc ?_ _)); exact BK463.out⟩, ⟨by repeat (first | (with_reducible first | exact HB.out | apply below_alloc | apply pw_below_drewN | apply below_drew1 | refine below_set ?_ GE463.out) | exact HB.out)⟩⟩
                case rest =>
                  clear HC31
                  try clear c1
                  try clear c2
                  try clear p2
                  try clear c3
                  try clear p4
                  try clear q4
                  try clear hx4
                  try clear c6
                  try clear c10
                  try clear c11
                  try clear c15
                  try clear c15b0
                  try clear c15b1
                  try clear c15b2
                  try clear c17
                  try clear c17b0
                  try clear c17b1
                  try clear c18
                  try clear c21
                  try clear c22
                  try clear c30
                  try clear c30b0
                  try clear c31
                  try clear c33
                  try clear c33b0
                  try clear c34
                  try clear c34b0
                  try clear hcz20_0
                  try clear hcz20_1
                  try clear hcz22_0
                  try clear hcz22_1
                  try clear hcz26_0
                  try clear hcz26_1
                  try clear hcz28_0
                  try clear hcz28_1
                  try clear hcz32_0
                  try clear hcz32_1
                  try clear hcz35_0
                  try clear hcz35_1
                  try clear hcz7_0
                  try clear hcz7_1
                  try clear hcz9_0
                  try clear hcz9_1
                  try clear hfz20_0
                  try clear hfz20_1
                  try clear hfz22_0
                  try clear hfz22_1
                  try clear hfz26_0
                  try clear hfz26_1
                  try clear hfz28_0
                  try clear hfz28_1
                  try clear hfz32_0
                  try clear hfz32_1
                  try clear hfz35_0
                  try clear hfz35_1
                  try clear hfz7_0
                  try clear hfz7_1
                  try clear hfz9_0
                  try clear hfz9_1
                  try clear hx474_0
                  try clear hx474_1
                  try clear hx474_2
                  try clear p2
                  try clear p474
                  try clear q474
                  obtain ⟨kq, x8_30, rfl, HA, HJ30, HO_464001, BK463, HB⟩ := hcut
                  cases kq with
                  | zero => exact absurd HA.out (by simp [waybilllaw10_NodeFind.j2])
                  | succ kj30 =>
                    have H := HA.out
                    clear HA
                    simp only [waybilllaw10_NodeFind.j2] at H
                    have H' := Aside0.mk H
                    clear H
                    go_wp2
                    go_loopg [9, 10, 11] kj30 (fun kq v9 v10 v11 w' => ∃ (x9_4 : Int) (x10_4 : Bool) (x11_4 : Int), v9 = .int .i64 x9_4 ∧ v10 = .bool x10_4 ∧ v11 = .int .i64 x11_4 ∧ Aside0 (waybilllaw10_NodeFind.l1 kq a1 x7_2 x8_30 x9_4 x10_4 x11_4 t466 t467 = some r) ∧ Aside0 (kq ≤ kj30) ∧ Aside0 (Kd.R k41 41 w' w.heap.size (fun _ => True) (.slice Ao29 t467.length co29) t467) ∧ Aside0 (w'.heap[gb463]? = some (.cells #[.bool t466, (.slice Ao29 t467.length co29)] 44 (0, 0))) ∧ Aside0 (Below w.heap.size w w'))
                    case atStart => exact ⟨(0), (false), (0), (by first | rfl | (simp; done) | (simp [*]; done)), (by first | rfl | (simp; done) | (simp [*]; done)), (by first | rfl | (simp; done) | (simp [*]; done)), H', ⟨Nat.le_refl _⟩, ⟨by (with_reducible repeat (first | apply Kd.R_alloc | apply Kd.R_drewN | apply Kd.R_drew)); exact HO_464001.out⟩, ⟨by (with_reducible repeat (first | refine blk_drewN ?_ _ | refine blk_drew ?_ | refine blk_alloc ?_ _)); exact BK463.out⟩, ⟨by repeat (first | (with_reducible first | exact HB.out | apply below_alloc | apply pw_below_drewN | apply below_drew1 | refine below_set ?_ GE463.out) | exact HB.out)⟩⟩
                    case round =>
                      clear H'
                      try clear c1
                      try clear c2
                      try clear p2
                      try clear c3
                      try clear p4
                      try clear q4
                      try clear hx4
                      try clear c6
                      try clear c10
                      try clear c11
                      try clear c15
                      try clear c15b0
                      try clear c15b1
                      try clear c15b2
                      try clear c17
                      try clear c17b0
                      try clear c17b1
                      try clear c18
                      try clear c21
                      try clear c22
                      try clear c30
                      try clear c30b0
                      try clear c31
                      try clear c33
                      try clear c33b0
                      try clear c34
                      try clear c34b0
                      try clear hcz20_0
                      try clear hcz20_1
                      try clear hcz22_0
                      try clear hcz22_1
                      try clear hcz26_0
                      try clear hcz26_1
                      try clear hcz28_0
                      try clear hcz28_1
                      try clear hcz32_0
                      try clear hcz32_1
                      try clear hcz35_0
                      try clear hcz35_1
                      try clear hcz7_0
                      try clear hcz7_1
                      try clear hcz9_0
                      try clear hcz9_1
                      try clear hfz20_0
                      try clear hfz20_1
                      try clear hfz22_0
                      try clear hfz22_1
                      try clear hfz26_0
                      try clear hfz26_1
                      try clear hfz28_0
                      try clear hfz28_1
                      try clear hfz32_0
                      try clear hfz32_1
                      try clear hfz35_0
                      try clear hfz35_1
                      try clear hfz7_0
                      try clear hfz7_1
                      try clear hfz9_0
                      try clear hfz9_1
                      try clear hx474_0
                      try clear hx474_1
                      try clear hx474_2
                      try clear p2
                      try clear p4
                      try clear p474
                      try clear q4
                      try clear q474
                      obtain ⟨x9_4, x10_4, x11_4, rfl, rfl, rfl, HA, HK4, HO_464001, BK463, HB⟩ := hrel
                      cases gk with
                      | zero => exact absurd HA.out (by simp [waybilllaw10_NodeFind.l1])
                      | succ k4 =>
                        have H := HA.out
                        clear HA
                        simp only [waybilllaw10_NodeFind.l1] at H
                        by_cases c36 : x11_4 < (t467.length : Int)
                        · rw [if_pos c36] at H
                          have c36b0 : decide (x11_4 < (t467.length : Int)) = true := decide_eq_true c36
                          clear c36
                          by_cases c37 : 0 ≤ x11_4
                          · rw [if_pos c37] at H
                            have c37b0 : decide (0 ≤ x11_4) = true := decide_eq_true c37
                            clear c37
                            by_cases c38 : (Op.bytesLess (((rd_T41 t467 x11_4).f0).toList) x8_30.toList) = true
                            · rw [if_pos c38] at H
                              have c38b0 : (Op.bytesLess (((rd_T41 t467 x11_4).f0).toList) x8_30.toList) = true := c38
                              clear c38
                              by_cases c39 : x10_4 = true
                              · subst c39
                                have H1 : (waybilllaw10_NodeFind.l1 k4 a1 x7_2 x8_30 (wrap64 (x9_4 + 1)) true (wrap64 (x11_4 + 1)) t466 t467) = some r := by rw [if_pos rfl] at H; exact H
                                clear H
                                have H := H1
                                clear H1
                                have H' := Aside0.mk H
                                clear H
                                have hcz40_0 : wr.cell? ⟨gb463, 0, none⟩ = some (.bool t466) := (blk_cell BK463.out 0).trans rfl
                                have hcz40_1 : wr.cell? ⟨gb463, 1, none⟩ = some (.slice Ao29 t467.length co29) := (blk_cell BK463.out 1).trans rfl
                                have hfz40_0 := blk_frozen BK463.out 0
                                have hfz40_1 := blk_frozen BK463.out 1
                                have p475 : 0 ≤ (x11_4 : Int) := of_decide_eq_true (by first | (with_reducible assumption) | assumption)
                                have q475 : x11_4 < (t467.length : Int) := of_decide_eq_true (by first | (with_reducible assumption) | assumption)
                                obtain ⟨ad475, e475, hx475_0, hx475_1, hx475_2⟩ := at_T41 (Kd.R_reads' HO_464001.out).2.2 x11_4 p475 q475
                                cases e475
                                replace p475 := eq_true p475
                                replace q475 := eq_true q475
                                go_wp2
                                go_roundg k4
                                case measure => have := HJ2.out; have := HK2.out; have := HJ30.out; have := HK4.out; omega
                                case rel => exact ⟨(wrap64 (x9_4 + 1)), (true), (wrap64 (x11_4 + 1)), (by first | rfl | (simp; done) | (simp [*]; done)), (by first | rfl | (simp; done) | (simp [*]; done)), (by first | rfl | (simp; done) | (simp [*]; done)), H', ⟨by have := HJ2.out; have := HK2.out; have := HJ30.out; have := HK4.out; omega⟩, ⟨by (with_reducible repeat (first | apply Kd.R_alloc | apply Kd.R_drewN | apply Kd.R_drew)); exact HO_464001.out⟩, ⟨by (with_reducible repeat (first | refine blk_drewN ?_ _ | refine blk_drew ?_ | refine blk_alloc ?_ _)); exact BK463.out⟩, ⟨by repeat (first | (with_reducible first | exact HB.out | apply below_alloc | apply pw_below_drewN | apply below_drew1 | refine below_set ?_ GE463.out) | exact HB.out)⟩⟩
                              · replace c39 := Bool.eq_false_iff.mpr c39
                                subst c39
                                have H1 : (waybilllaw10_NodeFind.l1 k4 a1 x7_2 x8_30 (wrap64 (x9_4 + 1)) (((rd_T41 t467 x11_4).f0).toList == x8_30.toList) (wrap64 (x11_4 + 1)) t466 t467) = some r := by rw [if_neg (show ¬ (false = true) by decide)] at H; exact H
                                clear H
                                have H := H1
                                clear H1
                                have H' := Aside0.mk H
                                clear H
                                have hcz41_0 : wr.cell? ⟨gb463, 0, none⟩ = some (.bool t466) := (blk_cell BK463.out 0).trans rfl
                                have hcz41_1 : wr.cell? ⟨gb463, 1, none⟩ = some (.slice Ao29 t467.length co29) := (blk_cell BK463.out 1).trans rfl
                                have hfz41_0 := blk_frozen BK463.out 0
                                have hfz41_1 := blk_frozen BK463.out 1
                                have p475 : 0 ≤ (x11_4 : Int) := of_decide_eq_true (by first | (with_reducible assumption) | assumption)
                                have q475 : x11_4 < (t467.length : Int) := of_decide_eq_true (by first | (with_reducible assumption) | assumption)
                                obtain ⟨ad475, e475, hx475_0, hx475_1, hx475_2⟩ := at_T41 (Kd.R_reads' HO_464001.out).2.2 x11_4 p475 q475
                                cases e475
                                replace p475 := eq_true p475
                                replace q475 := eq_true q475
                                have p476 : 0 ≤ (x11_4 : Int) := of_decide_eq_true (by first | (with_reducible assumption) | assumption)
                                have q476 : x11_4 < (t467.length : Int) := of_decide_eq_true (by first | (with_reducible assumption) | assumption)
                                obtain ⟨ad476, e476, hx476_0, hx476_1, hx476_2⟩ := at_T41 (Kd.R_reads' HO_464001.out).2.2 x11_4 p476 q476
                                obtain rfl : ad475 = ad476 := (by injection e476)
                                replace p476 := eq_true p476
                                replace q476 := eq_true q476
                                go_wp2
                                go_roundg k4
                                case measure => have := HJ2.out; have := HK2.out; have := HJ30.out; have := HK4.out; omega
                                case rel => exact ⟨(wrap64 (x9_4 + 1)), ((((rd_T41 t467 x11_4).f0).toList == x8_30.toList)), (wrap64 (x11_4 + 1)), (by first | rfl | (simp; done) | (simp [*]; done)), (by first | rfl | (simp; done) | (simp [*]; done)), (by first | rfl | (simp; done) | (simp [*]; done)), H', ⟨by have := HJ2.out; have := HK2.out; have := HJ30.out; have := HK4.out; omega⟩, ⟨by (with_reducible repeat (first | apply Kd.R_alloc | apply Kd.R_drewN | apply Kd.R_drew)); exact HO_464001.out⟩, ⟨by (with_reducible repeat (first | refine blk_drewN ?_ _ | refine blk_drew ?_ | refine blk_alloc ?_ _)); exact BK463.out⟩, ⟨by repeat (first | (with_reducible first | exact HB.out | apply below_alloc | apply pw_below_drewN | apply below_drew1 | refine below_set ?_ GE463.out) | exact HB.out)⟩⟩
                            · rw [if_neg c38] at H
                              have c38b0 : (Op.bytesLess (((rd_T41 t467 x11_4).f0).toList) x8_30.toList) = false := by simpa using c38
                              clear c38
                              by_cases c42 : x10_4 = true
                              · subst c42
                                have H1 : (waybilllaw10_NodeFind.l1 k4 a1 x7_2 x8_30 x9_4 true (wrap64 (x11_4 + 1)) t466 t467) = some r := by rw [if_pos rfl] at H; exact H
                                clear H
                                have H := H1
                                clear H1
                                have H' := Aside0.mk H
                                clear H
                                have hcz43_0 : wr.cell? ⟨gb463, 0, none⟩ = some (.bool t466) := (blk_cell BK463.out 0).trans rfl
                                have hcz43_1 : wr.cell? ⟨gb463, 1, none⟩ = some (.slice Ao29 t467.length co29) := (blk_cell BK463.out 1).trans rfl
                                have hfz43_0 := blk_frozen BK463.out 0
                                have hfz43_1 := blk_frozen BK463.out 1
                                have p475 : 0 ≤ (x11_4 : Int) := of_decide_eq_true (by first | (with_reducible assumption) | assumption)
                                have q475 : x11_4 < (t467.length : Int) := of_decide_eq_true (by first | (with_reducible assumption) | assumption)
                                obtain ⟨ad475, e475, hx475_0, hx475_1, hx475_2⟩ := at_T41 (Kd.R_reads' HO_464001.out).2.2 x11_4 p475 q475
                                cases e475
                                replace p475 := eq_true p475
                                replace q475 := eq_true q475
                                go_wp2
                                go_roundg k4
                                case measure => have := HJ2.out; have := HK2.out; have := HJ30.out; have := HK4.out; omega
                                case rel => exact ⟨(x9_4), (true), (wrap64 (x11_4 + 1)), (by first | rfl | (simp; done) | (simp [*]; done)), (by first | rfl | (simp; done) | (simp [*]; done)), (by first | rfl | (simp; done) | (simp [*]; done)), H', ⟨by have := HJ2.out; have := HK2.out; have := HJ30.out; have := HK4.out; omega⟩, ⟨by (with_reducible repeat (first | apply Kd.R_alloc | apply Kd.R_drewN | apply Kd.R_drew)); exact HO_464001.out⟩, ⟨by (with_reducible repeat (first | refine blk_drewN ?_ _ | refine blk_drew ?_ | refine blk_alloc ?_ _)); exact BK463.out⟩, ⟨by repeat (first | (with_reducible first | exact HB.out | apply below_alloc | apply pw_below_drewN | apply below_drew1 | refine below_set ?_ GE463.out) | exact HB.out)⟩⟩
                              · replace c42 := Bool.eq_false_iff.mpr c42
                                subst c42
                                have H1 : (waybilllaw10_NodeFind.l1 k4 a1 x7_2 x8_30 x9_4 (((rd_T41 t467 x11_4).f0).toList == x8_30.toList) (wrap64 (x11_4 + 1)) t466 t467) = some r := by rw [if_neg (show ¬ (false = true) by decide)] at H; exact H
                                clear H
                                have H := H1
                                clear H1
                                have H' := Aside0.mk H
                                clear H
                                have hcz44_0 : wr.cell? ⟨gb463, 0, none⟩ = some (.bool t466) := (blk_cell BK463.out 0).trans rfl
                                have hcz44_1 : wr.cell? ⟨gb463, 1, none⟩ = some (.slice Ao29 t467.length co29) := (blk_cell BK463.out 1).trans rfl
                                have hfz44_0 := blk_frozen BK463.out 0
                                have hfz44_1 := blk_frozen BK463.out 1
                                have p475 : 0 ≤ (x11_4 : Int) := of_decide_eq_true (by first | (with_reducible assumption) | assumption)
                                have q475 : x11_4 < (t467.length : Int) := of_decide_eq_true (by first | (with_reducible assumption) | assumption)
                                obtain ⟨ad475, e475, hx475_0, hx475_1, hx475_2⟩ := at_T41 (Kd.R_reads' HO_464001.out).2.2 x11_4 p475 q475
                                cases e475
                                replace p475 := eq_true p475
                                replace q475 := eq_true q475
                                have p477 : 0 ≤ (x11_4 : Int) := of_decide_eq_true (by first | (with_reducible assumption) | assumption)
                                have q477 : x11_4 < (t467.length : Int) := of_decide_eq_true (by first | (with_reducible assumption) | assumption)
                                obtain ⟨ad477, e477, hx477_0, hx477_1, hx477_2⟩ := at_T41 (Kd.R_reads' HO_464001.out).2.2 x11_4 p477 q477
                                obtain rfl : ad475 = ad477 := (by injection e477)
                                replace p477 := eq_true p477
                                replace q477 := eq_true q477
                                go_wp2
                                go_roundg k4
                                case measure => have := HJ2.out; have := HK2.out; have := HJ30.out; have := HK4.out; omega
                                case rel => exact ⟨(x9_4), ((((rd_T41 t467 x11_4).f0).toList == x8_30.toList)), (wrap64 (x11_4 + 1)), (by first | rfl | (simp; done) | (simp [*]; done)), (by first | rfl | (simp; done) | (simp [*]; done)), (by first | rfl | (simp; done) | (simp [*]; done)), H', ⟨by have := HJ2.out; have := HK2.out; have := HJ30.out; have := HK4.out; omega⟩, ⟨by (with_reducible repeat (first | apply Kd.R_alloc | apply Kd.R_drewN | apply Kd.R_drew)); exact HO_464001.out⟩, ⟨by (with_reducible repeat (first | refine blk_drewN ?_ _ | refine blk_drew ?_ | refine blk_alloc ?_ _)); exact BK463.out⟩, ⟨by repeat (first | (with_reducible first | exact HB.out | apply below_alloc | apply pw_below_drewN | apply below_drew1 | refine below_set ?_ GE463.out) | exact HB.out)⟩⟩
                          · rw [if_neg c37] at H
                            exact absurd H (by simp)
                        · rw [if_neg c36] at H
                          have c36b0 : decide (x11_4 < (t467.length : Int)) = false := decide_eq_false c36
                          clear c36
                          have HC45 := Aside0.mk H
                          clear H
                          have hcz46_0 : wr.cell? ⟨gb463, 0, none⟩ = some (.bool t466) := (blk_cell BK463.out 0).trans rfl
                          have hcz46_1 : wr.cell? ⟨gb463, 1, none⟩ = some (.slice Ao29 t467.length co29) := (blk_cell BK463.out 1).trans rfl
                          have hfz46_0 := blk_frozen BK463.out 0
                          have hfz46_1 := blk_frozen BK463.out 1
                          go_upto_region 21 with (fail)
                          go_cut [96] (fun v96 wc => ∃ (kq : Nat) (x96_44 : Bool), v96 = .bool x96_44 ∧ Aside0 (waybilllaw10_NodeFind.j4 kq a1 x7_2 x8_30 x9_4 x10_4 x9_4 x96_44 t466 t467 = some r) ∧ Aside0 (kq ≤ k4) ∧ Aside0 (Kd.R k41 41 wc w.heap.size (fun _ => True) (.slice Ao29 t467.length co29) t467) ∧ Aside0 (wc.heap[gb463]? = some (.cells #[.bool t466, (.slice Ao29 t467.length co29)] 44 (0, 0))) ∧ Aside0 (Below w.heap.size w wc))
                          case first =>
                            have H := HC45.out
                            clear HC45
                            by_cases c47 : t466 = true
                            · subst c47
                              have H1 : (waybilllaw10_NodeFind.j4 k4 a1 x7_2 x8_30 x9_4 x10_4 x9_4 false true t467) = some r := by rw [if_pos rfl] at H; exact H
                              clear H
                              have H := H1
                              clear H1
                              have H' := Aside0.mk H
                              clear H
                              have hcz48_0 : wr.cell? ⟨gb463, 0, none⟩ = some (.bool true) := (blk_cell BK463.out 0).trans rfl
                              have hcz48_1 : wr.cell? ⟨gb463, 1, none⟩ = some (.slice Ao29 t467.length co29) := (blk_cell BK463.out 1).trans rfl
                              have hfz48_0 := blk_frozen BK463.out 0
                              have hfz48_1 := blk_frozen BK463.out 1
                              go_wp2
                              go_meet
                              case rel => exact ⟨_, (false), (by first | rfl | (simp; done) | (simp [*]; done)), H', ⟨by have := HJ2.out; have := HK2.out; have := HJ30.out; have := HK4.out; first | omega | exact Nat.le_refl _⟩, ⟨by (with_reducible repeat (first | apply Kd.R_alloc | apply Kd.R_drewN | apply Kd.R_drew)); exact HO_464001.out⟩, ⟨by (with_reducible repeat (first | refine blk_drewN ?_ _ | refine blk_drew ?_ | refine blk_alloc ?_ _)); exact BK463.out⟩, ⟨by repeat (first | (with_reducible first | exact HB.out | apply below_alloc | apply pw_below_drewN | apply below_drew1 | refine below_set ?_ GE463.out) | exact HB.out)⟩⟩
                            · replace c47 := Bool.eq_false_iff.mpr c47
                              subst c47
                              have H1 : (waybilllaw10_NodeFind.j4 k4 a1 x7_2 x8_30 x9_4 x10_4 x9_4 (!x10_4) false t467) = some r := by rw [if_neg (show ¬ (false = true) by decide)] at H; exact H
                              clear H
                              have H := H1
                              clear H1
                              have H' := Aside0.mk H
                              clear H
                              have hcz49_0 : wr.cell? ⟨gb463, 0, none⟩ = some (.bool false) := (blk_cell BK463.out 0).trans rfl
                              have hcz49_1 : wr.cell? ⟨gb463, 1, none⟩ = some (.slice Ao29 t467.length co29) := (blk_cell BK463.out 1).trans rfl
                              have hfz49_0 := blk_frozen BK463.out 0
                              have hfz49_1 := blk_frozen BK463.out 1
                              go_wp2
                              go_meet
                              case rel => exact ⟨_, (!x10_4), (by first | rfl | (simp; done) | (simp [*]; done)), H', ⟨by have := HJ2.out; have := HK2.out; have := HJ30.out; have := HK4.out; first | omega | exact Nat.le_refl _⟩, ⟨by (with_reducible repeat (first | apply Kd.R_alloc | apply Kd.R_drewN | apply Kd.R_drew)); exact HO_464001.out⟩, ⟨by (with_reducible repeat (first | refine blk_drewN ?_ _ | refine blk_drew ?_ | refine blk_alloc ?_ _)); exact BK463.out⟩, ⟨by repeat (first | (with_reducible first | exact HB.out | apply below_alloc | apply pw_below_drewN | apply below_drew1 | refine below_set ?_ GE463.out) | exact HB.out)⟩⟩
                          case rest =>
                            clear HC45
                            try clear c1
                            try clear c2
                            try clear p2
                            try clear c3
                            try clear c4
                            try clear p4
                            try clear q4
                            try clear hx4
                            try clear c6
                            try clear p6
                            try clear c10
                            try clear c11
                            try clear c15
                            try clear c15b0
                            try clear c15b1
                            try clear c15b2
                            try clear c17
                            try clear c17b0
                            try clear c17b1
                            try clear c18
                            try clear c21
                            try clear c22
                            try clear c30
                            try clear c30b0
                            try clear c31
                            try clear c33
                            try clear c33b0
                            try clear c34
                            try clear c34b0
                            try clear c36
                            try clear c36b0
                            try clear c37
                            try clear c37b0
                            try clear c38
                            try clear c38b0
                            try clear c39
                            try clear c42
                            try clear c47
                            try clear p47
                            try clear q47
                            try clear hx47
                            try clear hcz20_0
                            try clear hcz20_1
                            try clear hcz22_0
                            try clear hcz22_1
                            try clear hcz26_0
                            try clear hcz26_1
                            try clear hcz28_0
                            try clear hcz28_1
                            try clear hcz32_0
                            try clear hcz32_1
                            try clear hcz35_0
                            try clear hcz35_1
                            try clear hcz40_0
                            try clear hcz40_1
                            try clear hcz41_0
                            try clear hcz41_1
                            try clear hcz43_0
                            try clear hcz43_1
                            try clear hcz44_0
                            try clear hcz44_1
                            try clear hcz46_0
                            try clear hcz46_1
                            try clear hcz48_0
                            try clear hcz48_1
                            try clear hcz49_0
                            try clear hcz49_1
                            try clear hcz7_0
                            try clear hcz7_1
                            try clear hcz9_0
                            try clear hcz9_1
                            try clear hfz20_0
                            try clear hfz20_1
                            try clear hfz22_0
                            try clear hfz22_1
                            try clear hfz26_0
                            try clear hfz26_1
                            try clear hfz28_0
                            try clear hfz28_1
                            try clear hfz32_0
                            try clear hfz32_1
                            try clear hfz35_0
                            try clear hfz35_1
                            try clear hfz40_0
                            try clear hfz40_1
                            try clear hfz41_0
                            try clear hfz41_1
                            try clear hfz43_0
                            try clear hfz43_1
                            try clear hfz44_0
                            try clear hfz44_1
                            try clear hfz46_0
                            try clear hfz46_1
                            try clear hfz48_0
                            try clear hfz48_1
                            try clear hfz49_0
                            try clear hfz49_1
                            try clear hfz7_0
                            try clear hfz7_1
                            try clear hfz9_0
                            try clear hfz9_1
                            try clear hx474_0
                            try clear hx474_1
                            try clear hx474_2
                            try clear hx475_0
                            try clear hx475_1
                            try clear hx475_2
                            try clear hx476_0
                            try clear hx476_1
                            try clear hx476_2
                            try clear hx477_0
                            try clear hx477_1
                            try clear hx477_2
                            try clear p2
                            try clear p4
                            try clear p474
                            try clear p475
                            try clear p476
                            try clear p477
                            try clear q4
                            try clear q474
                            try clear q475
                            try clear q476
                            try clear q477
                            obtain ⟨kq, x96_44, rfl, HA, HJ44, HO_464001, BK463, HB⟩ := hcut
                            cases kq with
                            | zero => exact absurd HA.out (by simp [waybilllaw10_NodeFind.j4])
                            | succ kj44 =>
                              have H := HA.out
                              clear HA
                              simp only [waybilllaw10_NodeFind.j4] at H
                              by_cases c50 : x96_44 = true
                              · subst c50
                                have H1 : ((node_Find.f kj44 t466 t467 x8_30).bind fun bt478 => (if bt478.1 = (mx (wrap64 (x9_4 - 1)) 0) then (if (bt478.2 != x10_4) = true then (none) else (waybilllaw10_NodeFind.l0 kj44 a1 (wrap64 (x7_2 + 1)) t466 t467)) else (none))) = some r := by rw [if_pos rfl] at H; exact H
                                clear H
                                have H := H1
                                clear H1
                                obtain ⟨ji51, hji51⟩ : ∃ j_ : Int, (mx (wrap64 (x9_4 - 1)) 0) = j_ := ⟨_, rfl⟩
                                replace H : ((node_Find.f kj44 t466 t467 x8_30).bind fun bt478 => (if bt478.1 = (ji51) then (if (bt478.2 != x10_4) = true then (none) else (waybilllaw10_NodeFind.l0 kj44 a1 (wrap64 (x7_2 + 1)) t466 t467)) else (none))) = some r := by first | (rw [hji51] at H; exact H) | (simp only [hji51] at H ⊢; exact H)
                                have hji51_ : (if (wrap64 (x9_4 - 1)) < 0 then 0 else (wrap64 (x9_4 - 1))) = ji51 := hji51
                                replace H := Option.bind_eq_some_iff.mp H
                                obtain ⟨⟨t478, t479⟩, A520, H⟩ := H
                                replace H : (if t478 = (ji51) then (if (t479 != x10_4) = true then (none) else (waybilllaw10_NodeFind.l0 kj44 a1 (wrap64 (x7_2 + 1)) t466 t467)) else (none)) = some r := H
                                have A52 := Aside0.mk A520
                                clear A520
                                by_cases c53 : t478 = (ji51)
                                · rw [if_pos c53] at H
                                  have c53b0 : (t478 == (ji51)) = true := beq_iff_eq.mpr c53
                                  have c53b1 : (t478 != (ji51)) = false := bne_eq_false_iff_eq.mpr c53
                                  clear c53
                                  by_cases c54 : (t479 != x10_4) = true
                                  · rw [if_pos c54] at H
                                    exact absurd H (by simp)
                                  · rw [if_neg c54] at H
                                    have c54b0 : (t479 != x10_4) = false := by simpa using c54
                                    (try (have c54b1 : decide (t479 = x10_4) = true := by simpa using c54))
                                    (try (have c54b2 : (t479 == x10_4) = true := by simpa using c54))
                                    clear c54
                                    have H' := Aside0.mk H
                                    clear H
                                    have hcz55_0 : wc.cell? ⟨gb463, 0, none⟩ = some (.bool t466) := (blk_cell BK463.out 0).trans rfl
                                    have hcz55_1 : wc.cell? ⟨gb463, 1, none⟩ = some (.slice Ao29 t467.length co29) := (blk_cell BK463.out 1).trans rfl
                                    have hfz55_0 := blk_frozen BK463.out 0
                                    have hfz55_1 := blk_frozen BK463.out 1
                                    go_wp2_with (first | ((with_reducible refine gate_callee (f := 31) rfl ?_); refine goesL_ (some 103) rfl rfl Try.func31 (by kernel_rfl) rfl #[.agg #[.bool t466, .slice Ao29 t467.length co29], .string x8_30] rfl (by (try simp only [List.map_toArray, List.map_cons, List.map_nil]); first | done | rfl | (simp only [List.length_drop, List.length_take]; rfl)) ?_; (with_reducible refine (node_Find.calls kj44 t466 _ _ t467 x8_30 t478 t479 _ ?side1 ?side2 A52.out).mono ?_); (case side1 => repeat (first | exact (Kd.R_reads' HO_464001.out).2.2 | (with_reducible refine Kd.C_alloc ?_ _) | (with_reducible refine Kd.C_drewN ?_ _) | (with_reducible refine Kd.C_drew ?_))); (case side2 => exact (Kd.R_reads' HO_464001.out).2.1); rintro e w56 ⟨rfl, hb⟩; refine ⟨_, rfl, ?_⟩; have n0_ := Aside0.mk (Kd.R_below (by (with_reducible repeat (first | apply Kd.R_alloc | apply Kd.R_drewN | apply Kd.R_drew)); exact HO_464001.out) hb); have n1_ := Aside0.mk (blk_below (g := gb463) (o := .cells #[.bool t466, .slice Ao29 t467.length co29] 44 (0, 0)) (by (with_reducible repeat (first | refine blk_drewN ?_ _ | refine blk_drew ?_ | refine blk_alloc ?_ _)); exact BK463.out) hb); have n2_ := Aside0.mk (below_step (by repeat (first | (with_reducible first | exact HB.out | apply below_alloc | apply pw_below_drewN | apply below_drew1 | refine below_set ?_ GE463.out) | exact HB.out)) hb); clear HO_464001; clear BK463; clear HB; have HO_464001 := n0_; have BK463 := n1_; have HB := n2_; clear n0_ n1_ n2_; (try clear hb); (try clear hb2); (try clear hk); (try clear hi); (try clear hge)))
                                    go_roundg kj44
                                    case measure => have := HJ2.out; have := HK2.out; have := HJ30.out; have := HK4.out; have := HJ44.out; omega
                                    case rel => exact ⟨(wrap64 (x7_2 + 1)), (by first | rfl | (simp; done) | (simp [*]; done)), H', ⟨by have := HJ2.out; have := HK2.out; have := HJ30.out; have := HK4.out; have := HJ44.out; omega⟩, ⟨by (with_reducible repeat (first | apply Kd.R_alloc | apply Kd.R_drewN | apply Kd.R_drew)); exact HO_464001.out⟩, ⟨by (with_reducible repeat (first | refine blk_drewN ?_ _ | refine blk_drew ?_ | refine blk_alloc ?_ _)); exact BK463.out⟩, ⟨by repeat (first | (with_reducible first | exact HB.out | apply below_alloc | apply pw_below_drewN | apply below_drew1 | refine below_set ?_ GE463.out) | exact HB.out)⟩⟩
                                · rw [if_neg c53] at H
                                  exact absurd H (by simp)
                              · replace c50 := Bool.eq_false_iff.mpr c50
                                subst c50
                                have H1 : ((node_Find.f kj44 t466 t467 x8_30).bind fun bt480 => (if bt480.1 = x9_4 then (if (bt480.2 != x10_4) = true then (none) else (waybilllaw10_NodeFind.l0 kj44 a1 (wrap64 (x7_2 + 1)) t466 t467)) else (none))) = some r := by rw [if_neg (show ¬ (false = true) by decide)] at H; exact H
                                clear H
                                have H := H1
                                clear H1
                                replace H := Option.bind_eq_some_iff.mp H
                                obtain ⟨⟨t480, t481⟩, A570, H⟩ := H
                                replace H : (if t480 = x9_4 then (if (t481 != x10_4) = true then (none) else (waybilllaw10_NodeFind.l0 kj44 a1 (wrap64 (x7_2 + 1)) t466 t467)) else (none)) = some r := H
                                have A57 := Aside0.mk A570
                                clear A570
                                by_cases c58 : t480 = x9_4
                                · rw [if_pos c58] at H
                                  have c58b0 : (t480 == x9_4) = true := beq_iff_eq.mpr c58
                                  have c58b1 : (t480 != x9_4) = false := bne_eq_false_iff_eq.mpr c58
                                  clear c58
                                  by_cases c59 : (t481 != x10_4) = true
                                  · rw [if_pos c59] at H
                                    exact absurd H (by simp)
                                  · rw [if_neg c59] at H
                                    have c59b0 : (t481 != x10_4) = false := by simpa using c59
                                    (try (have c59b1 : decide (t481 = x10_4) = true := by simpa using c59))
                                    (try (have c59b2 : (t481 == x10_4) = true := by simpa using c59))
                                    clear c59
                                    have H' := Aside0.mk H
                                    clear H
                                    have hcz60_0 : wc.cell? ⟨gb463, 0, none⟩ = some (.bool t466) := (blk_cell BK463.out 0).trans rfl
                                    have hcz60_1 : wc.cell? ⟨gb463, 1, none⟩ = some (.slice Ao29 t467.length co29) := (blk_cell BK463.out 1).trans rfl
                                    have hfz60_0 := blk_frozen BK463.out 0
                                    have hfz60_1 := blk_frozen BK463.out 1
                                    go_wp2_with (first | ((with_reducible refine gate_callee (f := 31) rfl ?_); refine goesL_ (some 103) rfl rfl Try.func31 (by kernel_rfl) rfl #[.agg #[.bool t466, .slice Ao29 t467.length co29], .string x8_30] rfl (by (try simp only [List.map_toArray, List.map_cons, List.map_nil]); first | done | rfl | (simp only [List.length_drop, List.length_take]; rfl)) ?_; (with_reducible refine (node_Find.calls kj44 t466 _ _ t467 x8_30 t480 t481 _ ?side1 ?side2 A57.out).mono ?_); (case side1 => repeat (first | exact (Kd.R_reads' HO_464001.out).2.2 | (with_reducible refine Kd.C_alloc ?_ _) | (with_reducible refine Kd.C_drewN ?_ _) | (with_reducible refine Kd.C_drew ?_))); (case side2 => exact (Kd.R_reads' HO_464001.out).2.1); rintro e w61 ⟨rfl, hb⟩; refine ⟨_, rfl, ?_⟩; have n0_ := Aside0.mk (Kd.R_below (by (with_reducible repeat (first | apply Kd.R_alloc | apply Kd.R_drewN | apply Kd.R_drew)); exact HO_464001.out) hb); have n1_ := Aside0.mk (blk_below (g := gb463) (o := .cells #[.bool t466, .slice Ao29 t467.length co29] 44 (0, 0)) (by (with_reducible repeat (first | refine blk_drewN ?_ _ | refine blk_drew ?_ | refine blk_alloc ?_ _)); exact BK463.out) hb); have n2_ := Aside0.mk (below_step (by repeat (first | (with_reducible first | exact HB.out | apply below_alloc | apply pw_below_drewN | apply below_drew1 | refine below_set ?_ GE463.out) | exact HB.out)) hb); clear HO_464001; clear BK463; clear HB; have HO_464001 := n0_; have BK463 := n1_; have HB := n2_; clear n0_ n1_ n2_; (try clear hb); (try clear hb2); (try clear hk); (try clear hi); (try clear hge)))
                                    go_roundg kj44
                                    case measure => have := HJ2.out; have := HK2.out; have := HJ30.out; have := HK4.out; have := HJ44.out; omega
                                    case rel => exact ⟨(wrap64 (x7_2 + 1)), (by first | rfl | (simp; done) | (simp [*]; done)), H', ⟨by have := HJ2.out; have := HK2.out; have := HJ30.out; have := HK4.out; have := HJ44.out; omega⟩, ⟨by (with_reducible repeat (first | apply Kd.R_alloc | apply Kd.R_drewN | apply Kd.R_drew)); exact HO_464001.out⟩, ⟨by (with_reducible repeat (first | refine blk_drewN ?_ _ | refine blk_drew ?_ | refine blk_alloc ?_ _)); exact BK463.out⟩, ⟨by repeat (first | (with_reducible first | exact HB.out | apply below_alloc | apply pw_below_drewN | apply below_drew1 | refine below_set ?_ GE463.out) | exact HB.out)⟩⟩
                                · rw [if_neg c58] at H
                                  exact absurd H (by simp)
              · rw [if_neg c30] at H
                have c30b0 : decide (x7_2 < (t467.length : Int)) = false := decide_eq_false c30
                clear c30
                replace H := Option.bind_eq_some_iff.mp H
                obtain ⟨t473, A620, H⟩ := H
                replace H : (some t473) = some r := H
                have A62 := Aside0.mk A620
                clear A620
                obtain rfl := Option.some.inj H
                have hcz63_0 : wr.cell? ⟨gb463, 0, none⟩ = some (.bool t466) := (blk_cell BK463.out 0).trans rfl
                have hcz63_1 : wr.cell? ⟨gb463, 1, none⟩ = some (.slice Ao29 t467.length co29) := (blk_cell BK463.out 1).trans rfl
                have hfz63_0 := blk_frozen BK463.out 0
                have hfz63_1 := blk_frozen BK463.out 1
                go_wp2_with (first | ((with_reducible refine gate_callee (f := 21) rfl ?_); refine goesL_ (some 114) rfl rfl Try.func21 (by kernel_rfl) rfl #[] rfl (by (try simp only [List.map_toArray, List.map_cons, List.map_nil]); first | done | rfl | (simp only [List.length_drop, List.length_take]; rfl)) ?_; (with_reducible refine (waybilllaw10_awake.calls k2  t473 _ A62.out).mono ?_); rintro e w64 ⟨rfl, hb⟩; refine ⟨_, rfl, ?_⟩; have n0_ := Aside0.mk (Kd.R_below (by (with_reducible repeat (first | apply Kd.R_alloc | apply Kd.R_drewN | apply Kd.R_drew)); exact HO_464001.out) hb); have n1_ := Aside0.mk (blk_below (g := gb463) (o := .cells #[.bool t466, .slice Ao29 t467.length co29] 44 (0, 0)) (by (with_reducible repeat (first | refine blk_drewN ?_ _ | refine blk_drew ?_ | refine blk_alloc ?_ _)); exact BK463.out) hb); have n2_ := Aside0.mk (below_step (by repeat (first | (with_reducible first | exact HB.out | apply below_alloc | apply pw_below_drewN | apply below_drew1 | refine below_set ?_ GE463.out) | exact HB.out)) hb); clear HO_464001; clear BK463; clear HB; have HO_464001 := n0_; have BK463 := n1_; have HB := n2_; clear n0_ n1_ n2_; (try clear hb); (try clear hb2); (try clear hk); (try clear hi); (try clear hge)))
                all_goals first | (go_ret; exact ⟨by first | rfl | (simp [errW_none, errW_some]; done) | (simp [errW_none, errW_some]; rfl) | (simp [*, errW_none, errW_some]; done) | (simp [*, errW_none, errW_some]; rfl), by repeat (first | (with_reducible first | exact HB.out | apply below_alloc | apply pw_below_drewN | apply below_drew1 | refine below_set ?_ GE463.out) | exact HB.out)⟩) | (exfalso; simp_all; done)

end Go.Proofs.Ytfhaffpegncdiaa.PN
