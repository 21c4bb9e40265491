/- What functions of the given program come to, and that they do: written out of the translation by a program of this session; Lean checks it. -/
import Derived.Test.YtfhaffpegncdiaaPNx0
import Derived.Test.YtfhaffpegncdiaaPNx2
import Derived.Test.YtfhaffpegncdiaaPNx5
import Derived.Test.YtfhaffpegncdiaaPNx8
import Derived.Test.YtfhaffpegncdiaaPNx9
import Derived.Test.YtfhaffpegncdiaaPNx10
import Derived.Test.YtfhaffpegncdiaaPNx11
import Derived.Test.YtfhaffpegncdiaaPNx17
namespace Go.Proofs.Ytfhaffpegncdiaa.PN
open Go.RowKit Go.Proofs.YtfhaffpegncdiaaW.PrintWords Go.Proofs.YtfhaffpegncdiaaW.PrintLast Go.Proofs.YtfhaffpegncdiaaW.PrintMore
attribute [local go_sem] max2_int min2_int max_two min_two max_three min_three max_four min_four   -- for this text's walks alone
set_option linter.unusedVariables false
set_option linter.unusedSimpArgs false

/-! ### waybilllaw10_NodeBack: function 9 -/
def waybilllaw10_NodeBack.j0 : Nat → Int → List Int → Bool → Bool → Bool → List (S41) → Option (Bool)
  | 0, _, _, _, _, _, _ => none
  | k + 1, x1, x5, x6, x28, x434000, x434001 => if x28 = true then (if x6 = true then (none) else ((waybilllaw10_awake.f k).bind fun t444 => (some t444))) else ((some (([] : List Int) : List Int)).bind fun y445 => (if y445.length + x5.length < 140737488355328 then ((some (y445 ++ x5 : List Int)).bind fun y448 => (if 0 ≤ (Go.bits .and .i64 x1 255) then (if y448.length + (Go.bits .and .i64 x1 255 : Int).toNat < 140737488355328 then ((node_Parse.f k (y448 ++ List.replicate (Go.bits .and .i64 x1 255 : Int).toNat 0)).bind fun bt454 => (if x6 = true then (if bt454.2.2 = true then ((waybilllaw10_Same.f k bt454.1 bt454.2.1 x434000 x434001).bind fun t460 => (if t460 = true then ((node_Size.f k x434000 x434001).bind fun t461 => (if (x5.length : Int) = t461 then ((waybilllaw10_awake.f k).bind fun t462 => (some t462)) else (none))) else (none))) else (none)) else (none))) else (none)) else (none))) else (none)))
def waybilllaw10_NodeBack.f (k : Nat) (a0_0 : Bool) (l0_1 : List (S41)) (a1 : Int) : Option (Bool) := (waybilllaw10_Small.f k a0_0 l0_1).bind fun t434 => (if t434 = true then ((waybilllaw10_Tame.f k a0_0 l0_1).bind fun bt436 => ((node_Append.f k bt436.1 bt436.2).bind fun bt440 => (if bt436.1 = true then (waybilllaw10_NodeBack.j0 k a1 bt440.1 bt440.2 false bt436.1 bt436.2) else (waybilllaw10_NodeBack.j0 k a1 bt440.1 bt440.2 ((bt436.2.length : Int) == 0) bt436.1 bt436.2)))) else ((waybilllaw10_awake.f k).bind fun t435 => (some t435)))
theorem waybilllaw10_NodeBack.mono_l : ∀ k, (∀ y0 y1 y2 y3 y4 y5, LeO (waybilllaw10_NodeBack.j0 k y0 y1 y2 y3 y4 y5) (waybilllaw10_NodeBack.j0 (k + 1) y0 y1 y2 y3 y4 y5))
  | 0 => fun _ _ _ _ _ _ r h => by simp [waybilllaw10_NodeBack.j0] at h
  | k + 1 => by
    have ih0 := waybilllaw10_NodeBack.mono_l k
    · intro y0 y1 y2 y3 y4 y5
      unfold waybilllaw10_NodeBack.j0
      repeat' first
      | (with_reducible exact ih0 _ _ _ _ _ _)
      | (with_reducible exact node_Append.mono _ _ _)
      | (with_reducible exact node_Parse.mono _ _)
      | (with_reducible exact node_Size.mono _ _ _)
      | (with_reducible exact waybilllaw10_Same.mono _ _ _ _ _)
      | (with_reducible exact waybilllaw10_Small.mono _ _ _)
      | (with_reducible exact waybilllaw10_Tame.mono _ _ _)
      | (with_reducible exact waybilllaw10_awake.mono _)
      | (with_reducible exact LeO.refl _)
      | (with_reducible exact LeO.none _)
      | (with_reducible refine LeO.ite ?_ ?_)
      | (with_reducible refine LeO.bind ?_ (fun _ => ?_))
      | exact ih0 _ _ _ _ _ _
      | exact node_Append.mono _ _ _
      | exact node_Parse.mono _ _
      | exact node_Size.mono _ _ _
      | exact waybilllaw10_Same.mono _ _ _ _ _
      | exact waybilllaw10_Small.mono _ _ _
      | exact waybilllaw10_Tame.mono _ _ _
      | exact waybilllaw10_awake.mono _
      | exact LeO.none _
      | refine LeO.ite ?_ ?_
      | refine LeO.bind ?_ (fun _ => ?_)
theorem waybilllaw10_NodeBack.mono : ∀ a0 a1 a2 k, LeO (waybilllaw10_NodeBack.f k a0 a1 a2) (waybilllaw10_NodeBack.f (k + 1) a0 a1 a2) := by
  intro a0 a1 a2 k
  have ih0 := waybilllaw10_NodeBack.mono_l k
  unfold waybilllaw10_NodeBack.f
  repeat' first
      | (with_reducible exact ih0 _ _ _ _ _ _)
      | (with_reducible exact node_Append.mono _ _ _)
      | (with_reducible exact node_Parse.mono _ _)
      | (with_reducible exact node_Size.mono _ _ _)
      | (with_reducible exact waybilllaw10_Same.mono _ _ _ _ _)
      | (with_reducible exact waybilllaw10_Small.mono _ _ _)
      | (with_reducible exact waybilllaw10_Tame.mono _ _ _)
      | (with_reducible exact waybilllaw10_awake.mono _)
      | (with_reducible exact LeO.refl _)
      | (with_reducible exact LeO.none _)
      | (with_reducible refine LeO.ite ?_ ?_)
      | (with_reducible refine LeO.bind ?_ (fun _ => ?_))
      | exact ih0 _ _ _ _ _ _
      | exact node_Append.mono _ _ _
      | exact node_Parse.mono _ _
      | exact node_Size.mono _ _ _
      | exact waybilllaw10_Same.mono _ _ _ _ _
      | exact waybilllaw10_Small.mono _ _ _
      | exact waybilllaw10_Tame.mono _ _ _
      | exact waybilllaw10_awake.mono _
      | exact LeO.none _
      | refine LeO.ite ?_ ?_
      | refine LeO.bind ?_ (fun _ => ?_)
set_option maxHeartbeats 8000000 in
set_option maxRecDepth 100000 in
theorem waybilllaw10_NodeBack.calls (k : Nat) (a0_0 : Bool) (A0_1 : Option Addr) (c0_1 : Nat) (l0_1 : List (S41)) (a1 : Int) (r : Bool) (w : World) (hr0_1 : Kd.C k41 w A0_1 l0_1.length l0_1) (hc0_1 : l0_1.length ≤ c0_1) (h : waybilllaw10_NodeBack.f k a0_0 l0_1 a1 = some r) :
    Calls Try.prog 9 #[.agg #[.bool a0_0, .slice A0_1 l0_1.length c0_1], .int .i64 a1] w fun e w' => e = .returned (.bool r) ∧ Below w.heap.size w w' := by
  have hu44 := Try.underlying44
  have HR0_1 := Aside0.mk hr0_1
  have HC0_1 := Aside0.mk hc0_1
  clear hr0_1 hc0_1
  have HB := Aside0.mk (Below.refl w.heap.size w)
  have H : ((waybilllaw10_Small.f k a0_0 l0_1).bind fun t434 => (if t434 = true then ((waybilllaw10_Tame.f k a0_0 l0_1).bind fun bt436 => ((node_Append.f k bt436.1 bt436.2).bind fun bt440 => (if bt436.1 = true then (waybilllaw10_NodeBack.j0 k a1 bt440.1 bt440.2 false bt436.1 bt436.2) else (waybilllaw10_NodeBack.j0 k a1 bt440.1 bt440.2 ((bt436.2.length : Int) == 0) bt436.1 bt436.2)))) else ((waybilllaw10_awake.f k).bind fun t435 => (some t435)))) = some r := h
  clear h
  replace H := Option.bind_eq_some_iff.mp H
  obtain ⟨t434, A30, H⟩ := H
  replace H : (if t434 = true then ((waybilllaw10_Tame.f k a0_0 l0_1).bind fun bt436 => ((node_Append.f k bt436.1 bt436.2).bind fun bt440 => (if bt436.1 = true then (waybilllaw10_NodeBack.j0 k a1 bt440.1 bt440.2 false bt436.1 bt436.2) else (waybilllaw10_NodeBack.j0 k a1 bt440.1 bt440.2 ((bt436.2.length : Int) == 0) bt436.1 bt436.2)))) else ((waybilllaw10_awake.f k).bind fun t435 => (some t435))) = some r := H
  have A3 := Aside0.mk A30
  clear A30
  by_cases c4 : t434 = true
  · subst c4
    have H1 : ((waybilllaw10_Tame.f k a0_0 l0_1).bind fun bt436 => ((node_Append.f k bt436.1 bt436.2).bind fun bt440 => (if bt436.1 = true then (waybilllaw10_NodeBack.j0 k a1 bt440.1 bt440.2 false bt436.1 bt436.2) else (waybilllaw10_NodeBack.j0 k a1 bt440.1 bt440.2 ((bt436.2.length : Int) == 0) bt436.1 bt436.2)))) = some r := by rw [if_pos rfl] at H; exact H
    clear H
    have H := H1
    clear H1
    replace H := Option.bind_eq_some_iff.mp H
    obtain ⟨⟨t436, t437⟩, A50, H⟩ := H
    replace H : ((node_Append.f k t436 t437).bind fun bt440 => (if t436 = true then (waybilllaw10_NodeBack.j0 k a1 bt440.1 bt440.2 false t436 t437) else (waybilllaw10_NodeBack.j0 k a1 bt440.1 bt440.2 ((t437.length : Int) == 0) t436 t437))) = some r := H
    have A5 := Aside0.mk A50
    clear A50
    replace H := Option.bind_eq_some_iff.mp H
    obtain ⟨⟨t440, t443⟩, A60, H⟩ := H
    replace H : (if t436 = true then (waybilllaw10_NodeBack.j0 k a1 t440 t443 false t436 t437) else (waybilllaw10_NodeBack.j0 k a1 t440 t443 ((t437.length : Int) == 0) t436 t437)) = some r := H
    have A6 := Aside0.mk A60
    clear A60
    have HC7 := Aside0.mk H
    clear H
    go_enter Try.func9, Try.ntmps9
    go_upto_region 5 with (first | ((with_reducible refine gate_dst (N := 2) rfl ?_); (try (refine gate_guard (by rfl) ?_; dsimp only)); refine box_event ?hg (N := 2) ?hd (cs := #[.bool a0_0, .slice A0_1 l0_1.length c0_1]) (t := 44) ?hr ?_; (case hd => rfl); (case hg => rfl); (case hr => first | (go_simp; done) | (go_simp; rfl)); intro gb433 hg w8 hbox hb; have n0_ := Aside0.mk (below_step (by repeat (first | (with_reducible first | exact HB.out | apply below_alloc | apply pw_below_drewN | apply below_drew1) | exact HB.out)) hb); have n1_ := Aside0.mk (hbox); have n2_ := Aside0.mk ((by rw [hg]; exact (below_size (by repeat (first | (with_reducible first | exact HB.out | apply below_alloc | apply pw_below_drewN | apply below_drew1) | exact HB.out))) : w.heap.size ≤ gb433)); have n3_ := Aside0.mk ((by rw [hg]; exact (below_size (by repeat (first | (with_reducible first | exact HB.out | apply below_alloc | apply pw_below_drewN | apply below_drew1) | exact HB.out))) : w.heap.size ≤ gb433)); clear HB; have HB := n0_; have BK433 := n1_; have GW433 := n2_; have GE433 := n3_; clear n0_ n1_ n2_ n3_; clear hb hbox hg; have hcz9_0 : w8.cell? ⟨gb433, 0, none⟩ = some (.bool a0_0) := (blk_cell BK433.out 0).trans rfl; have hcz9_1 : w8.cell? ⟨gb433, 1, none⟩ = some (.slice A0_1 l0_1.length c0_1) := (blk_cell BK433.out 1).trans rfl; have hfz9_0 := blk_frozen BK433.out 0; have hfz9_1 := blk_frozen BK433.out 1) | ((with_reducible refine gate_callee (f := 22) rfl ?_); refine goesL_ (some 10) rfl rfl Try.func22 (by kernel_rfl) rfl #[.agg #[.bool a0_0, .slice A0_1 l0_1.length c0_1]] rfl (by (try simp only [List.map_toArray, List.map_cons, List.map_nil]); first | done | rfl | (simp only [List.length_drop, List.length_take]; rfl)) ?_; (with_reducible refine (waybilllaw10_Small.calls k a0_0 _ _ l0_1 true _ ?side1 ?side2 A3.out).mono ?_); (case side1 => repeat (first | exact (Kd.C_below HR0_1.out HB.out) | (with_reducible refine Kd.C_alloc ?_ _) | (with_reducible refine Kd.C_drewN ?_ _) | (with_reducible refine Kd.C_drew ?_))); (case side2 => exact HC0_1.out); rintro e w10 ⟨rfl, hb⟩; refine ⟨_, rfl, ?_⟩; have n0_ := Aside0.mk (blk_below (g := gb433) (o := .cells #[.bool a0_0, .slice A0_1 l0_1.length c0_1] 44 (0, 0)) (by (with_reducible repeat (first | refine blk_drewN ?_ _ | refine blk_drew ?_ | refine blk_alloc ?_ _)); exact BK433.out) hb); have n1_ := Aside0.mk (below_step (by repeat (first | (with_reducible first | exact HB.out | apply below_alloc | apply pw_below_drewN | apply below_drew1 | refine below_set ?_ GE433.out) | exact HB.out)) hb); clear BK433; clear HB; have BK433 := n0_; have HB := n1_; clear n0_ n1_; (try clear hb); (try clear hb2); (try clear hk); (try clear hi); (try clear hge); have hcz11_0 : w10.cell? ⟨gb433, 0, none⟩ = some (.bool a0_0) := (blk_cell BK433.out 0).trans rfl; have hcz11_1 : w10.cell? ⟨gb433, 1, none⟩ = some (.slice A0_1 l0_1.length c0_1) := (blk_cell BK433.out 1).trans rfl; have hfz11_0 := blk_frozen BK433.out 0; have hfz11_1 := blk_frozen BK433.out 1) | ((with_reducible refine gate_callee (f := 30) rfl ?_); refine goesL_ (some 14) rfl rfl Try.func30 (by kernel_rfl) rfl #[.agg #[.bool a0_0, .slice A0_1 l0_1.length c0_1]] rfl (by (try simp only [List.map_toArray, List.map_cons, List.map_nil]); first | done | rfl | (simp only [List.length_drop, List.length_take]; rfl)) ?_; (with_reducible refine (waybilllaw10_Tame.calls k a0_0 _ _ l0_1 t436 t437 _ ?side1 ?side2 A5.out).mono ?_); (case side1 => repeat (first | exact (Kd.C_below HR0_1.out HB.out) | (with_reducible refine Kd.C_alloc ?_ _) | (with_reducible refine Kd.C_drewN ?_ _) | (with_reducible refine Kd.C_drew ?_))); (case side2 => exact HC0_1.out); rintro e w12 ⟨v438, rfl, ho0, hb⟩; refine ⟨_, rfl, ?_⟩; have n0_ := Aside0.mk (Kd.R_lower ho0 (below_size (by repeat (first | (with_reducible first | exact HB.out | apply below_alloc | apply pw_below_drewN | apply below_drew1 | refine below_set ?_ GE433.out) | exact HB.out)))); have n1_ := Aside0.mk (blk_below (g := gb433) (o := .cells #[.bool a0_0, .slice A0_1 l0_1.length c0_1] 44 (0, 0)) (by (with_reducible repeat (first | refine blk_drewN ?_ _ | refine blk_drew ?_ | refine blk_alloc ?_ _)); exact BK433.out) hb); have n2_ := Aside0.mk (below_step (by repeat (first | (with_reducible first | exact HB.out | apply below_alloc | apply pw_below_drewN | apply below_drew1 | refine below_set ?_ GE433.out) | exact HB.out)) hb); clear BK433; clear HB; have HO439 := n0_; have BK433 := n1_; have HB := n2_; clear n0_ n1_ n2_; (try clear hb); (try clear hb2); (try clear hk); (try clear hi); (try clear hge); (try clear ho0); have hcz13_0 : w12.cell? ⟨gb433, 0, none⟩ = some (.bool a0_0) := (blk_cell BK433.out 0).trans rfl; have hcz13_1 : w12.cell? ⟨gb433, 1, none⟩ = some (.slice A0_1 l0_1.length c0_1) := (blk_cell BK433.out 1).trans rfl; have hfz13_0 := blk_frozen BK433.out 0; have hfz13_1 := blk_frozen BK433.out 1; obtain ⟨Ao14, co14, eo14⟩ := Kd.R_slice HO439.out; subst eo14) | ((with_reducible refine gate_callee (f := 19) rfl ?_); refine goesL_ (some 17) rfl rfl Try.func19 (by kernel_rfl) rfl #[.agg #[.bool t436, .slice Ao14 t437.length co14]] rfl (by (try simp only [List.map_toArray, List.map_cons, List.map_nil]); first | done | rfl | (simp only [List.length_drop, List.length_take]; rfl)) ?_; (with_reducible refine (node_Append.calls k t436 _ _ t437 t440 t443 _ ?side1 ?side2 A6.out).mono ?_); (case side1 => refine (Kd.R_reads' (e := 41) (base := w.heap.size) (ok := fun k_ => True) (n := t437.length) (c := co14) ?_).2.2; exact (by (with_reducible repeat (first | apply Kd.R_alloc | apply Kd.R_drewN | apply Kd.R_drew)); exact (Kd.R_mono (Kd.R_far (p := ⟨gb433, 1, none⟩) (Kd.R_far (p := ⟨gb433, 0, none⟩) (Kd.R_types HO439.out BK433.out (by decide)) (fun _ hk => hk.2) (.bool t436)) (fun _ hk => hk.2) (.slice Ao14 t437.length co14)) (fun _ h_ => h_.1)))); (case side2 => exact (Kd.R_reads' HO439.out).2.1); rintro e w15 ⟨v441, rfl, ho0, hb⟩; refine ⟨_, rfl, ?_⟩; have n0_ := Aside0.mk (Kd.R_below (by (with_reducible repeat (first | apply Kd.R_alloc | apply Kd.R_drewN | apply Kd.R_drew)); exact (Kd.R_mono (Kd.R_far (p := ⟨gb433, 1, none⟩) (Kd.R_far (p := ⟨gb433, 0, none⟩) (Kd.R_types HO439.out BK433.out (by decide)) (fun _ hk => hk.2) (.bool t436)) (fun _ hk => hk.2) (.slice Ao14 t437.length co14)) (fun _ h_ => h_.1))) hb); have n1_ := Aside0.mk (Kd.R_lower ho0 (below_size (by repeat (first | (with_reducible first | exact HB.out | apply below_alloc | apply pw_below_drewN | apply below_drew1 | refine below_set ?_ GE433.out) | exact HB.out)))); have n2_ := Aside0.mk (blk_below (g := gb433) (o := .cells #[.bool t436, .slice Ao14 t437.length co14] 44 (0, 0)) (by (with_reducible repeat (first | refine blk_drewN ?_ _ | refine blk_drew ?_ | refine blk_alloc ?_ _)); refine blk_put (cs := #[.bool t436, .slice A0_1 l0_1.length c0_1]) ?_ 1 _ rfl; (with_reducible repeat (first | refine blk_drewN ?_ _ | refine blk_drew ?_ | refine blk_alloc ?_ _)); refine blk_put (cs := #[.bool a0_0, .slice A0_1 l0_1.length c0_1]) ?_ 0 _ rfl; (with_reducible repeat (first | refine blk_drewN ?_ _ | refine blk_drew ?_ | refine blk_alloc ?_ _)); exact BK433.out) hb); have n3_ := Aside0.mk (below_step (by repeat (first | (with_reducible first | exact HB.out | apply below_alloc | apply pw_below_drewN | apply below_drew1 | refine below_set ?_ GE433.out) | exact HB.out)) hb); clear HO439; clear BK433; clear HB; have HO439 := n0_; have HO442 := n1_; have BK433 := n2_; have HB := n3_; clear n0_ n1_ n2_ n3_; (try clear hb); (try clear hb2); (try clear hk); (try clear hi); (try clear hge); (try clear ho0)))
    (try simp only [Act.put, List.setIfInBounds_toArray, List.set_cons_zero, List.set_cons_succ])
    go_cut [28] (fun v28 wc => ∃ (kq : Nat) (x28_6 : Bool), v28 = .bool x28_6 ∧ Aside0 (waybilllaw10_NodeBack.j0 kq a1 t440 t443 x28_6 t436 t437 = some r) ∧ Aside0 (kq ≤ k) ∧ Aside0 (Kd.R (Kd.int .u8) 5 wc w.heap.size (fun _ => True) v441 t440) ∧ Aside0 (Kd.R k41 41 wc w.heap.size (fun _ => True) (.slice Ao14 t437.length co14) t437) ∧ Aside0 (wc.heap[gb433]? = some (.cells #[.bool t436, (.slice Ao14 t437.length co14)] 44 (0, 0))) ∧ Aside0 (Below w.heap.size w wc))
    case first =>
      have H := HC7.out
      clear HC7
      by_cases c16 : t436 = true
      · subst c16
        have H1 : (waybilllaw10_NodeBack.j0 k a1 t440 t443 false true t437) = some r := by rw [if_pos rfl] at H; exact H
        clear H
        have H := H1
        clear H1
        have H' := Aside0.mk H
        clear H
        have hcz17_0 : w15.cell? ⟨gb433, 0, none⟩ = some (.bool true) := (blk_cell BK433.out 0).trans rfl
        have hcz17_1 : w15.cell? ⟨gb433, 1, none⟩ = some (.slice Ao14 t437.length co14) := (blk_cell BK433.out 1).trans rfl
        have hfz17_0 := blk_frozen BK433.out 0
        have hfz17_1 := blk_frozen BK433.out 1
        go_wp2
        go_meet
        case rel => exact ⟨_, (false), (by first | rfl | (simp; done) | (simp [*]; done)), H', ⟨by first | omega | exact Nat.le_refl _⟩, ⟨by (with_reducible repeat (first | apply Kd.R_alloc | apply Kd.R_drewN | apply Kd.R_drew)); exact HO442.out⟩, ⟨by (with_reducible repeat (first | apply Kd.R_alloc | apply Kd.R_drewN | apply Kd.R_drew)); exact HO439.out⟩, ⟨by (with_reducible repeat (first | refine blk_drewN ?_ _ | refine blk_drew ?_ | refine blk_alloc ?_ _)); exact BK433.out⟩, ⟨by repeat (first | (with_reducible first | exact HB.out | apply below_alloc | apply pw_below_drewN | apply below_drew1 | refine below_set ?_ GE433.out) | exact HB.out)⟩⟩
      · replace c16 := Bool.eq_false_iff.mpr c16
        subst c16
        have H1 : (waybilllaw10_NodeBack.j0 k a1 t440 t443 ((t437.length : Int) == 0) false t437) = some r := by rw [if_neg (show ¬ (false = true) by decide)] at H; exact H
        clear H
        have H := H1
        clear H1
        have H' := Aside0.mk H
        clear H
        have hcz18_0 : w15.cell? ⟨gb433, 0, none⟩ = some (.bool false) := (blk_cell BK433.out 0).trans rfl
        have hcz18_1 : w15.cell? ⟨gb433, 1, none⟩ = some (.slice Ao14 t437.length co14) := (blk_cell BK433.out 1).trans rfl
        have hfz18_0 := blk_frozen BK433.out 0
        have hfz18_1 := blk_frozen BK433.out 1
        go_wp2
        go_meet
        case rel => exact ⟨_, (((t437.length : Int) == 0)), (by first | rfl | (simp; done) | (simp [*]; done)), H', ⟨by first | omega | exact Nat.le_refl _⟩, ⟨by (with_reducible repeat (first | apply Kd.R_alloc | apply Kd.R_drewN | apply Kd.R_drew)); exact HO442.out⟩, ⟨by (with_reducible repeat (first | apply Kd.R_alloc | apply Kd.R_drewN | apply Kd.R_drew)); exact HO439.out⟩, ⟨by (with_reducible repeat (first | refine blk_drewN ?_ _ | refine blk_drew ?_ | refine blk_alloc ?_ _)); exact BK433.out⟩, ⟨by repeat (first | (with_reducible first | exact HB.out | apply below_alloc | apply pw_below_drewN | apply below_drew1 | refine below_set ?_ GE433.out) | exact HB.out)⟩⟩
    case rest =>
      clear HC7
      try clear c1
      try clear c2
      try clear p2
      try clear c3
      try clear c4
      try clear c9
      try clear c16
      try clear hcz11_0
      try clear hcz11_1
      try clear hcz13_0
      try clear hcz13_1
      try clear hcz17_0
      try clear hcz17_1
      try clear hcz18_0
      try clear hcz18_1
      try clear hcz9_0
      try clear hcz9_1
      try clear hfz11_0
      try clear hfz11_1
      try clear hfz13_0
      try clear hfz13_1
      try clear hfz17_0
      try clear hfz17_1
      try clear hfz18_0
      try clear hfz18_1
      try clear hfz9_0
      try clear hfz9_1
      obtain ⟨kq, x28_6, rfl, HA, HJ6, HO_5, HO_434001, BK433, HB⟩ := hcut
      cases kq with
      | zero => exact absurd HA.out (by simp [waybilllaw10_NodeBack.j0])
      | succ kj6 =>
        have H := HA.out
        clear HA
        simp only [waybilllaw10_NodeBack.j0] at H
        by_cases c19 : x28_6 = true
        · subst c19
          have H1 : (if t443 = true then (none) else ((waybilllaw10_awake.f kj6).bind fun t444 => (some t444))) = some r := by rw [if_pos rfl] at H; exact H
          clear H
          have H := H1
          clear H1
          by_cases c20 : t443 = true
          · subst c20
            have H1 : (none) = some r := by rw [if_pos rfl] at H; exact H
            clear H
            have H := H1
            clear H1
            exact absurd H (by simp)
          · replace c20 := Bool.eq_false_iff.mpr c20
            subst c20
            have H1 : ((waybilllaw10_awake.f kj6).bind fun t444 => (some t444)) = some r := by rw [if_neg (show ¬ (false = true) by decide)] at H; exact H
            clear H
            have H := H1
            clear H1
            replace H := Option.bind_eq_some_iff.mp H
            obtain ⟨t444, A210, H⟩ := H
            replace H : (some t444) = some r := H
            have A21 := Aside0.mk A210
            clear A210
            obtain rfl := Option.some.inj H
            go_wp2_with (first | (go_at_call 21; (with_reducible refine (waybilllaw10_awake.calls kj6  t444 _ A21.out).mono ?_); rintro e w22 ⟨rfl, hb⟩; have n0_ := Aside0.mk (Kd.R_below (by (with_reducible repeat (first | apply Kd.R_alloc | apply Kd.R_drewN | apply Kd.R_drew)); exact HO_5.out) hb); have n1_ := Aside0.mk (Kd.R_below (by (with_reducible repeat (first | apply Kd.R_alloc | apply Kd.R_drewN | apply Kd.R_drew)); exact HO_434001.out) hb); have n2_ := Aside0.mk (blk_below (g := gb433) (o := .cells #[.bool t436, .slice Ao14 t437.length co14] 44 (0, 0)) (by (with_reducible repeat (first | refine blk_drewN ?_ _ | refine blk_drew ?_ | refine blk_alloc ?_ _)); exact BK433.out) hb); have n3_ := Aside0.mk (below_step (by repeat (first | (with_reducible first | exact HB.out | apply below_alloc | apply pw_below_drewN | apply below_drew1 | refine below_set ?_ GE433.out) | exact HB.out)) hb); clear HO_5; clear HO_434001; clear BK433; clear HB; have HO_5 := n0_; have HO_434001 := n1_; have BK433 := n2_; have HB := n3_; clear n0_ n1_ n2_ n3_; (try clear hb); (try clear hb2); (try clear hk); (try clear hi); (try clear hge)))
            all_goals first | (go_ret; exact ⟨by first | rfl | (simp [errW_none, errW_some]; done) | (simp [errW_none, errW_some]; rfl) | (simp [*, errW_none, errW_some]; done) | (simp [*, errW_none, errW_some]; rfl), by repeat (first | (with_reducible first | exact HB.out | apply below_alloc | apply pw_below_drewN | apply below_drew1 | refine below_set ?_ GE433.out) | exact HB.out)⟩) | (exfalso; simp_all; done)
        · replace c19 := Bool.eq_false_iff.mpr c19
          subst c19
          have H1 : ((some (([] : List Int) : List Int)).bind fun y445 => (if y445.length + t440.length < 140737488355328 then ((some (y445 ++ t440 : List Int)).bind fun y448 => (if 0 ≤ (Go.bits .and .i64 a1 255) then (if y448.length + (Go.bits .and .i64 a1 255 : Int).toNat < 140737488355328 then ((node_Parse.f kj6 (y448 ++ List.replicate (Go.bits .and .i64 a1 255 : Int).toNat 0)).bind fun bt454 => (if t443 = true then (if bt454.2.2 = true then ((waybilllaw10_Same.f kj6 bt454.1 bt454.2.1 t436 t437).bind fun t460 => (if t460 = true then ((node_Size.f kj6 t436 t437).bind fun t461 => (if (t440.length : Int) = t461 then ((waybilllaw10_awake.f kj6).bind fun t462 => (some t462)) else (none))) else (none))) else (none)) else (none))) else (none)) else (none))) else (none))) = some r := by rw [if_neg (show ¬ (false = true) by decide)] at H; exact H
          clear H
          have H := H1
          clear H1
          obtain ⟨y445, hy445⟩ : ∃ y_ : List Int, y_ = (([] : List Int)) := ⟨_, rfl⟩
          replace H : (if y445.length + t440.length < 140737488355328 then ((some (y445 ++ t440 : List Int)).bind fun y448 => (if 0 ≤ (Go.bits .and .i64 a1 255) then (if y448.length + (Go.bits .and .i64 a1 255 : Int).toNat < 140737488355328 then ((node_Parse.f kj6 (y448 ++ List.replicate (Go.bits .and .i64 a1 255 : Int).toNat 0)).bind fun bt454 => (if t443 = true then (if bt454.2.2 = true then ((waybilllaw10_Same.f kj6 bt454.1 bt454.2.1 t436 t437).bind fun t460 => (if t460 = true then ((node_Size.f kj6 t436 t437).bind fun t461 => (if (t440.length : Int) = t461 then ((waybilllaw10_awake.f kj6).bind fun t462 => (some t462)) else (none))) else (none))) else (none)) else (none))) else (none)) else (none))) else (none)) = some r := by first | (rw [hy445]; with_reducible exact H) | (have H2_ := (Option.bind_some _ _).symm.trans H; rw [hy445]; with_reducible exact H2_) | (have H2_ := (Option.bind_some _ _).symm.trans H; with_reducible exact H2_) | with_reducible exact H | (rw [hy445]; exact H) | exact H
          have Ny445 := Aside0.mk hy445
          clear hy445
          by_cases c23 : y445.length + t440.length < 140737488355328
          · rw [if_pos c23] at H
            have LMc23 := Aside0.mk c23
            clear c23
            obtain ⟨y448, hy448⟩ : ∃ y_ : List Int, y_ = (y445 ++ t440) := ⟨_, rfl⟩
            replace H : (if 0 ≤ (Go.bits .and .i64 a1 255) then (if y448.length + (Go.bits .and .i64 a1 255 : Int).toNat < 140737488355328 then ((node_Parse.f kj6 (y448 ++ List.replicate (Go.bits .and .i64 a1 255 : Int).toNat 0)).bind fun bt454 => (if t443 = true then (if bt454.2.2 = true then ((waybilllaw10_Same.f kj6 bt454.1 bt454.2.1 t436 t437).bind fun t460 => (if t460 = true then ((node_Size.f kj6 t436 t437).bind fun t461 => (if (t440.length : Int) = t461 then ((waybilllaw10_awake.f kj6).bind fun t462 => (some t462)) else (none))) else (none))) else (none)) else (none))) else (none)) else (none)) = some r := by first | (rw [hy448]; with_reducible exact H) | (have H2_ := (Option.bind_some _ _).symm.trans H; rw [hy448]; with_reducible exact H2_) | (have H2_ := (Option.bind_some _ _).symm.trans H; with_reducible exact H2_) | with_reducible exact H | (rw [hy448]; exact H) | exact H
            have Ny448 := Aside0.mk hy448
            clear hy448
            by_cases c24 : 0 ≤ (Go.bits .and .i64 a1 255)
            · rw [if_pos c24] at H
              have c24b0 := eq_true c24
              have c24b1 : decide (0 ≤ (Go.bits .and .i64 a1 255)) = true := decide_eq_true c24
              clear c24
              by_cases c25 : y448.length + (Go.bits .and .i64 a1 255 : Int).toNat < 140737488355328
              · rw [if_pos c25] at H
                have LMc25 := Aside0.mk c25
                clear c25
                obtain ⟨y451, hy451⟩ : ∃ y_ : List Int, y_ = (y448 ++ List.replicate (Go.bits .and .i64 a1 255 : Int).toNat 0) := ⟨_, rfl⟩
                replace H : ((node_Parse.f kj6 y451).bind fun bt454 => (if t443 = true then (if bt454.2.2 = true then ((waybilllaw10_Same.f kj6 bt454.1 bt454.2.1 t436 t437).bind fun t460 => (if t460 = true then ((node_Size.f kj6 t436 t437).bind fun t461 => (if (t440.length : Int) = t461 then ((waybilllaw10_awake.f kj6).bind fun t462 => (some t462)) else (none))) else (none))) else (none)) else (none))) = some r := by first | (rw [hy451]; with_reducible exact H) | (have H2_ := (Option.bind_some _ _).symm.trans H; rw [hy451]; with_reducible exact H2_) | (have H2_ := (Option.bind_some _ _).symm.trans H; with_reducible exact H2_) | with_reducible exact H | (rw [hy451]; exact H) | exact H
                have Ny451 := Aside0.mk hy451
                clear hy451
                replace H := Option.bind_eq_some_iff.mp H
                obtain ⟨⟨t454, t455, t458⟩, A260, H⟩ := H
                replace H : (if t443 = true then (if t458 = true then ((waybilllaw10_Same.f kj6 t454 t455 t436 t437).bind fun t460 => (if t460 = true then ((node_Size.f kj6 t436 t437).bind fun t461 => (if (t440.length : Int) = t461 then ((waybilllaw10_awake.f kj6).bind fun t462 => (some t462)) else (none))) else (none))) else (none)) else (none)) = some r := H
                have A26 := Aside0.mk A260
                clear A260
                by_cases c27 : t443 = true
                · subst c27
                  have H1 : (if t458 = true then ((waybilllaw10_Same.f kj6 t454 t455 t436 t437).bind fun t460 => (if t460 = true then ((node_Size.f kj6 t436 t437).bind fun t461 => (if (t440.length : Int) = t461 then ((waybilllaw10_awake.f kj6).bind fun t462 => (some t462)) else (none))) else (none))) else (none)) = some r := by rw [if_pos rfl] at H; exact H
                  clear H
                  have H := H1
                  clear H1
                  by_cases c28 : t458 = true
                  · subst c28
                    have H1 : ((waybilllaw10_Same.f kj6 t454 t455 t436 t437).bind fun t460 => (if t460 = true then ((node_Size.f kj6 t436 t437).bind fun t461 => (if (t440.length : Int) = t461 then ((waybilllaw10_awake.f kj6).bind fun t462 => (some t462)) else (none))) else (none))) = some r := by rw [if_pos rfl] at H; exact H
                    clear H
                    have H := H1
                    clear H1
                    replace H := Option.bind_eq_some_iff.mp H
                    obtain ⟨t460, A290, H⟩ := H
                    replace H : (if t460 = true then ((node_Size.f kj6 t436 t437).bind fun t461 => (if (t440.length : Int) = t461 then ((waybilllaw10_awake.f kj6).bind fun t462 => (some t462)) else (none))) else (none)) = some r := H
                    have A29 := Aside0.mk A290
                    clear A290
                    by_cases c30 : t460 = true
                    · subst c30
                      have H1 : ((node_Size.f kj6 t436 t437).bind fun t461 => (if (t440.length : Int) = t461 then ((waybilllaw10_awake.f kj6).bind fun t462 => (some t462)) else (none))) = some r := by rw [if_pos rfl] at H; exact H
                      clear H
                      have H := H1
                      clear H1
                      replace H := Option.bind_eq_some_iff.mp H
                      obtain ⟨t461, A310, H⟩ := H
                      replace H : (if (t440.length : Int) = t461 then ((waybilllaw10_awake.f kj6).bind fun t462 => (some t462)) else (none)) = some r := H
                      have A31 := Aside0.mk A310
                      clear A310
                      by_cases c32 : (t440.length : Int) = t461
                      · rw [if_pos c32] at H
                        have c32b0 : ((t440.length : Int) == t461) = true := beq_iff_eq.mpr c32
                        have c32b1 : ((t440.length : Int) != t461) = false := bne_eq_false_iff_eq.mpr c32
                        clear c32
                        replace H := Option.bind_eq_some_iff.mp H
                        obtain ⟨t462, A330, H⟩ := H
                        replace H : (some t462) = some r := H
                        have A33 := Aside0.mk A330
                        clear A330
                        obtain rfl := Option.some.inj H
                        go_wp2_with (first | ((with_reducible refine gate_dst (N := 35) rfl ?_); (try (refine gate_guard (by rfl) ?_; dsimp only)); refine Kd.R_lit (Kd.int .u8) _ 5 ?hg (N := 35) ?hd (xs := ([] : List Int)) (inner := []) (ok := fun _ => True) (okp := fun _ => True) ?hr ?hp (fun _ hk => hk) trivial (Below.refl _ _) (Nat.le_refl _) (by simp) ?_; (case hd => rfl); (case hg => rfl); (case hr => first | (go_simp; done) | (go_simp; rfl)); (case hp => exact (Reps.none _ _)); intro v446 w34 ho35 hb hg_ hnew_; clear hg_ hnew_; (first | rw [← Ny445.out] at ho35 | (simp only [Int.reduceToNat] at ho35; rw [← Ny445.out] at ho35)); have n0_ := Aside0.mk (Kd.R_elder' (by (with_reducible repeat (first | apply Kd.R_alloc | apply Kd.R_drewN | apply Kd.R_drew)); exact HO_5.out) (Kd.R_base ho35) hb); have n1_ := Aside0.mk (Kd.R_below (by (with_reducible repeat (first | apply Kd.R_alloc | apply Kd.R_drewN | apply Kd.R_drew)); exact HO_434001.out) hb); have n2_ := Aside0.mk (Kd.R_lower (Kd.R_new' ho35 (Kd.R_lt (by (with_reducible repeat (first | apply Kd.R_alloc | apply Kd.R_drewN | apply Kd.R_drew)); exact HO_5.out))) (below_size (by repeat (first | (with_reducible first | exact HB.out | apply below_alloc | apply pw_below_drewN | apply below_drew1 | refine below_set ?_ GE433.out) | exact HB.out)))); have n3_ := Aside0.mk (blk_below (g := gb433) (o := .cells #[.bool t436, .slice Ao14 t437.length co14] 44 (0, 0)) (by (with_reducible repeat (first | refine blk_drewN ?_ _ | refine blk_drew ?_ | refine blk_alloc ?_ _)); exact BK433.out) hb); have n4_ := Aside0.mk (below_step (by repeat (first | (with_reducible first | exact HB.out | apply below_alloc | apply pw_below_drewN | apply below_drew1 | refine below_set ?_ GE433.out) | exact HB.out)) hb); clear HO_5; clear HO_434001; clear BK433; clear HB; have HO_5 := n0_; have HO_434001 := n1_; have HO447 := n2_; have BK433 := n3_; have HB := n4_; clear n0_ n1_ n2_ n3_ n4_; clear hb ho35; obtain ⟨Ao37, co37, eo37⟩ := Kd.R_slice HO_5.out; subst eo37) | ((with_reducible refine gate_builtin (b := .append) (xs := #[.tmp 35, .tmp 36]) rfl ?_); (try (refine gate_guard (by rfl) ?_; dsimp only)); at_builtin; refine Kd.R_append_rows (Kd.int .u8) (w0 := w) w.heap.size rfl (.tmp 35) (.tmp 36) 25 5 (.int .u8 0) 1 rfl Try.underlying25 info5 rfl (by decide) (by omega) v446 y445 t440 _ _ _ (fun k_ => some k_ ≠ (.slice Ao37 t440.length co37 : Value).ownBlock) (fun _ => False) rfl rfl ?aO ?aR (fun _ _ h => h) (fun _ h => h.elim) ?aF ?aB ?aS ?aL ?_; (case aR => repeat (first | exact (Kd.R_reads' HO_5.out).2.2 | (with_reducible refine Kd.C_alloc ?_ _) | (with_reducible refine Kd.C_drewN ?_ _) | (with_reducible refine Kd.C_drew ?_))); (case aB => exact (by repeat (first | (with_reducible first | exact HB.out | apply below_alloc | apply pw_below_drewN | apply below_drew1 | refine below_set ?_ GE433.out) | exact HB.out))); (case aF => exact (fun k_ hk => Kd.fresh' (Kd.R_lt (by (with_reducible repeat (first | apply Kd.R_alloc | apply Kd.R_drewN | apply Kd.R_drew)); exact HO_5.out)) k_ hk)); (case aO => exact (by (with_reducible repeat (first | apply Kd.R_alloc | apply Kd.R_drewN | apply Kd.R_drew)); exact Kd.R_mono HO447.out (fun _ hk => hk.2))); (case aS => exact (below_size (by repeat (first | (with_reducible first | exact HB.out | apply below_alloc | apply pw_below_drewN | apply below_drew1 | refine below_set ?_ GE433.out) | exact HB.out)))); (case aL => have := LMc23.out; omega); intro v449 w36 ho hb hg hat; rw [← Ny448.out] at ho; have n0_ := Aside0.mk (Kd.R_after (ok := (fun _ => True)) (by (with_reducible repeat (first | apply Kd.R_alloc | apply Kd.R_drewN | apply Kd.R_drew)); exact HO_5.out) hg hat); have n1_ := Aside0.mk (Kd.R_over' (by (with_reducible repeat (first | apply Kd.R_alloc | apply Kd.R_drewN | apply Kd.R_drew)); exact HO_434001.out) (Kd.R_typed (by (with_reducible repeat (first | apply Kd.R_alloc | apply Kd.R_drewN | apply Kd.R_drew)); exact HO447.out)) (by decide) hg); have n2_ := Aside0.mk (blk_grown (g := gb433) (o := .cells #[.bool t436, .slice Ao14 t437.length co14] 44 (0, 0)) (by (with_reducible repeat (first | refine blk_drewN ?_ _ | refine blk_drew ?_ | refine blk_alloc ?_ _)); exact BK433.out) hg (Kd.R_ne HO447.out BK433.out (by decide))); have n3_ := Aside0.mk (hb); have n4_ := Aside0.mk (ho); clear HO_5; clear HO_434001; clear BK433; clear HB; clear HO447; have HO_5 := n0_; have HO_434001 := n1_; have BK433 := n2_; have HB := n3_; have HO450 := n4_; clear n0_ n1_ n2_ n3_ n4_; clear ho hb hg hat) | (at_builtin; refine Kd.R_append_zeros (Kd.int .u8) (w0 := w) w.heap.size rfl (.tmp 37) (.tmp 39) 25 3 5 (.int .u8 0) 1 rfl Try.underlying25 Try.underlying3 info5 rfl (by decide) (by omega) v449 y448 0 (Go.bits .and .i64 a1 255 : Int) (fun k_ => some k_ ≠ (.slice Ao37 t440.length co37 : Value).ownBlock) rfl rfl rfl ?aF ?aO (of_decide_eq_true (by first | (with_reducible assumption) | assumption)) ?aB ?aS ?aL ?_; (case aB => exact (by repeat (first | (with_reducible first | exact HB.out | apply below_alloc | apply pw_below_drewN | apply below_drew1 | refine below_set ?_ GE433.out) | exact HB.out))); (case aF => exact (fun k_ hk => Kd.fresh' (Kd.R_lt (by (with_reducible repeat (first | apply Kd.R_alloc | apply Kd.R_drewN | apply Kd.R_drew)); exact HO_5.out)) k_ hk)); (case aO => exact (by (with_reducible repeat (first | apply Kd.R_alloc | apply Kd.R_drewN | apply Kd.R_drew)); exact HO450.out)); (case aS => exact (below_size (by repeat (first | (with_reducible first | exact HB.out | apply below_alloc | apply pw_below_drewN | apply below_drew1 | refine below_set ?_ GE433.out) | exact HB.out)))); (case aL => have := LMc25.out; omega); intro v452 w38 ho hb hg hat; rw [← Ny451.out] at ho; have n0_ := Aside0.mk (Kd.R_after (ok := (fun _ => True)) (by (with_reducible repeat (first | apply Kd.R_alloc | apply Kd.R_drewN | apply Kd.R_drew)); exact HO_5.out) hg hat); have n1_ := Aside0.mk (Kd.R_over' (by (with_reducible repeat (first | apply Kd.R_alloc | apply Kd.R_drewN | apply Kd.R_drew)); exact HO_434001.out) (Kd.R_typed (by (with_reducible repeat (first | apply Kd.R_alloc | apply Kd.R_drewN | apply Kd.R_drew)); exact HO450.out)) (by decide) hg); have n2_ := Aside0.mk (blk_grown (g := gb433) (o := .cells #[.bool t436, .slice Ao14 t437.length co14] 44 (0, 0)) (by (with_reducible repeat (first | refine blk_drewN ?_ _ | refine blk_drew ?_ | refine blk_alloc ?_ _)); exact BK433.out) hg (Kd.R_ne HO450.out BK433.out (by decide))); have n3_ := Aside0.mk (hb); have n4_ := Aside0.mk (ho); clear HO_5; clear HO_434001; clear BK433; clear HB; clear HO450; have HO_5 := n0_; have HO_434001 := n1_; have BK433 := n2_; have HB := n3_; have HO453 := n4_; clear n0_ n1_ n2_ n3_ n4_; clear ho hb hg hat; obtain ⟨Ao39, co39, eo39⟩ := Kd.R_slice HO453.out; subst eo39) | ((with_reducible refine gate_callee (f := 27) rfl ?_); refine goesL_ (some 41) rfl rfl Try.func27 (by kernel_rfl) rfl #[.slice Ao39 y451.length co39] rfl (by (try simp only [List.map_toArray, List.map_cons, List.map_nil]); first | done | rfl | (simp only [List.length_drop, List.length_take]; rfl)) ?_; (with_reducible refine (node_Parse.calls kj6 _ _ y451 t454 t455 true _ ?side1 ?side2 A26.out).mono ?_); (case side1 => repeat (first | exact (Kd.R_reads' HO453.out).2.2 | (with_reducible refine Kd.C_alloc ?_ _) | (with_reducible refine Kd.C_drewN ?_ _) | (with_reducible refine Kd.C_drew ?_))); (case side2 => exact (Kd.R_reads' HO453.out).2.1); rintro e w40 ⟨v456, rfl, ho0, hb⟩; refine ⟨_, rfl, ?_⟩; have n0_ := Aside0.mk (Kd.R_below (by (with_reducible repeat (first | apply Kd.R_alloc | apply Kd.R_drewN | apply Kd.R_drew)); exact HO_5.out) hb); have n1_ := Aside0.mk (Kd.R_elder' (by (with_reducible repeat (first | apply Kd.R_alloc | apply Kd.R_drewN | apply Kd.R_drew)); exact HO_434001.out) (Kd.R_base ho0) hb); have n2_ := Aside0.mk (Kd.R_below (by (with_reducible repeat (first | apply Kd.R_alloc | apply Kd.R_drewN | apply Kd.R_drew)); exact HO453.out) hb); have n3_ := Aside0.mk (Kd.R_lower (Kd.R_new' ho0 (Kd.R_lt (by (with_reducible repeat (first | apply Kd.R_alloc | apply Kd.R_drewN | apply Kd.R_drew)); exact HO_434001.out))) (below_size (by repeat (first | (with_reducible first | exact HB.out | apply below_alloc | apply pw_below_drewN | apply below_drew1 | refine below_set ?_ GE433.out) | exact HB.out)))); have n4_ := Aside0.mk (blk_below (g := gb433) (o := .cells #[.bool t436, .slice Ao14 t437.length co14] 44 (0, 0)) (by (with_reducible repeat (first | refine blk_drewN ?_ _ | refine blk_drew ?_ | refine blk_alloc ?_ _)); exact BK433.out) hb); have n5_ := Aside0.mk (below_step (by repeat (first | (with_reducible first | exact HB.out | apply below_alloc | apply pw_below_drewN | apply below_drew1 | refine below_set ?_ GE433.out) | exact HB.out)) hb); clear HO_5; clear HO_434001; clear HO453; clear BK433; clear HB; have HO_5 := n0_; have HO_434001 := n1_; have HO453 := n2_; have HO457 := n3_; have BK433 := n4_; have HB := n5_; clear n0_ n1_ n2_ n3_ n4_ n5_; (try clear hb); (try clear hb2); (try clear hk); (try clear hi); (try clear hge); (try clear ho0)) | ((with_reducible refine gate_dst (N := 7) rfl ?_); (try (refine gate_guard (by rfl) ?_; dsimp only)); refine box_event ?hg (N := 7) ?hd (cs := #[.bool false, .slice none 0 0]) (t := 44) ?hr ?_; (case hd => rfl); (case hg => rfl); (case hr => first | (go_simp; done) | (go_simp; rfl)); intro gb459 hg w41 hbox hb; have n0_ := Aside0.mk (Kd.R_below (by (with_reducible repeat (first | apply Kd.R_alloc | apply Kd.R_drewN | apply Kd.R_drew)); exact HO_5.out) hb); have n1_ := Aside0.mk (Kd.R_below (by (with_reducible repeat (first | apply Kd.R_alloc | apply Kd.R_drewN | apply Kd.R_drew)); exact HO_434001.out) hb); have n2_ := Aside0.mk (Kd.R_below (by (with_reducible repeat (first | apply Kd.R_alloc | apply Kd.R_drewN | apply Kd.R_drew)); exact HO453.out) hb); have n3_ := Aside0.mk (Kd.R_below (by (with_reducible repeat (first | apply Kd.R_alloc | apply Kd.R_drewN | apply Kd.R_drew)); exact HO457.out) hb); have n4_ := Aside0.mk (blk_below (g := gb433) (o := .cells #[.bool t436, .slice Ao14 t437.length co14] 44 (0, 0)) (by (with_reducible repeat (first | refine blk_drewN ?_ _ | refine blk_drew ?_ | refine blk_alloc ?_ _)); exact BK433.out) hb); have n5_ := Aside0.mk (below_step (by repeat (first | (with_reducible first | exact HB.out | apply below_alloc | apply pw_below_drewN | apply below_drew1 | refine below_set ?_ GE433.out) | exact HB.out)) hb); have n6_ := Aside0.mk (hbox); have n7_ := Aside0.mk ((by rw [hg]; exact (below_size (by repeat (first | (with_reducible first | exact HB.out | apply below_alloc | apply pw_below_drewN | apply below_drew1 | refine below_set ?_ GE433.out) | exact HB.out))) : w.heap.size ≤ gb459)); have n8_ := Aside0.mk ((by rw [hg]; exact (below_size (by repeat (first | (with_reducible first | exact HB.out | apply below_alloc | apply pw_below_drewN | apply below_drew1 | refine below_set ?_ GE433.out) | exact HB.out))) : w.heap.size ≤ gb459)); have n9_ := Aside0.mk ((by rw [hg]; exact Nat.ne_of_lt (blk_lt (g := gb433) (o := .cells #[.bool t436, .slice Ao14 t437.length co14] 44 (0, 0)) (by (with_reducible repeat (first | refine blk_drewN ?_ _ | refine blk_drew ?_ | refine blk_alloc ?_ _)); exact BK433.out)) : gb433 ≠ gb459)); have n10_ := Aside0.mk ((by rw [hg]; exact Nat.ne_of_gt (blk_lt (g := gb433) (o := .cells #[.bool t436, .slice Ao14 t437.length co14] 44 (0, 0)) (by (with_reducible repeat (first | refine blk_drewN ?_ _ | refine blk_drew ?_ | refine blk_alloc ?_ _)); exact BK433.out)) : gb459 ≠ gb433)); clear HO_5; clear HO_434001; clear HO453; clear HO457; clear BK433; clear HB; have HO_5 := n0_; have HO_434001 := n1_; have HO453 := n2_; have HO457 := n3_; have BK433 := n4_; have HB := n5_; have BK459 := n6_; have GW459 := n7_; have GE459 := n8_; have NB433_459 := n9_; have NB459_433 := n10_; clear n0_ n1_ n2_ n3_ n4_ n5_ n6_ n7_ n8_ n9_ n10_; clear hb hbox hg; have hnb42 := NB459_433.out; have hnc42 := NB433_459.out; have hcz43_0 : w41.cell? ⟨gb459, 0, none⟩ = some (.bool false) := (blk_cell BK459.out 0).trans rfl; have hcz43_1 : w41.cell? ⟨gb459, 1, none⟩ = some (.slice none 0 0) := (blk_cell BK459.out 1).trans rfl; have hfz43_0 := blk_frozen BK459.out 0; have hfz43_1 := blk_frozen BK459.out 1; obtain ⟨Ao44, co44, eo44⟩ := Kd.R_slice HO457.out; subst eo44; have hcz45_0 : w41.cell? ⟨gb433, 0, none⟩ = some (.bool t436) := (blk_cell BK433.out 0).trans rfl; have hcz45_1 : w41.cell? ⟨gb433, 1, none⟩ = some (.slice Ao14 t437.length co14) := (blk_cell BK433.out 1).trans rfl; have hfz45_0 := blk_frozen BK433.out 0; have hfz45_1 := blk_frozen BK433.out 1) | (go_at_call 29; (with_reducible refine (waybilllaw10_Same.calls kj6 t454 _ _ t455 t436 _ _ t437 true _ ?side1 ?side2 ?side3 ?side4 A29.out).mono ?_); (case side1 => refine (Kd.R_reads' (e := 41) (base := w.heap.size) (ok := fun k_ => (True ∧ some k_ ≠ (.slice Ao14 t437.length co14 : Value).ownBlock)) (n := t455.length) (c := co44) ?_).2.2; exact (by (with_reducible repeat (first | apply Kd.R_alloc | apply Kd.R_drewN | apply Kd.R_drew)); exact (Kd.R_mono (Kd.R_far (p := ⟨gb459, 1, none⟩) (Kd.R_far (p := ⟨gb459, 0, none⟩) (Kd.R_types HO457.out BK459.out (by decide)) (fun _ hk => hk.2) (.bool t454)) (fun _ hk => hk.2) (.slice Ao44 t455.length co44)) (fun _ h_ => h_.1)))); (case side2 => exact (Kd.R_reads' HO457.out).2.1); (case side3 => refine (Kd.R_reads' (e := 41) (base := w.heap.size) (ok := fun k_ => (True ∧ some k_ ≠ (.slice Ao44 t455.length co44 : Value).ownBlock)) (n := t437.length) (c := co14) ?_).2.2; exact (by (with_reducible repeat (first | apply Kd.R_alloc | apply Kd.R_drewN | apply Kd.R_drew)); exact (Kd.R_mono (Kd.R_far (p := ⟨gb459, 1, none⟩) (Kd.R_far (p := ⟨gb459, 0, none⟩) (Kd.R_types HO_434001.out BK459.out (by decide)) (fun _ hk => hk.2) (.bool t454)) (fun _ hk => hk.2) (.slice Ao44 t455.length co44)) (fun _ h_ => h_.1)))); (case side4 => exact (Kd.R_reads' HO_434001.out).2.1); rintro e w46 ⟨rfl, hb⟩; have n0_ := Aside0.mk (Kd.R_below (by (with_reducible repeat (first | apply Kd.R_alloc | apply Kd.R_drewN | apply Kd.R_drew)); exact (Kd.R_mono (Kd.R_far (p := ⟨gb459, 1, none⟩) (Kd.R_far (p := ⟨gb459, 0, none⟩) (Kd.R_types HO_5.out BK459.out (by decide)) (fun _ hk => hk.2) (.bool t454)) (fun _ hk => hk.2) (.slice Ao44 t455.length co44)) (fun _ h_ => h_.1))) hb); have n1_ := Aside0.mk (Kd.R_below (by (with_reducible repeat (first | apply Kd.R_alloc | apply Kd.R_drewN | apply Kd.R_drew)); exact (Kd.R_mono (Kd.R_far (p := ⟨gb459, 1, none⟩) (Kd.R_far (p := ⟨gb459, 0, none⟩) (Kd.R_types HO_434001.out BK459.out (by decide)) (fun _ hk => hk.2) (.bool t454)) (fun _ hk => hk.2) (.slice Ao44 t455.length co44)) (fun _ h_ => h_.1))) hb); have n2_ := Aside0.mk (Kd.R_below (by (with_reducible repeat (first | apply Kd.R_alloc | apply Kd.R_drewN | apply Kd.R_drew)); exact (Kd.R_mono (Kd.R_far (p := ⟨gb459, 1, none⟩) (Kd.R_far (p := ⟨gb459, 0, none⟩) (Kd.R_types HO453.out BK459.out (by decide)) (fun _ hk => hk.2) (.bool t454)) (fun _ hk => hk.2) (.slice Ao44 t455.length co44)) (fun _ h_ => h_.1))) hb); have n3_ := Aside0.mk (Kd.R_below (by (with_reducible repeat (first | apply Kd.R_alloc | apply Kd.R_drewN | apply Kd.R_drew)); exact (Kd.R_mono (Kd.R_far (p := ⟨gb459, 1, none⟩) (Kd.R_far (p := ⟨gb459, 0, none⟩) (Kd.R_types HO457.out BK459.out (by decide)) (fun _ hk => hk.2) (.bool t454)) (fun _ hk => hk.2) (.slice Ao44 t455.length co44)) (fun _ h_ => h_.1))) hb); have n4_ := Aside0.mk (blk_below (g := gb433) (o := .cells #[.bool t436, .slice Ao14 t437.length co14] 44 (0, 0)) (by (with_reducible repeat (first | refine blk_drewN ?_ _ | refine blk_drew ?_ | refine blk_alloc ?_ _)); refine blk_far ?_ NB433_459.out _; (with_reducible repeat (first | refine blk_drewN ?_ _ | refine blk_drew ?_ | refine blk_alloc ?_ _)); refine blk_far ?_ NB433_459.out _; (with_reducible repeat (first | refine blk_drewN ?_ _ | refine blk_drew ?_ | refine blk_alloc ?_ _)); exact BK433.out) hb); have n5_ := Aside0.mk (blk_below (g := gb459) (o := .cells #[.bool t454, .slice Ao44 t455.length co44] 44 (0, 0)) (by (with_reducible repeat (first | refine blk_drewN ?_ _ | refine blk_drew ?_ | refine blk_alloc ?_ _)); refine blk_put (cs := #[.bool t454, .slice none 0 0]) ?_ 1 _ rfl; (with_reducible repeat (first | refine blk_drewN ?_ _ | refine blk_drew ?_ | refine blk_alloc ?_ _)); refine blk_put (cs := #[.bool false, .slice none 0 0]) ?_ 0 _ rfl; (with_reducible repeat (first | refine blk_drewN ?_ _ | refine blk_drew ?_ | refine blk_alloc ?_ _)); exact BK459.out) hb); have n6_ := Aside0.mk (below_step (by repeat (first | (with_reducible first | exact HB.out | apply below_alloc | apply pw_below_drewN | apply below_drew1 | refine below_set ?_ GE433.out | refine below_set ?_ GE459.out) | exact HB.out)) hb); clear HO_5; clear HO_434001; clear HO453; clear HO457; clear BK433; clear BK459; clear HB; have HO_5 := n0_; have HO_434001 := n1_; have HO453 := n2_; have HO457 := n3_; have BK433 := n4_; have BK459 := n5_; have HB := n6_; clear n0_ n1_ n2_ n3_ n4_ n5_ n6_; (try clear hb); (try clear hb2); (try clear hk); (try clear hi); (try clear hge); have hcz47_0 : w46.cell? ⟨gb433, 0, none⟩ = some (.bool t436) := (blk_cell BK433.out 0).trans rfl; have hcz47_1 : w46.cell? ⟨gb433, 1, none⟩ = some (.slice Ao14 t437.length co14) := (blk_cell BK433.out 1).trans rfl; have hfz47_0 := blk_frozen BK433.out 0; have hfz47_1 := blk_frozen BK433.out 1) | (go_at_call 24; (with_reducible refine (node_Size.calls kj6 t436 _ _ t437 t461 _ ?side1 ?side2 A31.out).mono ?_); (case side1 => repeat (first | exact (Kd.R_reads' HO_434001.out).2.2 | (with_reducible refine Kd.C_alloc ?_ _) | (with_reducible refine Kd.C_drewN ?_ _) | (with_reducible refine Kd.C_drew ?_))); (case side2 => exact (Kd.R_reads' HO_434001.out).2.1); rintro e w48 ⟨rfl, hb⟩; have n0_ := Aside0.mk (Kd.R_below (by (with_reducible repeat (first | apply Kd.R_alloc | apply Kd.R_drewN | apply Kd.R_drew)); exact HO_5.out) hb); have n1_ := Aside0.mk (Kd.R_below (by (with_reducible repeat (first | apply Kd.R_alloc | apply Kd.R_drewN | apply Kd.R_drew)); exact HO_434001.out) hb); have n2_ := Aside0.mk (Kd.R_below (by (with_reducible repeat (first | apply Kd.R_alloc | apply Kd.R_drewN | apply Kd.R_drew)); exact HO453.out) hb); have n3_ := Aside0.mk (Kd.R_below (by (with_reducible repeat (first | apply Kd.R_alloc | apply Kd.R_drewN | apply Kd.R_drew)); exact HO457.out) hb); have n4_ := Aside0.mk (blk_below (g := gb433) (o := .cells #[.bool t436, .slice Ao14 t437.length co14] 44 (0, 0)) (by (with_reducible repeat (first | refine blk_drewN ?_ _ | refine blk_drew ?_ | refine blk_alloc ?_ _)); exact BK433.out) hb); have n5_ := Aside0.mk (blk_below (g := gb459) (o := .cells #[.bool t454, .slice Ao44 t455.length co44] 44 (0, 0)) (by (with_reducible repeat (first | refine blk_drewN ?_ _ | refine blk_drew ?_ | refine blk_alloc ?_ _)); exact BK459.out) hb); have n6_ := Aside0.mk (below_step (by repeat (first | (with_reducible first | exact HB.out | apply below_alloc | apply pw_below_drewN | apply below_drew1 | refine below_set ?_ GE433.out | refine below_set ?_ GE459.out) | exact HB.out)) hb); clear HO_5; clear HO_434001; clear HO453; clear HO457; clear BK433; clear BK459; clear HB; have HO_5 := n0_; have HO_434001 := n1_; have HO453 := n2_; have HO457 := n3_; have BK433 := n4_; have BK459 := n5_; have HB := n6_; clear n0_ n1_ n2_ n3_ n4_ n5_ n6_; (try clear hb); (try clear hb2); (try clear hk); (try clear hi); (try clear hge)) | (go_at_call 21; (with_reducible refine (waybilllaw10_awake.calls kj6  t462 _ A33.out).mono ?_); rintro e w49 ⟨rfl, hb⟩; have n0_ := Aside0.mk (Kd.R_below (by (with_reducible repeat (first | apply Kd.R_alloc | apply Kd.R_drewN | apply Kd.R_drew)); exact HO_5.out) hb); have n1_ := Aside0.mk (Kd.R_below (by (with_reducible repeat (first | apply Kd.R_alloc | apply Kd.R_drewN | apply Kd.R_drew)); exact HO_434001.out) hb); have n2_ := Aside0.mk (Kd.R_below (by (with_reducible repeat (first | apply Kd.R_alloc | apply Kd.R_drewN | apply Kd.R_drew)); exact HO453.out) hb); have n3_ := Aside0.mk (Kd.R_below (by (with_reducible repeat (first | apply Kd.R_alloc | apply Kd.R_drewN | apply Kd.R_drew)); exact HO457.out) hb); have n4_ := Aside0.mk (blk_below (g := gb433) (o := .cells #[.bool t436, .slice Ao14 t437.length co14] 44 (0, 0)) (by (with_reducible repeat (first | refine blk_drewN ?_ _ | refine blk_drew ?_ | refine blk_alloc ?_ _)); exact BK433.out) hb); have n5_ := Aside0.mk (blk_below (g := gb459) (o := .cells #[.bool t454, .slice Ao44 t455.length co44] 44 (0, 0)) (by (with_reducible repeat (first | refine blk_drewN ?_ _ | refine blk_drew ?_ | refine blk_alloc ?_ _)); exact BK459.out) hb); have n6_ := Aside0.mk (below_step (by repeat (first | (with_reducible first | exact HB.out | apply below_alloc | apply pw_below_drewN | apply below_drew1 | refine below_set ?_ GE433.out | refine below_set ?_ GE459.out) | exact HB.out)) hb); clear HO_5; clear HO_434001; clear HO453; clear HO457; clear BK433; clear BK459; clear HB; have HO_5 := n0_; have HO_434001 := n1_; have HO453 := n2_; have HO457 := n3_; have BK433 := n4_; have BK459 := n5_; have HB := n6_; clear n0_ n1_ n2_ n3_ n4_ n5_ n6_; (try clear hb); (try clear hb2); (try clear hk); (try clear hi); (try clear hge)))
                        all_goals first | (go_ret; exact ⟨by first | rfl | (simp [errW_none, errW_some]; done) | (simp [errW_none, errW_some]; rfl) | (simp [*, errW_none, errW_some]; done) | (simp [*, errW_none, errW_some]; rfl), by repeat (first | (with_reducible first | exact HB.out | apply below_alloc | apply pw_below_drewN | apply below_drew1 | refine below_set ?_ GE433.out | refine below_set ?_ GE459.out) | exact HB.out)⟩) | (exfalso; simp_all; done)
                      · rw [if_neg c32] at H
                        exact absurd H (by simp)
                    · replace c30 := Bool.eq_false_iff.mpr c30
                      subst c30
                      have H1 : (none) = some r := by rw [if_neg (show ¬ (false = true) by decide)] at H; exact H
                      clear H
                      have H := H1
                      clear H1
                      exact absurd H (by simp)
                  · replace c28 := Bool.eq_false_iff.mpr c28
                    subst c28
                    have H1 : (none) = some r := by rw [if_neg (show ¬ (false = true) by decide)] at H; exact H
                    clear H
                    have H := H1
                    clear H1
                    exact absurd H (by simp)
                · replace c27 := Bool.eq_false_iff.mpr c27
                  subst c27
                  have H1 : (none) = some r := by rw [if_neg (show ¬ (false = true) by decide)] at H; exact H
                  clear H
                  have H := H1
                  clear H1
                  exact absurd H (by simp)
              · rw [if_neg c25] at H
                exact absurd H (by simp)
            · rw [if_neg c24] at H
              exact absurd H (by simp)
          · rw [if_neg c23] at H
            exact absurd H (by simp)
  · replace c4 := Bool.eq_false_iff.mpr c4
    subst c4
    have H1 : ((waybilllaw10_awake.f k).bind fun t435 => (some t435)) = some r := by rw [if_neg (show ¬ (false = true) by decide)] at H; exact H
    clear H
    have H := H1
    clear H1
    replace H := Option.bind_eq_some_iff.mp H
    obtain ⟨t435, A500, H⟩ := H
    replace H : (some t435) = some r := H
    have A50 := Aside0.mk A500
    clear A500
    obtain rfl := Option.some.inj H
    go_enter Try.func9, Try.ntmps9
    go_wp2_with (first | ((with_reducible refine gate_dst (N := 2) rfl ?_); (try (refine gate_guard (by rfl) ?_; dsimp only)); refine box_event ?hg (N := 2) ?hd (cs := #[.bool a0_0, .slice A0_1 l0_1.length c0_1]) (t := 44) ?hr ?_; (case hd => rfl); (case hg => rfl); (case hr => first | (go_simp; done) | (go_simp; rfl)); intro gb433 hg w51 hbox hb; have n0_ := Aside0.mk (below_step (by repeat (first | (with_reducible first | exact HB.out | apply below_alloc | apply pw_below_drewN | apply below_drew1) | exact HB.out)) hb); have n1_ := Aside0.mk (hbox); have n2_ := Aside0.mk ((by rw [hg]; exact (below_size (by repeat (first | (with_reducible first | exact HB.out | apply below_alloc | apply pw_below_drewN | apply below_drew1) | exact HB.out))) : w.heap.size ≤ gb433)); have n3_ := Aside0.mk ((by rw [hg]; exact (below_size (by repeat (first | (with_reducible first | exact HB.out | apply below_alloc | apply pw_below_drewN | apply below_drew1) | exact HB.out))) : w.heap.size ≤ gb433)); clear HB; have HB := n0_; have BK433 := n1_; have GW433 := n2_; have GE433 := n3_; clear n0_ n1_ n2_ n3_; clear hb hbox hg; have hcz52_0 : w51.cell? ⟨gb433, 0, none⟩ = some (.bool a0_0) := (blk_cell BK433.out 0).trans rfl; have hcz52_1 : w51.cell? ⟨gb433, 1, none⟩ = some (.slice A0_1 l0_1.length c0_1) := (blk_cell BK433.out 1).trans rfl; have hfz52_0 := blk_frozen BK433.out 0; have hfz52_1 := blk_frozen BK433.out 1) | ((with_reducible refine gate_callee (f := 22) rfl ?_); refine goesL_ (some 10) rfl rfl Try.func22 (by kernel_rfl) rfl #[.agg #[.bool a0_0, .slice A0_1 l0_1.length c0_1]] rfl (by (try simp only [List.map_toArray, List.map_cons, List.map_nil]); first | done | rfl | (simp only [List.length_drop, List.length_take]; rfl)) ?_; (with_reducible refine (waybilllaw10_Small.calls k a0_0 _ _ l0_1 false _ ?side1 ?side2 A3.out).mono ?_); (case side1 => repeat (first | exact (Kd.C_below HR0_1.out HB.out) | (with_reducible refine Kd.C_alloc ?_ _) | (with_reducible refine Kd.C_drewN ?_ _) | (with_reducible refine Kd.C_drew ?_))); (case side2 => exact HC0_1.out); rintro e w53 ⟨rfl, hb⟩; refine ⟨_, rfl, ?_⟩; have n0_ := Aside0.mk (blk_below (g := gb433) (o := .cells #[.bool a0_0, .slice A0_1 l0_1.length c0_1] 44 (0, 0)) (by (with_reducible repeat (first | refine blk_drewN ?_ _ | refine blk_drew ?_ | refine blk_alloc ?_ _)); exact BK433.out) hb); have n1_ := Aside0.mk (below_step (by repeat (first | (with_reducible first | exact HB.out | apply below_alloc | apply pw_below_drewN | apply below_drew1 | refine below_set ?_ GE433.out) | exact HB.out)) hb); clear BK433; clear HB; have BK433 := n0_; have HB := n1_; clear n0_ n1_; (try clear hb); (try clear hb2); (try clear hk); (try clear hi); (try clear hge)) | ((with_reducible refine gate_callee (f := 21) rfl ?_); refine goesL_ (some 12) rfl rfl Try.func21 (by kernel_rfl) rfl #[] rfl (by (try simp only [List.map_toArray, List.map_cons, List.map_nil]); first | done | rfl | (simp only [List.length_drop, List.length_take]; rfl)) ?_; (with_reducible refine (waybilllaw10_awake.calls k  t435 _ A50.out).mono ?_); rintro e w54 ⟨rfl, hb⟩; refine ⟨_, rfl, ?_⟩; have n0_ := Aside0.mk (blk_below (g := gb433) (o := .cells #[.bool a0_0, .slice A0_1 l0_1.length c0_1] 44 (0, 0)) (by (with_reducible repeat (first | refine blk_drewN ?_ _ | refine blk_drew ?_ | refine blk_alloc ?_ _)); exact BK433.out) hb); have n1_ := Aside0.mk (below_step (by repeat (first | (with_reducible first | exact HB.out | apply below_alloc | apply pw_below_drewN | apply below_drew1 | refine below_set ?_ GE433.out) | exact HB.out)) hb); clear BK433; clear HB; have BK433 := n0_; have HB := n1_; clear n0_ n1_; (try clear hb); (try clear hb2); (try clear hk); (try clear hi); (try clear hge)))
    all_goals first | (go_ret; exact ⟨by first | rfl | (simp [errW_none, errW_some]; done) | (simp [errW_none, errW_some]; rfl) | (simp [*, errW_none, errW_some]; done) | (simp [*, errW_none, errW_some]; rfl), by repeat (first | (with_reducible first | exact HB.out | apply below_alloc | apply pw_below_drewN | apply below_drew1 | refine below_set ?_ GE433.out) | exact HB.out)⟩) | (exfalso; simp_all; done)

end Go.Proofs.Ytfhaffpegncdiaa.PN
