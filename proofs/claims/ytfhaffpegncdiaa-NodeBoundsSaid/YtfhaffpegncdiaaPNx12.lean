/- What functions of the given program come to, and that they do: written out of the translation by a program of this session; Lean checks it. -/
import Derived.Test.YtfhaffpegncdiaaPNx0
import Derived.Test.YtfhaffpegncdiaaPNx11
namespace Go.Proofs.Ytfhaffpegncdiaa.PN
open Go.RowKit Go.Proofs.YtfhaffpegncdiaaW.PrintWords Go.Proofs.YtfhaffpegncdiaaW.PrintLast Go.Proofs.YtfhaffpegncdiaaW.PrintMore
attribute [local go_sem] max2_int min2_int max_two min_two max_three min_three max_four min_four   -- for this text's walks alone
set_option linter.unusedVariables false
set_option linter.unusedSimpArgs false

/-! ### waybillref7_NodeOk: function 23 -/
mutual
def waybillref7_NodeOk.l0 : Nat → Int → Bool → List (S41) → Option (Bool)
  | 0, _, _, _ => none
  | k + 1, x3, x261000, x261001 => if x3 < (x261001.length : Int) then (if 0 ≤ x3 then (if (((rd_T41 x261001 x3).f0).size : Int) < 1 then (waybillref7_NodeOk.j1 k x3 true x261000 x261001 ((rd_T41 x261001 x3).f0) ((rd_T41 x261001 x3).f1) ((rd_T41 x261001 x3).f2)) else (if (((rd_T41 x261001 x3).f0).size : Int) > 130 then (waybillref7_NodeOk.j1 k x3 true x261000 x261001 ((rd_T41 x261001 x3).f0) ((rd_T41 x261001 x3).f1) ((rd_T41 x261001 x3).f2)) else (if x3 > 0 then (if 0 ≤ (wrap64 (x3 - 1)) then (if (wrap64 (x3 - 1)) < (x261001.length : Int) then (waybillref7_NodeOk.j1 k x3 (!(Op.bytesLess (((rd_T41 x261001 (wrap64 (x3 - 1))).f0).toList) (((rd_T41 x261001 x3).f0).toList))) x261000 x261001 ((rd_T41 x261001 x3).f0) ((rd_T41 x261001 x3).f1) ((rd_T41 x261001 x3).f2)) else (none)) else (none)) else (waybillref7_NodeOk.j1 k x3 false x261000 x261001 ((rd_T41 x261001 x3).f0) ((rd_T41 x261001 x3).f1) ((rd_T41 x261001 x3).f2))))) else (none)) else ((waybillref7_NodeSize.f k x261000 x261001).bind fun t261 => (if t261 ≤ 512 then (if x261000 = true then (some true) else (some (decide ((x261001.length : Int) > 0)))) else (some false)))
def waybillref7_NodeOk.j1 : Nat → Int → Bool → Bool → List (S41) → ByteArray → ByteArray → Int → Option (Bool)
  | 0, _, _, _, _, _, _, _ => none
  | k + 1, x3, x42, x261000, x261001, x264000, x264001, x264002 => if x42 = true then (some false) else (if x261000 = true then (if (x264001.size : Int) > 20 then (some false) else (if x264002 = 0 then (waybillref7_NodeOk.l0 k (wrap64 (x3 + 1)) x261000 x261001) else (some false))) else (if x264001.toList = ([] : List UInt8) then (if x264002 < 2 then (some false) else (if x264002 > 4294967295 then (some false) else (waybillref7_NodeOk.l0 k (wrap64 (x3 + 1)) x261000 x261001))) else (some false)))
end
def waybillref7_NodeOk.f (k : Nat) (a0_0 : Bool) (l0_1 : List (S41)) : Option (Bool) := waybillref7_NodeOk.l0 k 0 a0_0 l0_1
theorem waybillref7_NodeOk.mono_l : ∀ k, (∀ y0 y1 y2, LeO (waybillref7_NodeOk.l0 k y0 y1 y2) (waybillref7_NodeOk.l0 (k + 1) y0 y1 y2)) ∧ (∀ y0 y1 y2 y3 y4 y5 y6, LeO (waybillref7_NodeOk.j1 k y0 y1 y2 y3 y4 y5 y6) (waybillref7_NodeOk.j1 (k + 1) y0 y1 y2 y3 y4 y5 y6))
  | 0 => ⟨fun _ _ _ r h => by simp [waybillref7_NodeOk.l0] at h, fun _ _ _ _ _ _ _ r h => by simp [waybillref7_NodeOk.j1] at h⟩
  | k + 1 => by
    obtain ⟨ih0, ih1⟩ := waybillref7_NodeOk.mono_l k
    refine ⟨?_, ?_⟩
    · intro y0 y1 y2
      unfold waybillref7_NodeOk.l0
      repeat' first
      | (with_reducible exact ih0 _ _ _)
      | (with_reducible exact ih1 _ _ _ _ _ _ _)
      | (with_reducible exact waybillref7_NodeSize.mono _ _ _)
      | (with_reducible exact LeO.refl _)
      | (with_reducible exact LeO.none _)
      | (with_reducible refine LeO.ite ?_ ?_)
      | (with_reducible refine LeO.bind ?_ (fun _ => ?_))
      | exact ih0 _ _ _
      | exact ih1 _ _ _ _ _ _ _
      | exact waybillref7_NodeSize.mono _ _ _
      | exact LeO.none _
      | refine LeO.ite ?_ ?_
      | refine LeO.bind ?_ (fun _ => ?_)
    · intro y0 y1 y2 y3 y4 y5 y6
      unfold waybillref7_NodeOk.j1
      repeat' first
      | (with_reducible exact ih0 _ _ _)
      | (with_reducible exact ih1 _ _ _ _ _ _ _)
      | (with_reducible exact waybillref7_NodeSize.mono _ _ _)
      | (with_reducible exact LeO.refl _)
      | (with_reducible exact LeO.none _)
      | (with_reducible refine LeO.ite ?_ ?_)
      | (with_reducible refine LeO.bind ?_ (fun _ => ?_))
      | exact ih0 _ _ _
      | exact ih1 _ _ _ _ _ _ _
      | exact waybillref7_NodeSize.mono _ _ _
      | exact LeO.none _
      | refine LeO.ite ?_ ?_
      | refine LeO.bind ?_ (fun _ => ?_)
theorem waybillref7_NodeOk.mono : ∀ a0 a1 k, LeO (waybillref7_NodeOk.f k a0 a1) (waybillref7_NodeOk.f (k + 1) a0 a1) := by
  intro a0 a1 k
  obtain ⟨ih0, ih1⟩ := waybillref7_NodeOk.mono_l k
  unfold waybillref7_NodeOk.f
  repeat' first
      | (with_reducible exact ih0 _ _ _)
      | (with_reducible exact ih1 _ _ _ _ _ _ _)
      | (with_reducible exact waybillref7_NodeSize.mono _ _ _)
      | (with_reducible exact LeO.refl _)
      | (with_reducible exact LeO.none _)
      | (with_reducible refine LeO.ite ?_ ?_)
      | (with_reducible refine LeO.bind ?_ (fun _ => ?_))
      | exact ih0 _ _ _
      | exact ih1 _ _ _ _ _ _ _
      | exact waybillref7_NodeSize.mono _ _ _
      | exact LeO.none _
      | refine LeO.ite ?_ ?_
      | refine LeO.bind ?_ (fun _ => ?_)
set_option maxHeartbeats 8000000 in
set_option maxRecDepth 100000 in
theorem waybillref7_NodeOk.calls (k : Nat) (a0_0 : Bool) (A0_1 : Option Addr) (c0_1 : Nat) (l0_1 : List (S41)) (r : Bool) (w : World) (hr0_1 : Kd.C k41 w A0_1 l0_1.length l0_1) (hc0_1 : l0_1.length ≤ c0_1) (h : waybillref7_NodeOk.f k a0_0 l0_1 = some r) :
    Calls Try.prog 23 #[.agg #[.bool a0_0, .slice A0_1 l0_1.length c0_1]] w fun e w' => e = .returned (.bool r) ∧ Below w.heap.size w w' := by
  have hu44 := Try.underlying44
  have hu41 := Try.underlying41
  have HR0_1 := Aside0.mk hr0_1
  have HC0_1 := Aside0.mk hc0_1
  clear hr0_1 hc0_1
  have HB := Aside0.mk (Below.refl w.heap.size w)
  have H : (waybillref7_NodeOk.l0 k 0 a0_0 l0_1) = some r := h
  clear h
  have H' := Aside0.mk H
  clear H
  go_enter Try.func23, Try.ntmps23
  go_wp2_with (first | ((with_reducible refine gate_dst (N := 1) rfl ?_); (try (refine gate_guard (by rfl) ?_; dsimp only)); refine box_event ?hg (N := 1) ?hd (cs := #[.bool a0_0, .slice A0_1 l0_1.length c0_1]) (t := 44) ?hr ?_; (case hd => rfl); (case hg => rfl); (case hr => first | (go_simp; done) | (go_simp; rfl)); intro gb260 hg w2 hbox hb; have n0_ := Aside0.mk (below_step (by repeat (first | (with_reducible first | exact HB.out | apply below_alloc | apply pw_below_drewN | apply below_drew1) | exact HB.out)) hb); have n1_ := Aside0.mk (hbox); have n2_ := Aside0.mk ((by rw [hg]; exact (below_size (by repeat (first | (with_reducible first | exact HB.out | apply below_alloc | apply pw_below_drewN | apply below_drew1) | exact HB.out))) : w.heap.size ≤ gb260)); have n3_ := Aside0.mk ((by rw [hg]; exact (below_size (by repeat (first | (with_reducible first | exact HB.out | apply below_alloc | apply pw_below_drewN | apply below_drew1) | exact HB.out))) : w.heap.size ≤ gb260)); clear HB; have HB := n0_; have BK260 := n1_; have GW260 := n2_; have GE260 := n3_; clear n0_ n1_ n2_ n3_; clear hb hbox hg))
  repeat (go_quiet (first | ((with_reducible refine gate_dst (N := 1) rfl ?_); (try (refine gate_guard (by rfl) ?_; dsimp only)); refine box_event ?hg (N := 1) ?hd (cs := #[.bool a0_0, .slice A0_1 l0_1.length c0_1]) (t := 44) ?hr ?_; (case hd => rfl); (case hg => rfl); (case hr => first | (go_simp; done) | (go_simp; rfl)); intro gb260 hg w2 hbox hb; have n0_ := Aside0.mk (below_step (by repeat (first | (with_reducible first | exact HB.out | apply below_alloc | apply pw_below_drewN | apply below_drew1) | exact HB.out)) hb); have n1_ := Aside0.mk (hbox); have n2_ := Aside0.mk ((by rw [hg]; exact (below_size (by repeat (first | (with_reducible first | exact HB.out | apply below_alloc | apply pw_below_drewN | apply below_drew1) | exact HB.out))) : w.heap.size ≤ gb260)); have n3_ := Aside0.mk ((by rw [hg]; exact (below_size (by repeat (first | (with_reducible first | exact HB.out | apply below_alloc | apply pw_below_drewN | apply below_drew1) | exact HB.out))) : w.heap.size ≤ gb260)); clear HB; have HB := n0_; have BK260 := n1_; have GW260 := n2_; have GE260 := n3_; clear n0_ n1_ n2_ n3_; clear hb hbox hg)); try go_wp2_with (first | ((with_reducible refine gate_dst (N := 1) rfl ?_); (try (refine gate_guard (by rfl) ?_; dsimp only)); refine box_event ?hg (N := 1) ?hd (cs := #[.bool a0_0, .slice A0_1 l0_1.length c0_1]) (t := 44) ?hr ?_; (case hd => rfl); (case hg => rfl); (case hr => first | (go_simp; done) | (go_simp; rfl)); intro gb260 hg w2 hbox hb; have n0_ := Aside0.mk (below_step (by repeat (first | (with_reducible first | exact HB.out | apply below_alloc | apply pw_below_drewN | apply below_drew1) | exact HB.out)) hb); have n1_ := Aside0.mk (hbox); have n2_ := Aside0.mk ((by rw [hg]; exact (below_size (by repeat (first | (with_reducible first | exact HB.out | apply below_alloc | apply pw_below_drewN | apply below_drew1) | exact HB.out))) : w.heap.size ≤ gb260)); have n3_ := Aside0.mk ((by rw [hg]; exact (below_size (by repeat (first | (with_reducible first | exact HB.out | apply below_alloc | apply pw_below_drewN | apply below_drew1) | exact HB.out))) : w.heap.size ≤ gb260)); clear HB; have HB := n0_; have BK260 := n1_; have GW260 := n2_; have GE260 := n3_; clear n0_ n1_ n2_ n3_; clear hb hbox hg)))
  go_loopg [3] k (fun kq v3 w' => ∃ (x3_1 : Int), v3 = .int .i64 x3_1 ∧ Aside0 (waybillref7_NodeOk.l0 kq x3_1 a0_0 l0_1 = some r) ∧ Aside0 (kq ≤ k) ∧ Aside0 (w'.heap[gb260]? = some (.cells #[.bool a0_0, (.slice A0_1 l0_1.length c0_1)] 44 (0, 0))) ∧ Aside0 (Below w.heap.size w w'))
  case atStart => exact ⟨(0), (by first | rfl | (simp; done) | (simp [*]; done)), H', ⟨Nat.le_refl _⟩, ⟨by exact BK260.out⟩, ⟨by repeat (first | (with_reducible first | exact HB.out | apply below_alloc | apply pw_below_drewN | apply below_drew1 | refine below_set ?_ GE260.out) | exact HB.out)⟩⟩
  case round =>
    clear H'
    try clear c2
    try clear p2
    obtain ⟨x3_1, rfl, HA, HK1, BK260, HB⟩ := hrel
    cases gk with
    | zero => exact absurd HA.out (by simp [waybillref7_NodeOk.l0])
    | succ k1 =>
      have H := HA.out
      clear HA
      simp only [waybillref7_NodeOk.l0] at H
      by_cases c3 : x3_1 < (l0_1.length : Int)
      · rw [if_pos c3] at H
        have c3b0 : decide (x3_1 < (l0_1.length : Int)) = true := decide_eq_true c3
        clear c3
        by_cases c4 : 0 ≤ x3_1
        · rw [if_pos c4] at H
          have c4b0 : decide (0 ≤ x3_1) = true := decide_eq_true c4
          clear c4
          have HC5 := Aside0.mk H
          clear H
          have hcz6_0 : wr.cell? ⟨gb260, 0, none⟩ = some (.bool a0_0) := (blk_cell BK260.out 0).trans rfl
          have hcz6_1 : wr.cell? ⟨gb260, 1, none⟩ = some (.slice A0_1 l0_1.length c0_1) := (blk_cell BK260.out 1).trans rfl
          have hfz6_0 := blk_frozen BK260.out 0
          have hfz6_1 := blk_frozen BK260.out 1
          have p262 : 0 ≤ (x3_1 : Int) := of_decide_eq_true (by first | (with_reducible assumption) | assumption)
          have q262 : x3_1 < (l0_1.length : Int) := of_decide_eq_true (by first | (with_reducible assumption) | assumption)
          obtain ⟨ad262, e262, hx262_0, hx262_1, hx262_2⟩ := at_T41 HR0_1.out x3_1 p262 q262
          cases e262
          replace hx262_0 := (HB.out.cell (World.block_lt_of_cell? w _ hx262_0)).trans hx262_0
          replace hx262_1 := (HB.out.cell (World.block_lt_of_cell? w _ hx262_1)).trans hx262_1
          replace hx262_2 := (HB.out.cell (World.block_lt_of_cell? w _ hx262_2)).trans hx262_2
          replace p262 := eq_true p262
          replace q262 := eq_true q262
          go_upto_region 5 with (first | ((with_reducible refine gate_dst (N := 4) rfl ?_); (try (refine gate_guard (by rfl) ?_; dsimp only)); refine box_event ?hg (N := 4) ?hd (cs := #[.string (⟨#[]⟩ : ByteArray), .string (⟨#[]⟩ : ByteArray), .int .i64 0]) (t := 41) ?hr ?_; (case hd => rfl); (case hg => rfl); (case hr => first | (go_simp; done) | (go_simp; rfl)); intro gb263 hg w7 hbox hb; have n0_ := Aside0.mk (blk_below (g := gb260) (o := .cells #[.bool a0_0, .slice (some ad262) l0_1.length c0_1] 44 (0, 0)) (by exact BK260.out) hb); have n1_ := Aside0.mk (below_step (by repeat (first | (with_reducible first | exact HB.out | apply below_alloc | apply pw_below_drewN | apply below_drew1 | refine below_set ?_ GE260.out) | exact HB.out)) hb); have n2_ := Aside0.mk (hbox); have n3_ := Aside0.mk ((by rw [hg]; exact (below_size (by repeat (first | (with_reducible first | exact HB.out | apply below_alloc | apply pw_below_drewN | apply below_drew1 | refine below_set ?_ GE260.out) | exact HB.out))) : w.heap.size ≤ gb263)); have n4_ := Aside0.mk ((by rw [hg]; exact (below_size (by repeat (first | (with_reducible first | exact HB.out | apply below_alloc | apply pw_below_drewN | apply below_drew1 | refine below_set ?_ GE260.out) | exact HB.out))) : w.heap.size ≤ gb263)); have n5_ := Aside0.mk ((by rw [hg]; exact Nat.ne_of_lt (blk_lt (g := gb260) (o := .cells #[.bool a0_0, .slice (some ad262) l0_1.length c0_1] 44 (0, 0)) (by exact BK260.out)) : gb260 ≠ gb263)); have n6_ := Aside0.mk ((by rw [hg]; exact Nat.ne_of_gt (blk_lt (g := gb260) (o := .cells #[.bool a0_0, .slice (some ad262) l0_1.length c0_1] 44 (0, 0)) (by exact BK260.out)) : gb263 ≠ gb260)); clear BK260; clear HB; have BK260 := n0_; have HB := n1_; have BK263 := n2_; have GW263 := n3_; have GE263 := n4_; have NB260_263 := n5_; have NB263_260 := n6_; clear n0_ n1_ n2_ n3_ n4_ n5_ n6_; clear hb hbox hg; have hnb8 := NB263_260.out; have hnc8 := NB260_263.out; have hcz9_0 : w7.cell? ⟨gb263, 0, none⟩ = some (.string (⟨#[]⟩ : ByteArray)) := (blk_cell BK263.out 0).trans rfl; have hcz9_1 : w7.cell? ⟨gb263, 1, none⟩ = some (.string (⟨#[]⟩ : ByteArray)) := (blk_cell BK263.out 1).trans rfl; have hcz9_2 : w7.cell? ⟨gb263, 2, none⟩ = some (.int .i64 0) := (blk_cell BK263.out 2).trans rfl; have hfz9_0 := blk_frozen BK263.out 0; have hfz9_1 := blk_frozen BK263.out 1; have hfz9_2 := blk_frozen BK263.out 2))
          repeat (go_quiet (first | ((with_reducible refine gate_dst (N := 4) rfl ?_); (try (refine gate_guard (by rfl) ?_; dsimp only)); refine box_event ?hg (N := 4) ?hd (cs := #[.string (⟨#[]⟩ : ByteArray), .string (⟨#[]⟩ : ByteArray), .int .i64 0]) (t := 41) ?hr ?_; (case hd => rfl); (case hg => rfl); (case hr => first | (go_simp; done) | (go_simp; rfl)); intro gb263 hg w7 hbox hb; have n0_ := Aside0.mk (blk_below (g := gb260) (o := .cells #[.bool a0_0, .slice (some ad262) l0_1.length c0_1] 44 (0, 0)) (by exact BK260.out) hb); have n1_ := Aside0.mk (below_step (by repeat (first | (with_reducible first | exact HB.out | apply below_alloc | apply pw_below_drewN | apply below_drew1 | refine below_set ?_ GE260.out) | exact HB.out)) hb); have n2_ := Aside0.mk (hbox); have n3_ := Aside0.mk ((by rw [hg]; exact (below_size (by repeat (first | (with_reducible first | exact HB.out | apply below_alloc | apply pw_below_drewN | apply below_drew1 | refine below_set ?_ GE260.out) | exact HB.out))) : w.heap.size ≤ gb263)); have n4_ := Aside0.mk ((by rw [hg]; exact (below_size (by repeat (first | (with_reducible first | exact HB.out | apply below_alloc | apply pw_below_drewN | apply below_drew1 | refine below_set ?_ GE260.out) | exact HB.out))) : w.heap.size ≤ gb263)); have n5_ := Aside0.mk ((by rw [hg]; exact Nat.ne_of_lt (blk_lt (g := gb260) (o := .cells #[.bool a0_0, .slice (some ad262) l0_1.length c0_1] 44 (0, 0)) (by exact BK260.out)) : gb260 ≠ gb263)); have n6_ := Aside0.mk ((by rw [hg]; exact Nat.ne_of_gt (blk_lt (g := gb260) (o := .cells #[.bool a0_0, .slice (some ad262) l0_1.length c0_1] 44 (0, 0)) (by exact BK260.out)) : gb263 ≠ gb260)); clear BK260; clear HB; have BK260 := n0_; have HB := n1_; have BK263 := n2_; have GW263 := n3_; have GE263 := n4_; have NB260_263 := n5_; have NB263_260 := n6_; clear n0_ n1_ n2_ n3_ n4_ n5_ n6_; clear hb hbox hg; have hnb8 := NB263_260.out; have hnc8 := NB260_263.out; have hcz9_0 : w7.cell? ⟨gb263, 0, none⟩ = some (.string (⟨#[]⟩ : ByteArray)) := (blk_cell BK263.out 0).trans rfl; have hcz9_1 : w7.cell? ⟨gb263, 1, none⟩ = some (.string (⟨#[]⟩ : ByteArray)) := (blk_cell BK263.out 1).trans rfl; have hcz9_2 : w7.cell? ⟨gb263, 2, none⟩ = some (.int .i64 0) := (blk_cell BK263.out 2).trans rfl; have hfz9_0 := blk_frozen BK263.out 0; have hfz9_1 := blk_frozen BK263.out 1; have hfz9_2 := blk_frozen BK263.out 2)); go_upto_region 5 with (first | ((with_reducible refine gate_dst (N := 4) rfl ?_); (try (refine gate_guard (by rfl) ?_; dsimp only)); refine box_event ?hg (N := 4) ?hd (cs := #[.string (⟨#[]⟩ : ByteArray), .string (⟨#[]⟩ : ByteArray), .int .i64 0]) (t := 41) ?hr ?_; (case hd => rfl); (case hg => rfl); (case hr => first | (go_simp; done) | (go_simp; rfl)); intro gb263 hg w7 hbox hb; have n0_ := Aside0.mk (blk_below (g := gb260) (o := .cells #[.bool a0_0, .slice (some ad262) l0_1.length c0_1] 44 (0, 0)) (by exact BK260.out) hb); have n1_ := Aside0.mk (below_step (by repeat (first | (with_reducible first | exact HB.out | apply below_alloc | apply pw_below_drewN | apply below_drew1 | refine below_set ?_ GE260.out) | exact HB.out)) hb); have n2_ := Aside0.mk (hbox); have n3_ := Aside0.mk ((by rw [hg]; exact (below_size (by repeat (first | (with_reducible first | exact HB.out | apply below_alloc | apply pw_below_drewN | apply below_drew1 | refine below_set ?_ GE260.out) | exact HB.out))) : w.heap.size ≤ gb263)); have n4_ := Aside0.mk ((by rw [hg]; exact (below_size (by repeat (first | (with_reducible first | exact HB.out | apply below_alloc | apply pw_below_drewN | apply below_drew1 | refine below_set ?_ GE260.out) | exact HB.out))) : w.heap.size ≤ gb263)); have n5_ := Aside0.mk ((by rw [hg]; exact Nat.ne_of_lt (blk_lt (g := gb260) (o := .cells #[.bool a0_0, .slice (some ad262) l0_1.length c0_1] 44 (0, 0)) (by exact BK260.out)) : gb260 ≠ gb263)); have n6_ := Aside0.mk ((by rw [hg]; exact Nat.ne_of_gt (blk_lt (g := gb260) (o := .cells #[.bool a0_0, .slice (some ad262) l0_1.length c0_1] 44 (0, 0)) (by exact BK260.out)) : gb263 ≠ gb260)); clear BK260; clear HB; have BK260 := n0_; have HB := n1_; have BK263 := n2_; have GW263 := n3_; have GE263 := n4_; have NB260_263 := n5_; have NB263_260 := n6_; clear n0_ n1_ n2_ n3_ n4_ n5_ n6_; clear hb hbox hg; have hnb8 := NB263_260.out; have hnc8 := NB260_263.out; have hcz9_0 : w7.cell? ⟨gb263, 0, none⟩ = some (.string (⟨#[]⟩ : ByteArray)) := (blk_cell BK263.out 0).trans rfl; have hcz9_1 : w7.cell? ⟨gb263, 1, none⟩ = some (.string (⟨#[]⟩ : ByteArray)) := (blk_cell BK263.out 1).trans rfl; have hcz9_2 : w7.cell? ⟨gb263, 2, none⟩ = some (.int .i64 0) := (blk_cell BK263.out 2).trans rfl; have hfz9_0 := blk_frozen BK263.out 0; have hfz9_1 := blk_frozen BK263.out 1; have hfz9_2 := blk_frozen BK263.out 2)))
          (try simp only [Act.put, List.setIfInBounds_toArray, List.set_cons_zero, List.set_cons_succ])
          go_cut [42] (fun v42 wc => ∃ (kq : Nat) (x42_4 : Bool), v42 = .bool x42_4 ∧ Aside0 (waybillref7_NodeOk.j1 kq x3_1 x42_4 a0_0 l0_1 ((rd_T41 l0_1 x3_1).f0) ((rd_T41 l0_1 x3_1).f1) ((rd_T41 l0_1 x3_1).f2) = some r) ∧ Aside0 (kq ≤ k1) ∧ Aside0 (wc.heap[gb260]? = some (.cells #[.bool a0_0, (.slice (some ad262) l0_1.length c0_1)] 44 (0, 0))) ∧ Aside0 (wc.heap[gb263]? = some (.cells #[.string ((rd_T41 l0_1 x3_1).f0), .string ((rd_T41 l0_1 x3_1).f1), .int .i64 ((rd_T41 l0_1 x3_1).f2)] 41 (0, 0))) ∧ Aside0 (Below w.heap.size w wc))
          case first =>
            have H := HC5.out
            clear HC5
            by_cases c10 : (((rd_T41 l0_1 x3_1).f0).size : Int) < 1
            · rw [if_pos c10] at H
              have c10b0 : decide ((((rd_T41 l0_1 x3_1).f0).size : Int) < 1) = true := decide_eq_true c10
              have c10b1 : decide (((rd_T41 l0_1 x3_1).f0).size < 1) = true := decide_eq_true (by omega)
              clear c10
              (first | rw [c10b0] | rw [c10b2] | rw [c10b1] | (simp only [i64_w, i32_w]; rw [c10b0]) | skip)
              have H' := Aside0.mk H
              clear H
              have hnb11 := NB263_260.out
              have hnc11 := NB260_263.out
              have hcz12_0 : w7.cell? ⟨gb263, 0, none⟩ = some (.string (⟨#[]⟩ : ByteArray)) := (blk_cell BK263.out 0).trans rfl
              have hcz12_1 : w7.cell? ⟨gb263, 1, none⟩ = some (.string (⟨#[]⟩ : ByteArray)) := (blk_cell BK263.out 1).trans rfl
              have hcz12_2 : w7.cell? ⟨gb263, 2, none⟩ = some (.int .i64 0) := (blk_cell BK263.out 2).trans rfl
              have hfz12_0 := blk_frozen BK263.out 0
              have hfz12_1 := blk_frozen BK263.out 1
              have hfz12_2 := blk_frozen BK263.out 2
              go_wp2
              repeat (go_quiet (fail); try go_wp2)
              go_meet
              case rel => exact ⟨_, (true), (by first | rfl | (simp; done) | (simp [*]; done)), H', ⟨by have := HK1.out; first | omega | exact Nat.le_refl _⟩, ⟨by refine blk_far ?_ NB260_263.out _; refine blk_far ?_ NB260_263.out _; refine blk_far ?_ NB260_263.out _; exact BK260.out⟩, ⟨by refine blk_put (cs := #[.string ((rd_T41 l0_1 x3_1).f0), .string ((rd_T41 l0_1 x3_1).f1), .int .i64 0]) ?_ 2 _ rfl; refine blk_put (cs := #[.string ((rd_T41 l0_1 x3_1).f0), .string (⟨#[]⟩ : ByteArray), .int .i64 0]) ?_ 1 _ rfl; refine blk_put (cs := #[.string (⟨#[]⟩ : ByteArray), .string (⟨#[]⟩ : ByteArray), .int .i64 0]) ?_ 0 _ rfl; exact BK263.out⟩, ⟨by repeat (first | (with_reducible first | exact HB.out | apply below_alloc | apply pw_below_drewN | apply below_drew1 | refine below_set ?_ GE260.out | refine below_set ?_ GE263.out) | exact HB.out)⟩⟩
            · rw [if_neg c10] at H
              have c10b0 : decide ((((rd_T41 l0_1 x3_1).f0).size : Int) < 1) = false := decide_eq_false c10
              have c10b1 : decide (((rd_T41 l0_1 x3_1).f0).size < 1) = false := decide_eq_false (by omega)
              clear c10
              (first | rw [c10b0] | rw [c10b2] | rw [c10b1] | (simp only [i64_w, i32_w]; rw [c10b0]) | skip)
              by_cases c13 : (((rd_T41 l0_1 x3_1).f0).size : Int) > 130
              · rw [if_pos c13] at H
                have c13b0 : decide (130 < (((rd_T41 l0_1 x3_1).f0).size : Int)) = true := decide_eq_true c13
                have c13b1 : decide (130 < ((rd_T41 l0_1 x3_1).f0).size) = true := decide_eq_true (by omega)
                clear c13
                have H' := Aside0.mk H
                clear H
                have hnb14 := NB263_260.out
                have hnc14 := NB260_263.out
                have hcz15_0 : w7.cell? ⟨gb263, 0, none⟩ = some (.string (⟨#[]⟩ : ByteArray)) := (blk_cell BK263.out 0).trans rfl
                have hcz15_1 : w7.cell? ⟨gb263, 1, none⟩ = some (.string (⟨#[]⟩ : ByteArray)) := (blk_cell BK263.out 1).trans rfl
                have hcz15_2 : w7.cell? ⟨gb263, 2, none⟩ = some (.int .i64 0) := (blk_cell BK263.out 2).trans rfl
                have hfz15_0 := blk_frozen BK263.out 0
                have hfz15_1 := blk_frozen BK263.out 1
                have hfz15_2 := blk_frozen BK263.out 2
                go_wp2
                repeat (go_quiet (fail); try go_wp2)
                go_meet
                case rel => exact ⟨_, (true), (by first | rfl | (simp; done) | (simp [*]; done)), H', ⟨by have := HK1.out; first | omega | exact Nat.le_refl _⟩, ⟨by refine blk_far ?_ NB260_263.out _; refine blk_far ?_ NB260_263.out _; refine blk_far ?_ NB260_263.out _; exact BK260.out⟩, ⟨by refine blk_put (cs := #[.string ((rd_T41 l0_1 x3_1).f0), .string ((rd_T41 l0_1 x3_1).f1), .int .i64 0]) ?_ 2 _ rfl; refine blk_put (cs := #[.string ((rd_T41 l0_1 x3_1).f0), .string (⟨#[]⟩ : ByteArray), .int .i64 0]) ?_ 1 _ rfl; refine blk_put (cs := #[.string (⟨#[]⟩ : ByteArray), .string (⟨#[]⟩ : ByteArray), .int .i64 0]) ?_ 0 _ rfl; exact BK263.out⟩, ⟨by repeat (first | (with_reducible first | exact HB.out | apply below_alloc | apply pw_below_drewN | apply below_drew1 | refine below_set ?_ GE260.out | refine below_set ?_ GE263.out) | exact HB.out)⟩⟩
              · rw [if_neg c13] at H
                have c13b0 : decide (130 < (((rd_T41 l0_1 x3_1).f0).size : Int)) = false := decide_eq_false c13
                have c13b1 : decide (130 < ((rd_T41 l0_1 x3_1).f0).size) = false := decide_eq_false (by omega)
                clear c13
                by_cases c16 : x3_1 > 0
                · rw [if_pos c16] at H
                  have c16b0 : decide (0 < x3_1) = true := decide_eq_true c16
                  clear c16
                  obtain ⟨ji17, hji17⟩ : ∃ j_ : Int, (wrap64 (x3_1 - 1)) = j_ := ⟨_, rfl⟩
                  replace H : (if 0 ≤ (ji17) then (if (ji17) < (l0_1.length : Int) then (waybillref7_NodeOk.j1 k1 x3_1 (!(Op.bytesLess (((rd_T41 l0_1 (ji17)).f0).toList) (((rd_T41 l0_1 x3_1).f0).toList))) a0_0 l0_1 ((rd_T41 l0_1 x3_1).f0) ((rd_T41 l0_1 x3_1).f1) ((rd_T41 l0_1 x3_1).f2)) else (none)) else (none)) = some r := by first | (rw [hji17] at H; exact H) | (simp only [hji17] at H ⊢; exact H)
                  have hji17w : (IntKind.i64.wrap (x3_1 - 1)) = ji17 := (i64_w _).trans hji17
                  by_cases c18 : 0 ≤ (ji17)
                  · rw [if_pos c18] at H
                    have c18b0 : decide (0 ≤ (ji17)) = true := decide_eq_true c18
                    clear c18
                    by_cases c19 : (ji17) < (l0_1.length : Int)
                    · rw [if_pos c19] at H
                      have c19b0 : decide ((ji17) < (l0_1.length : Int)) = true := decide_eq_true c19
                      clear c19
                      have H' := Aside0.mk H
                      clear H
                      have hnb20 := NB263_260.out
                      have hnc20 := NB260_263.out
                      have hcz21_0 : w7.cell? ⟨gb263, 0, none⟩ = some (.string (⟨#[]⟩ : ByteArray)) := (blk_cell BK263.out 0).trans rfl
                      have hcz21_1 : w7.cell? ⟨gb263, 1, none⟩ = some (.string (⟨#[]⟩ : ByteArray)) := (blk_cell BK263.out 1).trans rfl
                      have hcz21_2 : w7.cell? ⟨gb263, 2, none⟩ = some (.int .i64 0) := (blk_cell BK263.out 2).trans rfl
                      have hfz21_0 := blk_frozen BK263.out 0
                      have hfz21_1 := blk_frozen BK263.out 1
                      have hfz21_2 := blk_frozen BK263.out 2
                      have hcz22_0 : w7.cell? ⟨gb260, 0, none⟩ = some (.bool a0_0) := (blk_cell BK260.out 0).trans rfl
                      have hcz22_1 : w7.cell? ⟨gb260, 1, none⟩ = some (.slice (some ad262) l0_1.length c0_1) := (blk_cell BK260.out 1).trans rfl
                      have hfz22_0 := blk_frozen BK260.out 0
                      have hfz22_1 := blk_frozen BK260.out 1
                      have p264 : 0 ≤ ((ji17) : Int) := of_decide_eq_true (by first | (with_reducible assumption) | assumption)
                      have q264 : (ji17) < (l0_1.length : Int) := of_decide_eq_true (by first | (with_reducible assumption) | assumption)
                      obtain ⟨ad264, e264, hx264_0, hx264_1, hx264_2⟩ := at_T41 HR0_1.out (ji17) p264 q264
                      obtain rfl : ad262 = ad264 := (by injection e264)
                      have hn264_0 : ad262.block ≠ gb263 := Nat.ne_of_lt (Nat.lt_of_lt_of_le (by have := World.block_lt_of_cell? _ _ hx264_0; first | rwa [add_block] at this | exact this) GW263.out)
                      have hn264_1 : ad262.block ≠ gb263 := Nat.ne_of_lt (Nat.lt_of_lt_of_le (by have := World.block_lt_of_cell? _ _ hx264_0; first | rwa [add_block] at this | exact this) GW263.out)
                      have hn264_2 : ad262.block ≠ gb263 := Nat.ne_of_lt (Nat.lt_of_lt_of_le (by have := World.block_lt_of_cell? _ _ hx264_0; first | rwa [add_block] at this | exact this) GW263.out)
                      replace hx264_0 := (HB.out.cell (World.block_lt_of_cell? w _ hx264_0)).trans hx264_0
                      replace hx264_1 := (HB.out.cell (World.block_lt_of_cell? w _ hx264_1)).trans hx264_1
                      replace hx264_2 := (HB.out.cell (World.block_lt_of_cell? w _ hx264_2)).trans hx264_2
                      replace hx264_0 := (cell_far (p := ⟨gb263, 0, none⟩) (by first | (rw [add_block]; exact hn264_0) | (show (Addr.add _ _).block ≠ _; rw [add_block]; exact hn264_0) | exact hn264_0) (.string ((rd_T41 l0_1 x3_1).f0))).trans hx264_0
                      replace hx264_1 := (cell_far (p := ⟨gb263, 0, none⟩) (by first | (rw [add_block]; exact hn264_0) | (show (Addr.add _ _).block ≠ _; rw [add_block]; exact hn264_0) | exact hn264_0) (.string ((rd_T41 l0_1 x3_1).f0))).trans hx264_1
                      replace hx264_2 := (cell_far (p := ⟨gb263, 0, none⟩) (by first | (rw [add_block]; exact hn264_0) | (show (Addr.add _ _).block ≠ _; rw [add_block]; exact hn264_0) | exact hn264_0) (.string ((rd_T41 l0_1 x3_1).f0))).trans hx264_2
                      replace hx264_0 := (cell_far (p := ⟨gb263, 1, none⟩) (by first | (rw [add_block]; exact hn264_1) | (show (Addr.add _ _).block ≠ _; rw [add_block]; exact hn264_1) | exact hn264_1) (.string ((rd_T41 l0_1 x3_1).f1))).trans hx264_0
                      replace hx264_1 := (cell_far (p := ⟨gb263, 1, none⟩) (by first | (rw [add_block]; exact hn264_1) | (show (Addr.add _ _).block ≠ _; rw [add_block]; exact hn264_1) | exact hn264_1) (.string ((rd_T41 l0_1 x3_1).f1))).trans hx264_1
                      replace hx264_2 := (cell_far (p := ⟨gb263, 1, none⟩) (by first | (rw [add_block]; exact hn264_1) | (show (Addr.add _ _).block ≠ _; rw [add_block]; exact hn264_1) | exact hn264_1) (.string ((rd_T41 l0_1 x3_1).f1))).trans hx264_2
                      replace hx264_0 := (cell_far (p := ⟨gb263, 2, none⟩) (by first | (rw [add_block]; exact hn264_2) | (show (Addr.add _ _).block ≠ _; rw [add_block]; exact hn264_2) | exact hn264_2) (.int .i64 ((rd_T41 l0_1 x3_1).f2))).trans hx264_0
                      replace hx264_1 := (cell_far (p := ⟨gb263, 2, none⟩) (by first | (rw [add_block]; exact hn264_2) | (show (Addr.add _ _).block ≠ _; rw [add_block]; exact hn264_2) | exact hn264_2) (.int .i64 ((rd_T41 l0_1 x3_1).f2))).trans hx264_1
                      replace hx264_2 := (cell_far (p := ⟨gb263, 2, none⟩) (by first | (rw [add_block]; exact hn264_2) | (show (Addr.add _ _).block ≠ _; rw [add_block]; exact hn264_2) | exact hn264_2) (.int .i64 ((rd_T41 l0_1 x3_1).f2))).trans hx264_2
                      (try have hy264_0 := fun (n_ : Nat) => (show (((((w7.drewN n_).setCell ⟨gb263, 0, none⟩ (.string ((rd_T41 l0_1 x3_1).f0))).setCell ⟨gb263, 1, none⟩ (.string ((rd_T41 l0_1 x3_1).f1))).setCell ⟨gb263, 2, none⟩ (.int .i64 ((rd_T41 l0_1 x3_1).f2)))).cell? _ = some _ from hx264_0))
                      (try have hy264_1 := fun (n_ : Nat) => (show (((((w7.drewN n_).setCell ⟨gb263, 0, none⟩ (.string ((rd_T41 l0_1 x3_1).f0))).setCell ⟨gb263, 1, none⟩ (.string ((rd_T41 l0_1 x3_1).f1))).setCell ⟨gb263, 2, none⟩ (.int .i64 ((rd_T41 l0_1 x3_1).f2)))).cell? _ = some _ from hx264_1))
                      (try have hy264_2 := fun (n_ : Nat) => (show (((((w7.drewN n_).setCell ⟨gb263, 0, none⟩ (.string ((rd_T41 l0_1 x3_1).f0))).setCell ⟨gb263, 1, none⟩ (.string ((rd_T41 l0_1 x3_1).f1))).setCell ⟨gb263, 2, none⟩ (.int .i64 ((rd_T41 l0_1 x3_1).f2)))).cell? _ = some _ from hx264_2))
                      clear hn264_0
                      clear hn264_1
                      clear hn264_2
                      replace p264 := eq_true p264
                      replace q264 := eq_true q264
                      go_wp2
                      repeat (go_quiet (fail); try go_wp2)
                      go_meet
                      case rel => exact ⟨_, (!(Op.bytesLess (((rd_T41 l0_1 (ji17)).f0).toList) (((rd_T41 l0_1 x3_1).f0).toList))), (by first | rfl | (simp; done) | (simp only [← hji17] <;> (first | rfl | simp)) | (simp [*]; done)), H', ⟨by have := HK1.out; first | omega | exact Nat.le_refl _⟩, ⟨by refine blk_far ?_ NB260_263.out _; refine blk_far ?_ NB260_263.out _; refine blk_far ?_ NB260_263.out _; exact BK260.out⟩, ⟨by refine blk_put (cs := #[.string ((rd_T41 l0_1 x3_1).f0), .string ((rd_T41 l0_1 x3_1).f1), .int .i64 0]) ?_ 2 _ rfl; refine blk_put (cs := #[.string ((rd_T41 l0_1 x3_1).f0), .string (⟨#[]⟩ : ByteArray), .int .i64 0]) ?_ 1 _ rfl; refine blk_put (cs := #[.string (⟨#[]⟩ : ByteArray), .string (⟨#[]⟩ : ByteArray), .int .i64 0]) ?_ 0 _ rfl; exact BK263.out⟩, ⟨by repeat (first | (with_reducible first | exact HB.out | apply below_alloc | apply pw_below_drewN | apply below_drew1 | refine below_set ?_ GE260.out | refine below_set ?_ GE263.out) | exact HB.out)⟩⟩
                    · rw [if_neg c19] at H
                      exact absurd H (by simp)
                  · rw [if_neg c18] at H
                    exact absurd H (by simp)
                · rw [if_neg c16] at H
                  have c16b0 : decide (0 < x3_1) = false := decide_eq_false c16
                  clear c16
                  have H' := Aside0.mk H
                  clear H
                  have hnb23 := NB263_260.out
                  have hnc23 := NB260_263.out
                  have hcz24_0 : w7.cell? ⟨gb263, 0, none⟩ = some (.string (⟨#[]⟩ : ByteArray)) := (blk_cell BK263.out 0).trans rfl
                  have hcz24_1 : w7.cell? ⟨gb263, 1, none⟩ = some (.string (⟨#[]⟩ : ByteArray)) := (blk_cell BK263.out 1).trans rfl
                  have hcz24_2 : w7.cell? ⟨gb263, 2, none⟩ = some (.int .i64 0) := (blk_cell BK263.out 2).trans rfl
                  have hfz24_0 := blk_frozen BK263.out 0
                  have hfz24_1 := blk_frozen BK263.out 1
                  have hfz24_2 := blk_frozen BK263.out 2
                  go_wp2
                  repeat (go_quiet (fail); try go_wp2)
                  go_meet
                  case rel => exact ⟨_, (false), (by first | rfl | (simp; done) | (simp [*]; done)), H', ⟨by have := HK1.out; first | omega | exact Nat.le_refl _⟩, ⟨by refine blk_far ?_ NB260_263.out _; refine blk_far ?_ NB260_263.out _; refine blk_far ?_ NB260_263.out _; exact BK260.out⟩, ⟨by refine blk_put (cs := #[.string ((rd_T41 l0_1 x3_1).f0), .string ((rd_T41 l0_1 x3_1).f1), .int .i64 0]) ?_ 2 _ rfl; refine blk_put (cs := #[.string ((rd_T41 l0_1 x3_1).f0), .string (⟨#[]⟩ : ByteArray), .int .i64 0]) ?_ 1 _ rfl; refine blk_put (cs := #[.string (⟨#[]⟩ : ByteArray), .string (⟨#[]⟩ : ByteArray), .int .i64 0]) ?_ 0 _ rfl; exact BK263.out⟩, ⟨by repeat (first | (with_reducible first | exact HB.out | apply below_alloc | apply pw_below_drewN | apply below_drew1 | refine below_set ?_ GE260.out | refine below_set ?_ GE263.out) | exact HB.out)⟩⟩
          case rest =>
            clear HC5
            try clear c1
            try clear c2
            try clear p2
            try clear q2
            try clear hx2
            try clear c3
            try clear c3b0
            try clear c4
            try clear c4b0
            try clear p6
            try clear c8
            try clear c10
            try clear c10b0
            try clear c10b1
            try clear c11
            try clear c13
            try clear c13b0
            try clear c13b1
            try clear c14
            try clear c16
            try clear c16b0
            try clear c18
            try clear c18b0
            try clear c19
            try clear c19b0
            try clear c20
            try clear c23
            try clear hcz12_0
            try clear hcz12_1
            try clear hcz12_2
            try clear hcz15_0
            try clear hcz15_1
            try clear hcz15_2
            try clear hcz21_0
            try clear hcz21_1
            try clear hcz21_2
            try clear hcz22_0
            try clear hcz22_1
            try clear hcz24_0
            try clear hcz24_1
            try clear hcz24_2
            try clear hcz6_0
            try clear hcz6_1
            try clear hcz9_0
            try clear hcz9_1
            try clear hcz9_2
            try clear hfz12_0
            try clear hfz12_1
            try clear hfz12_2
            try clear hfz15_0
            try clear hfz15_1
            try clear hfz15_2
            try clear hfz21_0
            try clear hfz21_1
            try clear hfz21_2
            try clear hfz22_0
            try clear hfz22_1
            try clear hfz24_0
            try clear hfz24_1
            try clear hfz24_2
            try clear hfz6_0
            try clear hfz6_1
            try clear hfz9_0
            try clear hfz9_1
            try clear hfz9_2
            try clear hx262_0
            try clear hx262_1
            try clear hx262_2
            try clear hx264_0
            try clear hx264_1
            try clear hx264_2
            try clear p2
            try clear p262
            try clear p264
            try clear q262
            try clear q264
            obtain ⟨kq, x42_4, rfl, HA, HJ4, BK260, BK263, HB⟩ := hcut
            cases kq with
            | zero => exact absurd HA.out (by simp [waybillref7_NodeOk.j1])
            | succ kj4 =>
              have H := HA.out
              clear HA
              simp only [waybillref7_NodeOk.j1] at H
              by_cases c25 : x42_4 = true
              · subst c25
                have H1 : (some false) = some r := by rw [if_pos rfl] at H; exact H
                clear H
                have H := H1
                clear H1
                obtain rfl := Option.some.inj H
                go_wp2
                repeat (go_quiet (fail); try go_wp2)
                all_goals first | (go_ret; exact ⟨by first | rfl | (simp [errW_none, errW_some]; done) | (simp [errW_none, errW_some]; rfl) | (simp [*, errW_none, errW_some]; done) | (simp [*, errW_none, errW_some]; rfl), by repeat (first | (with_reducible first | exact HB.out | apply below_alloc | apply pw_below_drewN | apply below_drew1 | refine below_set ?_ GE260.out | refine below_set ?_ GE263.out) | exact HB.out)⟩) | (exfalso; simp_all; done)
              · replace c25 := Bool.eq_false_iff.mpr c25
                subst c25
                have H1 : (if a0_0 = true then (if (((rd_T41 l0_1 x3_1).f1).size : Int) > 20 then (some false) else (if ((rd_T41 l0_1 x3_1).f2) = 0 then (waybillref7_NodeOk.l0 kj4 (wrap64 (x3_1 + 1)) a0_0 l0_1) else (some false))) else (if ((rd_T41 l0_1 x3_1).f1).toList = ([] : List UInt8) then (if ((rd_T41 l0_1 x3_1).f2) < 2 then (some false) else (if ((rd_T41 l0_1 x3_1).f2) > 4294967295 then (some false) else (waybillref7_NodeOk.l0 kj4 (wrap64 (x3_1 + 1)) a0_0 l0_1))) else (some false))) = some r := by rw [if_neg (show ¬ (false = true) by decide)] at H; exact H
                clear H
                have H := H1
                clear H1
                by_cases c26 : a0_0 = true
                · subst c26
                  have H1 : (if (((rd_T41 l0_1 x3_1).f1).size : Int) > 20 then (some false) else (if ((rd_T41 l0_1 x3_1).f2) = 0 then (waybillref7_NodeOk.l0 kj4 (wrap64 (x3_1 + 1)) true l0_1) else (some false))) = some r := by rw [if_pos rfl] at H; exact H
                  clear H
                  have H := H1
                  clear H1
                  by_cases c27 : (((rd_T41 l0_1 x3_1).f1).size : Int) > 20
                  · rw [if_pos c27] at H
                    have c27b0 : decide (20 < (((rd_T41 l0_1 x3_1).f1).size : Int)) = true := decide_eq_true c27
                    have c27b1 : decide (20 < ((rd_T41 l0_1 x3_1).f1).size) = true := decide_eq_true (by omega)
                    clear c27
                    obtain rfl := Option.some.inj H
                    have hnb28 := NB260_263.out
                    have hnc28 := NB263_260.out
                    have hcz29_0 : wc.cell? ⟨gb260, 0, none⟩ = some (.bool true) := (blk_cell BK260.out 0).trans rfl
                    have hcz29_1 : wc.cell? ⟨gb260, 1, none⟩ = some (.slice (some ad262) l0_1.length c0_1) := (blk_cell BK260.out 1).trans rfl
                    have hfz29_0 := blk_frozen BK260.out 0
                    have hfz29_1 := blk_frozen BK260.out 1
                    have hcz30_0 : wc.cell? ⟨gb263, 0, none⟩ = some (.string ((rd_T41 l0_1 x3_1).f0)) := (blk_cell BK263.out 0).trans rfl
                    have hcz30_1 : wc.cell? ⟨gb263, 1, none⟩ = some (.string ((rd_T41 l0_1 x3_1).f1)) := (blk_cell BK263.out 1).trans rfl
                    have hcz30_2 : wc.cell? ⟨gb263, 2, none⟩ = some (.int .i64 ((rd_T41 l0_1 x3_1).f2)) := (blk_cell BK263.out 2).trans rfl
                    have hfz30_0 := blk_frozen BK263.out 0
                    have hfz30_1 := blk_frozen BK263.out 1
                    have hfz30_2 := blk_frozen BK263.out 2
                    go_wp2
                    repeat (go_quiet (fail); try go_wp2)
                    all_goals first | (go_ret; exact ⟨by first | rfl | (simp [errW_none, errW_some]; done) | (simp [errW_none, errW_some]; rfl) | (simp [*, errW_none, errW_some]; done) | (simp [*, errW_none, errW_some]; rfl), by repeat (first | (with_reducible first | exact HB.out | apply below_alloc | apply pw_below_drewN | apply below_drew1 | refine below_set ?_ GE260.out | refine below_set ?_ GE263.out) | exact HB.out)⟩) | (exfalso; simp_all; done)
                  · rw [if_neg c27] at H
                    have c27b0 : decide (20 < (((rd_T41 l0_1 x3_1).f1).size : Int)) = false := decide_eq_false c27
                    have c27b1 : decide (20 < ((rd_T41 l0_1 x3_1).f1).size) = false := decide_eq_false (by omega)
                    clear c27
                    by_cases c31 : ((rd_T41 l0_1 x3_1).f2) = 0
                    · rw [if_pos c31] at H
                      have c31b0 : (((rd_T41 l0_1 x3_1).f2) == 0) = true := beq_iff_eq.mpr c31
                      have c31b1 : (((rd_T41 l0_1 x3_1).f2) != 0) = false := bne_eq_false_iff_eq.mpr c31
                      clear c31
                      have H' := Aside0.mk H
                      clear H
                      have hnb32 := NB260_263.out
                      have hnc32 := NB263_260.out
                      have hcz33_0 : wc.cell? ⟨gb260, 0, none⟩ = some (.bool true) := (blk_cell BK260.out 0).trans rfl
                      have hcz33_1 : wc.cell? ⟨gb260, 1, none⟩ = some (.slice (some ad262) l0_1.length c0_1) := (blk_cell BK260.out 1).trans rfl
                      have hfz33_0 := blk_frozen BK260.out 0
                      have hfz33_1 := blk_frozen BK260.out 1
                      have hcz34_0 : wc.cell? ⟨gb263, 0, none⟩ = some (.string ((rd_T41 l0_1 x3_1).f0)) := (blk_cell BK263.out 0).trans rfl
                      have hcz34_1 : wc.cell? ⟨gb263, 1, none⟩ = some (.string ((rd_T41 l0_1 x3_1).f1)) := (blk_cell BK263.out 1).trans rfl
                      have hcz34_2 : wc.cell? ⟨gb263, 2, none⟩ = some (.int .i64 ((rd_T41 l0_1 x3_1).f2)) := (blk_cell BK263.out 2).trans rfl
                      have hfz34_0 := blk_frozen BK263.out 0
                      have hfz34_1 := blk_frozen BK263.out 1
                      have hfz34_2 := blk_frozen BK263.out 2
                      go_wp2
                      repeat (go_quiet (fail); try go_wp2)
                      go_roundg kj4
                      case measure => have := HK1.out; have := HJ4.out; omega
                      case rel => exact ⟨(wrap64 (x3_1 + 1)), (by first | rfl | (simp; done) | (simp [*]; done)), H', ⟨by have := HK1.out; have := HJ4.out; omega⟩, ⟨by exact BK260.out⟩, ⟨by repeat (first | (with_reducible first | exact HB.out | apply below_alloc | apply pw_below_drewN | apply below_drew1 | refine below_set ?_ GE260.out | refine below_set ?_ GE263.out) | exact HB.out)⟩⟩
                    · rw [if_neg c31] at H
                      have c31b0 : (((rd_T41 l0_1 x3_1).f2) == 0) = false := beq_eq_false_iff_ne.mpr c31
                      have c31b1 : (((rd_T41 l0_1 x3_1).f2) != 0) = true := bne_iff_ne.mpr c31
                      obtain rfl := Option.some.inj H
                      have hnb35 := NB260_263.out
                      have hnc35 := NB263_260.out
                      have hcz36_0 : wc.cell? ⟨gb260, 0, none⟩ = some (.bool true) := (blk_cell BK260.out 0).trans rfl
                      have hcz36_1 : wc.cell? ⟨gb260, 1, none⟩ = some (.slice (some ad262) l0_1.length c0_1) := (blk_cell BK260.out 1).trans rfl
                      have hfz36_0 := blk_frozen BK260.out 0
                      have hfz36_1 := blk_frozen BK260.out 1
                      have hcz37_0 : wc.cell? ⟨gb263, 0, none⟩ = some (.string ((rd_T41 l0_1 x3_1).f0)) := (blk_cell BK263.out 0).trans rfl
                      have hcz37_1 : wc.cell? ⟨gb263, 1, none⟩ = some (.string ((rd_T41 l0_1 x3_1).f1)) := (blk_cell BK263.out 1).trans rfl
                      have hcz37_2 : wc.cell? ⟨gb263, 2, none⟩ = some (.int .i64 ((rd_T41 l0_1 x3_1).f2)) := (blk_cell BK263.out 2).trans rfl
                      have hfz37_0 := blk_frozen BK263.out 0
                      have hfz37_1 := blk_frozen BK263.out 1
                      have hfz37_2 := blk_frozen BK263.out 2
                      go_wp2
                      repeat (go_quiet (fail); try go_wp2)
                      all_goals first | (go_ret; exact ⟨by first | rfl | (simp [errW_none, errW_some]; done) | (simp [errW_none, errW_some]; rfl) | (simp [*, errW_none, errW_some]; done) | (simp [*, errW_none, errW_some]; rfl), by repeat (first | (with_reducible first | exact HB.out | apply below_alloc | apply pw_below_drewN | apply below_drew1 | refine below_set ?_ GE260.out | refine below_set ?_ GE263.out) | exact HB.out)⟩) | (exfalso; simp_all; done)
                · replace c26 := Bool.eq_false_iff.mpr c26
                  subst c26
                  have H1 : (if ((rd_T41 l0_1 x3_1).f1).toList = ([] : List UInt8) then (if ((rd_T41 l0_1 x3_1).f2) < 2 then (some false) else (if ((rd_T41 l0_1 x3_1).f2) > 4294967295 then (some false) else (waybillref7_NodeOk.l0 kj4 (wrap64 (x3_1 + 1)) false l0_1))) else (some false)) = some r := by rw [if_neg (show ¬ (false = true) by decide)] at H; exact H
                  clear H
                  have H := H1
                  clear H1
                  by_cases c38 : ((rd_T41 l0_1 x3_1).f1).toList = ([] : List UInt8)
                  · rw [if_pos c38] at H
                    have c38b0 : (((rd_T41 l0_1 x3_1).f1).toList == ([] : List UInt8)) = true := beq_iff_eq.mpr c38
                    have c38b1 : (((rd_T41 l0_1 x3_1).f1).toList != ([] : List UInt8)) = false := bne_eq_false_iff_eq.mpr c38
                    (try (have c38b2 : ((rd_T41 l0_1 x3_1).f1).toList.isEmpty = true := by simpa using c38))
                    (try (have c38b3 : (!((rd_T41 l0_1 x3_1).f1).toList.isEmpty) = false := by simpa using c38))
                    clear c38
                    by_cases c39 : ((rd_T41 l0_1 x3_1).f2) < 2
                    · rw [if_pos c39] at H
                      have c39b0 : decide (((rd_T41 l0_1 x3_1).f2) < 2) = true := decide_eq_true c39
                      clear c39
                      obtain rfl := Option.some.inj H
                      have hnb40 := NB260_263.out
                      have hnc40 := NB263_260.out
                      have hcz41_0 : wc.cell? ⟨gb260, 0, none⟩ = some (.bool false) := (blk_cell BK260.out 0).trans rfl
                      have hcz41_1 : wc.cell? ⟨gb260, 1, none⟩ = some (.slice (some ad262) l0_1.length c0_1) := (blk_cell BK260.out 1).trans rfl
                      have hfz41_0 := blk_frozen BK260.out 0
                      have hfz41_1 := blk_frozen BK260.out 1
                      have hcz42_0 : wc.cell? ⟨gb263, 0, none⟩ = some (.string ((rd_T41 l0_1 x3_1).f0)) := (blk_cell BK263.out 0).trans rfl
                      have hcz42_1 : wc.cell? ⟨gb263, 1, none⟩ = some (.string ((rd_T41 l0_1 x3_1).f1)) := (blk_cell BK263.out 1).trans rfl
                      have hcz42_2 : wc.cell? ⟨gb263, 2, none⟩ = some (.int .i64 ((rd_T41 l0_1 x3_1).f2)) := (blk_cell BK263.out 2).trans rfl
                      have hfz42_0 := blk_frozen BK263.out 0
                      have hfz42_1 := blk_frozen BK263.out 1
                      have hfz42_2 := blk_frozen BK263.out 2
                      go_wp2
                      repeat (go_quiet (fail); try go_wp2)
                      all_goals first | (go_ret; exact ⟨by first | rfl | (simp [errW_none, errW_some]; done) | (simp [errW_none, errW_some]; rfl) | (simp [*, errW_none, errW_some]; done) | (simp [*, errW_none, errW_some]; rfl), by repeat (first | (with_reducible first | exact HB.out | apply below_alloc | apply pw_below_drewN | apply below_drew1 | refine below_set ?_ GE260.out | refine below_set ?_ GE263.out) | exact HB.out)⟩) | (exfalso; simp_all; done)
                    · rw [if_neg c39] at H
                      have c39b0 : decide (((rd_T41 l0_1 x3_1).f2) < 2) = false := decide_eq_false c39
                      clear c39
                      by_cases c43 : ((rd_T41 l0_1 x3_1).f2) > 4294967295
                      · rw [if_pos c43] at H
                        have c43b0 : decide (4294967295 < ((rd_T41 l0_1 x3_1).f2)) = true := decide_eq_true c43
                        clear c43
                        obtain rfl := Option.some.inj H
                        have hnb44 := NB260_263.out
                        have hnc44 := NB263_260.out
                        have hcz45_0 : wc.cell? ⟨gb260, 0, none⟩ = some (.bool false) := (blk_cell BK260.out 0).trans rfl
                        have hcz45_1 : wc.cell? ⟨gb260, 1, none⟩ = some (.slice (some ad262) l0_1.length c0_1) := (blk_cell BK260.out 1).trans rfl
                        have hfz45_0 := blk_frozen BK260.out 0
                        have hfz45_1 := blk_frozen BK260.out 1
                        have hcz46_0 : wc.cell? ⟨gb263, 0, none⟩ = some (.string ((rd_T41 l0_1 x3_1).f0)) := (blk_cell BK263.out 0).trans rfl
                        have hcz46_1 : wc.cell? ⟨gb263, 1, none⟩ = some (.string ((rd_T41 l0_1 x3_1).f1)) := (blk_cell BK263.out 1).trans rfl
                        have hcz46_2 : wc.cell? ⟨gb263, 2, none⟩ = some (.int .i64 ((rd_T41 l0_1 x3_1).f2)) := (blk_cell BK263.out 2).trans rfl
                        have hfz46_0 := blk_frozen BK263.out 0
                        have hfz46_1 := blk_frozen BK263.out 1
                        have hfz46_2 := blk_frozen BK263.out 2
                        go_wp2
                        repeat (go_quiet (fail); try go_wp2)
                        all_goals first | (go_ret; exact ⟨by first | rfl | (simp [errW_none, errW_some]; done) | (simp [errW_none, errW_some]; rfl) | (simp [*, errW_none, errW_some]; done) | (simp [*, errW_none, errW_some]; rfl), by repeat (first | (with_reducible first | exact HB.out | apply below_alloc | apply pw_below_drewN | apply below_drew1 | refine below_set ?_ GE260.out | refine below_set ?_ GE263.out) | exact HB.out)⟩) | (exfalso; simp_all; done)
                      · rw [if_neg c43] at H
                        have c43b0 : decide (4294967295 < ((rd_T41 l0_1 x3_1).f2)) = false := decide_eq_false c43
                        clear c43
                        have H' := Aside0.mk H
                        clear H
                        have hnb47 := NB260_263.out
                        have hnc47 := NB263_260.out
                        have hcz48_0 : wc.cell? ⟨gb260, 0, none⟩ = some (.bool false) := (blk_cell BK260.out 0).trans rfl
                        have hcz48_1 : wc.cell? ⟨gb260, 1, none⟩ = some (.slice (some ad262) l0_1.length c0_1) := (blk_cell BK260.out 1).trans rfl
                        have hfz48_0 := blk_frozen BK260.out 0
                        have hfz48_1 := blk_frozen BK260.out 1
                        have hcz49_0 : wc.cell? ⟨gb263, 0, none⟩ = some (.string ((rd_T41 l0_1 x3_1).f0)) := (blk_cell BK263.out 0).trans rfl
                        have hcz49_1 : wc.cell? ⟨gb263, 1, none⟩ = some (.string ((rd_T41 l0_1 x3_1).f1)) := (blk_cell BK263.out 1).trans rfl
                        have hcz49_2 : wc.cell? ⟨gb263, 2, none⟩ = some (.int .i64 ((rd_T41 l0_1 x3_1).f2)) := (blk_cell BK263.out 2).trans rfl
                        have hfz49_0 := blk_frozen BK263.out 0
                        have hfz49_1 := blk_frozen BK263.out 1
                        have hfz49_2 := blk_frozen BK263.out 2
                        go_wp2
                        repeat (go_quiet (fail); try go_wp2)
                        go_roundg kj4
                        case measure => have := HK1.out; have := HJ4.out; omega
                        case rel => exact ⟨(wrap64 (x3_1 + 1)), (by first | rfl | (simp; done) | (simp [*]; done)), H', ⟨by have := HK1.out; have := HJ4.out; omega⟩, ⟨by exact BK260.out⟩, ⟨by repeat (first | (with_reducible first | exact HB.out | apply below_alloc | apply pw_below_drewN | apply below_drew1 | refine below_set ?_ GE260.out | refine below_set ?_ GE263.out) | exact HB.out)⟩⟩
                  · rw [if_neg c38] at H
                    have c38b0 : (((rd_T41 l0_1 x3_1).f1).toList == ([] : List UInt8)) = false := beq_eq_false_iff_ne.mpr c38
                    have c38b1 : (((rd_T41 l0_1 x3_1).f1).toList != ([] : List UInt8)) = true := bne_iff_ne.mpr c38
                    (try (have c38b2 : ((rd_T41 l0_1 x3_1).f1).toList.isEmpty = false := by simpa using c38))
                    (try (have c38b3 : (!((rd_T41 l0_1 x3_1).f1).toList.isEmpty) = true := by simpa using c38))
                    obtain rfl := Option.some.inj H
                    have hnb50 := NB260_263.out
                    have hnc50 := NB263_260.out
                    have hcz51_0 : wc.cell? ⟨gb260, 0, none⟩ = some (.bool false) := (blk_cell BK260.out 0).trans rfl
                    have hcz51_1 : wc.cell? ⟨gb260, 1, none⟩ = some (.slice (some ad262) l0_1.length c0_1) := (blk_cell BK260.out 1).trans rfl
                    have hfz51_0 := blk_frozen BK260.out 0
                    have hfz51_1 := blk_frozen BK260.out 1
                    have hcz52_0 : wc.cell? ⟨gb263, 0, none⟩ = some (.string ((rd_T41 l0_1 x3_1).f0)) := (blk_cell BK263.out 0).trans rfl
                    have hcz52_1 : wc.cell? ⟨gb263, 1, none⟩ = some (.string ((rd_T41 l0_1 x3_1).f1)) := (blk_cell BK263.out 1).trans rfl
                    have hcz52_2 : wc.cell? ⟨gb263, 2, none⟩ = some (.int .i64 ((rd_T41 l0_1 x3_1).f2)) := (blk_cell BK263.out 2).trans rfl
                    have hfz52_0 := blk_frozen BK263.out 0
                    have hfz52_1 := blk_frozen BK263.out 1
                    have hfz52_2 := blk_frozen BK263.out 2
                    go_wp2
                    repeat (go_quiet (fail); try go_wp2)
                    all_goals first | (go_ret; exact ⟨by first | rfl | (simp [errW_none, errW_some]; done) | (simp [errW_none, errW_some]; rfl) | (simp [*, errW_none, errW_some]; done) | (simp [*, errW_none, errW_some]; rfl), by repeat (first | (with_reducible first | exact HB.out | apply below_alloc | apply pw_below_drewN | apply below_drew1 | refine below_set ?_ GE260.out | refine below_set ?_ GE263.out) | exact HB.out)⟩) | (exfalso; simp_all; done)
        · rw [if_neg c4] at H
          exact absurd H (by simp)
      · rw [if_neg c3] at H
        have c3b0 : decide (x3_1 < (l0_1.length : Int)) = false := decide_eq_false c3
        clear c3
        replace H := Option.bind_eq_some_iff.mp H
        obtain ⟨t261, A530, H⟩ := H
        replace H : (if t261 ≤ 512 then (if a0_0 = true then (some true) else (some (decide ((l0_1.length : Int) > 0)))) else (some false)) = some r := H
        have A53 := Aside0.mk A530
        clear A530
        by_cases c54 : t261 ≤ 512
        · rw [if_pos c54] at H
          have c54b0 : decide (t261 ≤ 512) = true := decide_eq_true c54
          clear c54
          by_cases c55 : a0_0 = true
          · subst c55
            have H1 : (some true) = some r := by rw [if_pos rfl] at H; exact H
            clear H
            have H := H1
            clear H1
            obtain rfl := Option.some.inj H
            have hcz56_0 : wr.cell? ⟨gb260, 0, none⟩ = some (.bool true) := (blk_cell BK260.out 0).trans rfl
            have hcz56_1 : wr.cell? ⟨gb260, 1, none⟩ = some (.slice A0_1 l0_1.length c0_1) := (blk_cell BK260.out 1).trans rfl
            have hfz56_0 := blk_frozen BK260.out 0
            have hfz56_1 := blk_frozen BK260.out 1
            go_wp2_with (first | (go_at_call 25; (with_reducible refine (waybillref7_NodeSize.calls k1 true _ _ l0_1 t261 _ ?side1 ?side2 A53.out).mono ?_); (case side1 => repeat (first | exact (Kd.C_below HR0_1.out HB.out) | (with_reducible refine Kd.C_alloc ?_ _) | (with_reducible refine Kd.C_drewN ?_ _) | (with_reducible refine Kd.C_drew ?_))); (case side2 => exact HC0_1.out); rintro e w57 ⟨rfl, hb⟩; have n0_ := Aside0.mk (blk_below (g := gb260) (o := .cells #[.bool true, .slice A0_1 l0_1.length c0_1] 44 (0, 0)) (by exact BK260.out) hb); have n1_ := Aside0.mk (below_step (by repeat (first | (with_reducible first | exact HB.out | apply below_alloc | apply pw_below_drewN | apply below_drew1 | refine below_set ?_ GE260.out) | exact HB.out)) hb); clear BK260; clear HB; have BK260 := n0_; have HB := n1_; clear n0_ n1_; (try clear hb); (try clear hb2); (try clear hk); (try clear hi); (try clear hge); have hcz58_0 : w57.cell? ⟨gb260, 0, none⟩ = some (.bool true) := (blk_cell BK260.out 0).trans rfl; have hcz58_1 : w57.cell? ⟨gb260, 1, none⟩ = some (.slice A0_1 l0_1.length c0_1) := (blk_cell BK260.out 1).trans rfl; have hfz58_0 := blk_frozen BK260.out 0; have hfz58_1 := blk_frozen BK260.out 1))
            repeat (go_quiet (first | (go_at_call 25; (with_reducible refine (waybillref7_NodeSize.calls k1 true _ _ l0_1 t261 _ ?side1 ?side2 A53.out).mono ?_); (case side1 => repeat (first | exact (Kd.C_below HR0_1.out HB.out) | (with_reducible refine Kd.C_alloc ?_ _) | (with_reducible refine Kd.C_drewN ?_ _) | (with_reducible refine Kd.C_drew ?_))); (case side2 => exact HC0_1.out); rintro e w57 ⟨rfl, hb⟩; have n0_ := Aside0.mk (blk_below (g := gb260) (o := .cells #[.bool true, .slice A0_1 l0_1.length c0_1] 44 (0, 0)) (by exact BK260.out) hb); have n1_ := Aside0.mk (below_step (by repeat (first | (with_reducible first | exact HB.out | apply below_alloc | apply pw_below_drewN | apply below_drew1 | refine below_set ?_ GE260.out) | exact HB.out)) hb); clear BK260; clear HB; have BK260 := n0_; have HB := n1_; clear n0_ n1_; (try clear hb); (try clear hb2); (try clear hk); (try clear hi); (try clear hge); have hcz58_0 : w57.cell? ⟨gb260, 0, none⟩ = some (.bool true) := (blk_cell BK260.out 0).trans rfl; have hcz58_1 : w57.cell? ⟨gb260, 1, none⟩ = some (.slice A0_1 l0_1.length c0_1) := (blk_cell BK260.out 1).trans rfl; have hfz58_0 := blk_frozen BK260.out 0; have hfz58_1 := blk_frozen BK260.out 1)); try go_wp2_with (first | (go_at_call 25; (with_reducible refine (waybillref7_NodeSize.calls k1 true _ _ l0_1 t261 _ ?side1 ?side2 A53.out).mono ?_); (case side1 => repeat (first | exact (Kd.C_below HR0_1.out HB.out) | (with_reducible refine Kd.C_alloc ?_ _) | (with_reducible refine Kd.C_drewN ?_ _) | (with_reducible refine Kd.C_drew ?_))); (case side2 => exact HC0_1.out); rintro e w57 ⟨rfl, hb⟩; have n0_ := Aside0.mk (blk_below (g := gb260) (o := .cells #[.bool true, .slice A0_1 l0_1.length c0_1] 44 (0, 0)) (by exact BK260.out) hb); have n1_ := Aside0.mk (below_step (by repeat (first | (with_reducible first | exact HB.out | apply below_alloc | apply pw_below_drewN | apply below_drew1 | refine below_set ?_ GE260.out) | exact HB.out)) hb); clear BK260; clear HB; have BK260 := n0_; have HB := n1_; clear n0_ n1_; (try clear hb); (try clear hb2); (try clear hk); (try clear hi); (try clear hge); have hcz58_0 : w57.cell? ⟨gb260, 0, none⟩ = some (.bool true) := (blk_cell BK260.out 0).trans rfl; have hcz58_1 : w57.cell? ⟨gb260, 1, none⟩ = some (.slice A0_1 l0_1.length c0_1) := (blk_cell BK260.out 1).trans rfl; have hfz58_0 := blk_frozen BK260.out 0; have hfz58_1 := blk_frozen BK260.out 1)))
            all_goals first | (go_ret; exact ⟨by first | rfl | (simp [errW_none, errW_some]; done) | (simp [errW_none, errW_some]; rfl) | (simp [*, errW_none, errW_some]; done) | (simp [*, errW_none, errW_some]; rfl), by repeat (first | (with_reducible first | exact HB.out | apply below_alloc | apply pw_below_drewN | apply below_drew1 | refine below_set ?_ GE260.out) | exact HB.out)⟩) | (exfalso; simp_all; done)
          · replace c55 := Bool.eq_false_iff.mpr c55
            subst c55
            have H1 : (some (decide ((l0_1.length : Int) > 0))) = some r := by rw [if_neg (show ¬ (false = true) by decide)] at H; exact H
            clear H
            have H := H1
            clear H1
            obtain rfl := Option.some.inj H
            have hcz59_0 : wr.cell? ⟨gb260, 0, none⟩ = some (.bool false) := (blk_cell BK260.out 0).trans rfl
            have hcz59_1 : wr.cell? ⟨gb260, 1, none⟩ = some (.slice A0_1 l0_1.length c0_1) := (blk_cell BK260.out 1).trans rfl
            have hfz59_0 := blk_frozen BK260.out 0
            have hfz59_1 := blk_frozen BK260.out 1
            go_wp2_with (first | (go_at_call 25; (with_reducible refine (waybillref7_NodeSize.calls k1 false _ _ l0_1 t261 _ ?side1 ?side2 A53.out).mono ?_); (case side1 => repeat (first | exact (Kd.C_below HR0_1.out HB.out) | (with_reducible refine Kd.C_alloc ?_ _) | (with_reducible refine Kd.C_drewN ?_ _) | (with_reducible refine Kd.C_drew ?_))); (case side2 => exact HC0_1.out); rintro e w60 ⟨rfl, hb⟩; have n0_ := Aside0.mk (blk_below (g := gb260) (o := .cells #[.bool false, .slice A0_1 l0_1.length c0_1] 44 (0, 0)) (by exact BK260.out) hb); have n1_ := Aside0.mk (below_step (by repeat (first | (with_reducible first | exact HB.out | apply below_alloc | apply pw_below_drewN | apply below_drew1 | refine below_set ?_ GE260.out) | exact HB.out)) hb); clear BK260; clear HB; have BK260 := n0_; have HB := n1_; clear n0_ n1_; (try clear hb); (try clear hb2); (try clear hk); (try clear hi); (try clear hge); have hcz61_0 : w60.cell? ⟨gb260, 0, none⟩ = some (.bool false) := (blk_cell BK260.out 0).trans rfl; have hcz61_1 : w60.cell? ⟨gb260, 1, none⟩ = some (.slice A0_1 l0_1.length c0_1) := (blk_cell BK260.out 1).trans rfl; have hfz61_0 := blk_frozen BK260.out 0; have hfz61_1 := blk_frozen BK260.out 1))
            repeat (go_quiet (first | (go_at_call 25; (with_reducible refine (waybillref7_NodeSize.calls k1 false _ _ l0_1 t261 _ ?side1 ?side2 A53.out).mono ?_); (case side1 => repeat (first | exact (Kd.C_below HR0_1.out HB.out) | (with_reducible refine Kd.C_alloc ?_ _) | (with_reducible refine Kd.C_drewN ?_ _) | (with_reducible refine Kd.C_drew ?_))); (case side2 => exact HC0_1.out); rintro e w60 ⟨rfl, hb⟩; have n0_ := Aside0.mk (blk_below (g := gb260) (o := .cells #[.bool false, .slice A0_1 l0_1.length c0_1] 44 (0, 0)) (by exact BK260.out) hb); have n1_ := Aside0.mk (below_step (by repeat (first | (with_reducible first | exact HB.out | apply below_alloc | apply pw_below_drewN | apply below_drew1 | refine below_set ?_ GE260.out) | exact HB.out)) hb); clear BK260; clear HB; have BK260 := n0_; have HB := n1_; clear n0_ n1_; (try clear hb); (try clear hb2); (try clear hk); (try clear hi); (try clear hge); have hcz61_0 : w60.cell? ⟨gb260, 0, none⟩ = some (.bool false) := (blk_cell BK260.out 0).trans rfl; have hcz61_1 : w60.cell? ⟨gb260, 1, none⟩ = some (.slice A0_1 l0_1.length c0_1) := (blk_cell BK260.out 1).trans rfl; have hfz61_0 := blk_frozen BK260.out 0; have hfz61_1 := blk_frozen BK260.out 1)); try go_wp2_with (first | (go_at_call 25; (with_reducible refine (waybillref7_NodeSize.calls k1 false _ _ l0_1 t261 _ ?side1 ?side2 A53.out).mono ?_); (case side1 => repeat (first | exact (Kd.C_below HR0_1.out HB.out) | (with_reducible refine Kd.C_alloc ?_ _) | (with_reducible refine Kd.C_drewN ?_ _) | (with_reducible refine Kd.C_drew ?_))); (case side2 => exact HC0_1.out); rintro e w60 ⟨rfl, hb⟩; have n0_ := Aside0.mk (blk_below (g := gb260) (o := .cells #[.bool false, .slice A0_1 l0_1.length c0_1] 44 (0, 0)) (by exact BK260.out) hb); have n1_ := Aside0.mk (below_step (by repeat (first | (with_reducible first | exact HB.out | apply below_alloc | apply pw_below_drewN | apply below_drew1 | refine below_set ?_ GE260.out) | exact HB.out)) hb); clear BK260; clear HB; have BK260 := n0_; have HB := n1_; clear n0_ n1_; (try clear hb); (try clear hb2); (try clear hk); (try clear hi); (try clear hge); have hcz61_0 : w60.cell? ⟨gb260, 0, none⟩ = some (.bool false) := (blk_cell BK260.out 0).trans rfl; have hcz61_1 : w60.cell? ⟨gb260, 1, none⟩ = some (.slice A0_1 l0_1.length c0_1) := (blk_cell BK260.out 1).trans rfl; have hfz61_0 := blk_frozen BK260.out 0; have hfz61_1 := blk_frozen BK260.out 1)))
            all_goals first | (go_ret; exact ⟨by first | rfl | (simp [errW_none, errW_some]; done) | (simp [errW_none, errW_some]; rfl) | (simp [*, errW_none, errW_some]; done) | (simp [*, errW_none, errW_some]; rfl), by repeat (first | (with_reducible first | exact HB.out | apply below_alloc | apply pw_below_drewN | apply below_drew1 | refine below_set ?_ GE260.out) | exact HB.out)⟩) | (exfalso; simp_all; done)
        · rw [if_neg c54] at H
          have c54b0 : decide (t261 ≤ 512) = false := decide_eq_false c54
          clear c54
          obtain rfl := Option.some.inj H
          have hcz62_0 : wr.cell? ⟨gb260, 0, none⟩ = some (.bool a0_0) := (blk_cell BK260.out 0).trans rfl
          have hcz62_1 : wr.cell? ⟨gb260, 1, none⟩ = some (.slice A0_1 l0_1.length c0_1) := (blk_cell BK260.out 1).trans rfl
          have hfz62_0 := blk_frozen BK260.out 0
          have hfz62_1 := blk_frozen BK260.out 1
          go_wp2_with (first | (go_at_call 25; (with_reducible refine (waybillref7_NodeSize.calls k1 a0_0 _ _ l0_1 t261 _ ?side1 ?side2 A53.out).mono ?_); (case side1 => repeat (first | exact (Kd.C_below HR0_1.out HB.out) | (with_reducible refine Kd.C_alloc ?_ _) | (with_reducible refine Kd.C_drewN ?_ _) | (with_reducible refine Kd.C_drew ?_))); (case side2 => exact HC0_1.out); rintro e w63 ⟨rfl, hb⟩; have n0_ := Aside0.mk (blk_below (g := gb260) (o := .cells #[.bool a0_0, .slice A0_1 l0_1.length c0_1] 44 (0, 0)) (by exact BK260.out) hb); have n1_ := Aside0.mk (below_step (by repeat (first | (with_reducible first | exact HB.out | apply below_alloc | apply pw_below_drewN | apply below_drew1 | refine below_set ?_ GE260.out) | exact HB.out)) hb); clear BK260; clear HB; have BK260 := n0_; have HB := n1_; clear n0_ n1_; (try clear hb); (try clear hb2); (try clear hk); (try clear hi); (try clear hge)))
          repeat (go_quiet (first | (go_at_call 25; (with_reducible refine (waybillref7_NodeSize.calls k1 a0_0 _ _ l0_1 t261 _ ?side1 ?side2 A53.out).mono ?_); (case side1 => repeat (first | exact (Kd.C_below HR0_1.out HB.out) | (with_reducible refine Kd.C_alloc ?_ _) | (with_reducible refine Kd.C_drewN ?_ _) | (with_reducible refine Kd.C_drew ?_))); (case side2 => exact HC0_1.out); rintro e w63 ⟨rfl, hb⟩; have n0_ := Aside0.mk (blk_below (g := gb260) (o := .cells #[.bool a0_0, .slice A0_1 l0_1.length c0_1] 44 (0, 0)) (by exact BK260.out) hb); have n1_ := Aside0.mk (below_step (by repeat (first | (with_reducible first | exact HB.out | apply below_alloc | apply pw_below_drewN | apply below_drew1 | refine below_set ?_ GE260.out) | exact HB.out)) hb); clear BK260; clear HB; have BK260 := n0_; have HB := n1_; clear n0_ n1_; (try clear hb); (try clear hb2); (try clear hk); (try clear hi); (try clear hge))); try go_wp2_with (first | (go_at_call 25; (with_reducible refine (waybillref7_NodeSize.calls k1 a0_0 _ _ l0_1 t261 _ ?side1 ?side2 A53.out).mono ?_); (case side1 => repeat (first | exact (Kd.C_below HR0_1.out HB.out) | (with_reducible refine Kd.C_alloc ?_ _) | (with_reducible refine Kd.C_drewN ?_ _) | (with_reducible refine Kd.C_drew ?_))); (case side2 => exact HC0_1.out); rintro e w63 ⟨rfl, hb⟩; have n0_ := Aside0.mk (blk_below (g := gb260) (o := .cells #[.bool a0_0, .slice A0_1 l0_1.length c0_1] 44 (0, 0)) (by exact BK260.out) hb); have n1_ := Aside0.mk (below_step (by repeat (first | (with_reducible first | exact HB.out | apply below_alloc | apply pw_below_drewN | apply below_drew1 | refine below_set ?_ GE260.out) | exact HB.out)) hb); clear BK260; clear HB; have BK260 := n0_; have HB := n1_; clear n0_ n1_; (try clear hb); (try clear hb2); (try clear hk); (try clear hi); (try clear hge))))
          all_goals first | (go_ret; exact ⟨by first | rfl | (simp [errW_none, errW_some]; done) | (simp [errW_none, errW_some]; rfl) | (simp [*, errW_none, errW_some]; done) | (simp [*, errW_none, errW_some]; rfl), by repeat (first | (with_reducible first | exact HB.out | apply below_alloc | apply pw_below_drewN | apply below_drew1 | refine below_set ?_ GE260.out) | exact HB.out)⟩) | (exfalso; simp_all; done)

end Go.Proofs.Ytfhaffpegncdiaa.PN
