/- What functions of the given program come to: printed; Lean checks it. -/
import Derived.Test.YtpjkaodbcclecaaPKx0
namespace Go.Proofs.Ytpjkaodbcclecaa.PK
open Go.RowKit Go.Proofs.YtpjkaodbcclecaaW.PrintWords Go.Proofs.YtpjkaodbcclecaaW.PrintLast Go.Proofs.YtpjkaodbcclecaaW.PrintMore
attribute [local go_sem] max2_int min2_int max_two min_two max_three min_three max_four min_four
set_option linter.unusedVariables false
set_option linter.unusedSimpArgs false

/-! ### waybillref7_keyOk: function 68 -/
mutual
def waybillref7_keyOk.j0 : Nat → Bool → Bool → Int → ByteArray → ByteArray → ByteArray → Int → Option (Bool)
 | 0, _, _, _, _, _, _, _ => none
 | k + 1, x3, x4, x254000, x254001, x254002, x254003, x254004 => if x254000 = 1 then (waybillref7_keyOk.j1 k x3 x4 x254000 (x254000 == 1) x254000 x254001 x254002 x254003 x254004) else (waybillref7_keyOk.j1 k x3 x4 x254000 (x254000 == 2) x254000 x254001 x254002 x254003 x254004)
def waybillref7_keyOk.j1 : Nat → Bool → Bool → Int → Bool → Int → ByteArray → ByteArray → ByteArray → Int → Option (Bool)
 | 0, _, _, _, _, _, _, _, _, _ => none
 | k + 1, x3, x4, x26, x27, x254000, x254001, x254002, x254003, x254004 => if x27 = true then (if x3 = true then (if x254002.toList = ([] : List UInt8) then (if x254003.toList = ([] : List UInt8) then (some (x254004 == 0)) else (some false)) else (some false)) else (some false)) else (if x26 = 3 then (if x3 = true then (if x4 = true then (if (x254003.size : Int) ≤ 60 then (some (x254004 == 0)) else (some false)) else (some false)) else (some false)) else (if x26 = 4 then (if x254001.toList = ([] : List UInt8) then (if x254002.toList = ([] : List UInt8) then (if x254003.toList = ([] : List UInt8) then (some (decide (x254004 > 0))) else (some false)) else (some false)) else (some false)) else (if x26 = 5 then (if x3 = true then (if x254002.toList = ([] : List UInt8) then (if x254003.toList = ([] : List UInt8) then (some (decide (x254004 > 0))) else (some false)) else (some false)) else (some false)) else (some false))))
end
def waybillref7_keyOk.f (k : Nat) (a0_0 : Int) (a0_1 : ByteArray) (a0_2 : ByteArray) (a0_3 : ByteArray) (a0_4 : Int) : Option (Bool) := if (a0_1.size : Int) ≥ 1 then (if (a0_2.size : Int) ≥ 1 then (waybillref7_keyOk.j0 k (decide ((a0_1.size : Int) ≤ 30)) (decide ((a0_2.size : Int) ≤ 30)) a0_0 a0_1 a0_2 a0_3 a0_4) else (waybillref7_keyOk.j0 k (decide ((a0_1.size : Int) ≤ 30)) false a0_0 a0_1 a0_2 a0_3 a0_4)) else (if (a0_2.size : Int) ≥ 1 then (waybillref7_keyOk.j0 k false (decide ((a0_2.size : Int) ≤ 30)) a0_0 a0_1 a0_2 a0_3 a0_4) else (waybillref7_keyOk.j0 k false false a0_0 a0_1 a0_2 a0_3 a0_4))
theorem waybillref7_keyOk.mono_l : ∀ k, (∀ y0 y1 y2 y3 y4 y5 y6, LeO (waybillref7_keyOk.j0 k y0 y1 y2 y3 y4 y5 y6) (waybillref7_keyOk.j0 (k + 1) y0 y1 y2 y3 y4 y5 y6)) ∧ (∀ y0 y1 y2 y3 y4 y5 y6 y7 y8, LeO (waybillref7_keyOk.j1 k y0 y1 y2 y3 y4 y5 y6 y7 y8) (waybillref7_keyOk.j1 (k + 1) y0 y1 y2 y3 y4 y5 y6 y7 y8))
 | 0 => ⟨fun _ _ _ _ _ _ _ r h => by simp [waybillref7_keyOk.j0] at h, fun _ _ _ _ _ _ _ _ _ r h => by simp [waybillref7_keyOk.j1] at h⟩
 | k + 1 => by
  obtain ⟨ih0, ih1⟩ := waybillref7_keyOk.mono_l k
  refine ⟨?_, ?_⟩
  ·
   intro y0 y1 y2 y3 y4 y5 y6
   unfold waybillref7_keyOk.j0
   repeat' first
   | (with_reducible exact ih0 _ _ _ _ _ _ _)
   | (with_reducible exact ih1 _ _ _ _ _ _ _ _ _)
   | (with_reducible exact LeO.refl _)
   | (with_reducible exact LeO.none _)
   | (with_reducible refine LeO.ite ?_ ?_)
   | (with_reducible refine LeO.bind ?_ (fun _ => ?_))
   | exact ih0 _ _ _ _ _ _ _
   | exact ih1 _ _ _ _ _ _ _ _ _
   | exact LeO.none _
   | refine LeO.ite ?_ ?_
   | refine LeO.bind ?_ (fun _ => ?_)
  ·
   intro y0 y1 y2 y3 y4 y5 y6 y7 y8
   unfold waybillref7_keyOk.j1
   repeat' first
   | (with_reducible exact ih0 _ _ _ _ _ _ _)
   | (with_reducible exact ih1 _ _ _ _ _ _ _ _ _)
   | (with_reducible exact LeO.refl _)
   | (with_reducible exact LeO.none _)
   | (with_reducible refine LeO.ite ?_ ?_)
   | (with_reducible refine LeO.bind ?_ (fun _ => ?_))
   | exact ih0 _ _ _ _ _ _ _
   | exact ih1 _ _ _ _ _ _ _ _ _
   | exact LeO.none _
   | refine LeO.ite ?_ ?_
   | refine LeO.bind ?_ (fun _ => ?_)
theorem waybillref7_keyOk.mono : ∀ a0 a1 a2 a3 a4 k, LeO (waybillref7_keyOk.f k a0 a1 a2 a3 a4) (waybillref7_keyOk.f (k + 1) a0 a1 a2 a3 a4) := by
 intro a0 a1 a2 a3 a4 k
 obtain ⟨ih0, ih1⟩ := waybillref7_keyOk.mono_l k
 unfold waybillref7_keyOk.f
 repeat' first
   | (with_reducible exact ih0 _ _ _ _ _ _ _)
   | (with_reducible exact ih1 _ _ _ _ _ _ _ _ _)
   | (with_reducible exact LeO.refl _)
   | (with_reducible exact LeO.none _)
   | (with_reducible refine LeO.ite ?_ ?_)
   | (with_reducible refine LeO.bind ?_ (fun _ => ?_))
   | exact ih0 _ _ _ _ _ _ _
   | exact ih1 _ _ _ _ _ _ _ _ _
   | exact LeO.none _
   | refine LeO.ite ?_ ?_
   | refine LeO.bind ?_ (fun _ => ?_)
set_option maxHeartbeats 8000000 in
set_option maxRecDepth 100000 in
theorem waybillref7_keyOk.calls (k : Nat) (a0_0 : Int) (a0_1 : ByteArray) (a0_2 : ByteArray) (a0_3 : ByteArray) (a0_4 : Int) (r : Bool) (w : World) (h : waybillref7_keyOk.f k a0_0 a0_1 a0_2 a0_3 a0_4 = some r) :
  Calls Try.prog 68 #[.agg #[.int .i64 a0_0, .string a0_1, .string a0_2, .string a0_3, .int .u64 a0_4]] w fun e w' => e = .returned (.bool r) ∧ Below w.heap.size w w' := by
 have hu74 := Try.underlying74
 have HB := Aside0.mk (Below.refl w.heap.size w)
 have H : (if (a0_1.size : Int) ≥ 1 then (if (a0_2.size : Int) ≥ 1 then (waybillref7_keyOk.j0 k (decide ((a0_1.size : Int) ≤ 30)) (decide ((a0_2.size : Int) ≤ 30)) a0_0 a0_1 a0_2 a0_3 a0_4) else (waybillref7_keyOk.j0 k (decide ((a0_1.size : Int) ≤ 30)) false a0_0 a0_1 a0_2 a0_3 a0_4)) else (if (a0_2.size : Int) ≥ 1 then (waybillref7_keyOk.j0 k false (decide ((a0_2.size : Int) ≤ 30)) a0_0 a0_1 a0_2 a0_3 a0_4) else (waybillref7_keyOk.j0 k false false a0_0 a0_1 a0_2 a0_3 a0_4))) = some r := h
 clear h
 have HC2 := Aside0.mk H
 clear H
 go_enter Try.func68, Try.ntmps68
 go_upto_region 1 with (first | ((with_reducible refine gate_dst (N := 1) rfl ?_); (try (refine gate_guard (by rfl) ?_; dsimp only)); refine box_event ?hg (N := 1) ?hd (cs := #[.int .i64 a0_0, .string a0_1, .string a0_2, .string a0_3, .int .u64 a0_4]) (t := 74) ?hr ?_; (case hd => rfl); (case hg => rfl); (case hr => first | (go_simp; done) | (go_simp; rfl)); intro gb253 hg w3 hbox hb; have n0_ := Aside0.mk (below_step (by repeat (with_reducible first | exact HB.out | apply below_alloc | apply pw_below_drewN | apply below_drew1)) hb); have n1_ := Aside0.mk (hbox); have n2_ := Aside0.mk ((by rw [hg]; exact (below_size (by repeat (with_reducible first | exact HB.out | apply below_alloc | apply pw_below_drewN | apply below_drew1))) : w.heap.size ≤ gb253)); have n3_ := Aside0.mk ((by rw [hg]; exact (below_size (by repeat (with_reducible first | exact HB.out | apply below_alloc | apply pw_below_drewN | apply below_drew1))) : w.heap.size ≤ gb253)); clear HB; have HB := n0_; have BK253 := n1_; have GW253 := n2_; have GE253 := n3_; clear n0_ n1_ n2_ n3_; clear hb hbox hg))
 repeat (go_quiet (first | ((with_reducible refine gate_dst (N := 1) rfl ?_); (try (refine gate_guard (by rfl) ?_; dsimp only)); refine box_event ?hg (N := 1) ?hd (cs := #[.int .i64 a0_0, .string a0_1, .string a0_2, .string a0_3, .int .u64 a0_4]) (t := 74) ?hr ?_; (case hd => rfl); (case hg => rfl); (case hr => first | (go_simp; done) | (go_simp; rfl)); intro gb253 hg w3 hbox hb; have n0_ := Aside0.mk (below_step (by repeat (with_reducible first | exact HB.out | apply below_alloc | apply pw_below_drewN | apply below_drew1)) hb); have n1_ := Aside0.mk (hbox); have n2_ := Aside0.mk ((by rw [hg]; exact (below_size (by repeat (with_reducible first | exact HB.out | apply below_alloc | apply pw_below_drewN | apply below_drew1))) : w.heap.size ≤ gb253)); have n3_ := Aside0.mk ((by rw [hg]; exact (below_size (by repeat (with_reducible first | exact HB.out | apply below_alloc | apply pw_below_drewN | apply below_drew1))) : w.heap.size ≤ gb253)); clear HB; have HB := n0_; have BK253 := n1_; have GW253 := n2_; have GE253 := n3_; clear n0_ n1_ n2_ n3_; clear hb hbox hg)); go_upto_region 1 with (first | ((with_reducible refine gate_dst (N := 1) rfl ?_); (try (refine gate_guard (by rfl) ?_; dsimp only)); refine box_event ?hg (N := 1) ?hd (cs := #[.int .i64 a0_0, .string a0_1, .string a0_2, .string a0_3, .int .u64 a0_4]) (t := 74) ?hr ?_; (case hd => rfl); (case hg => rfl); (case hr => first | (go_simp; done) | (go_simp; rfl)); intro gb253 hg w3 hbox hb; have n0_ := Aside0.mk (below_step (by repeat (with_reducible first | exact HB.out | apply below_alloc | apply pw_below_drewN | apply below_drew1)) hb); have n1_ := Aside0.mk (hbox); have n2_ := Aside0.mk ((by rw [hg]; exact (below_size (by repeat (with_reducible first | exact HB.out | apply below_alloc | apply pw_below_drewN | apply below_drew1))) : w.heap.size ≤ gb253)); have n3_ := Aside0.mk ((by rw [hg]; exact (below_size (by repeat (with_reducible first | exact HB.out | apply below_alloc | apply pw_below_drewN | apply below_drew1))) : w.heap.size ≤ gb253)); clear HB; have HB := n0_; have BK253 := n1_; have GW253 := n2_; have GE253 := n3_; clear n0_ n1_ n2_ n3_; clear hb hbox hg)))
 (try simp only [Act.put, List.setIfInBounds_toArray, List.set_cons_zero, List.set_cons_succ])
 go_cut [3, 4] (fun v3 v4 wc => ∃ (kq : Nat) (x3_1 : Bool) (x4_1 : Bool), v3 = .bool x3_1 ∧ v4 = .bool x4_1 ∧ Aside0 (waybillref7_keyOk.j0 kq x3_1 x4_1 a0_0 a0_1 a0_2 a0_3 a0_4 = some r) ∧ Aside0 (kq ≤ k) ∧ Aside0 (wc.heap[gb253]? = some (.cells #[.int .i64 a0_0, .string a0_1, .string a0_2, .string a0_3, .int .u64 a0_4] 74 (0, 0))) ∧ Aside0 (Below w.heap.size w wc))
 case first =>
  have H := HC2.out
  clear HC2
  by_cases c4 : (a0_1.size : Int) ≥ 1
  ·
   rw [if_pos c4] at H
   have c4b0 : decide (1 ≤ (a0_1.size : Int)) = true := decide_eq_true c4
   have c4b1 : decide (1 ≤ a0_1.size) = true := decide_eq_true (by omega)
   clear c4
   (first | rw [c4b0] | rw [c4b2] | rw [c4b1] | (simp only [i64_w, i32_w]; rw [c4b0]) | skip)
   by_cases c5 : (a0_2.size : Int) ≥ 1
   ·
    rw [if_pos c5] at H
    have c5b0 : decide (1 ≤ (a0_2.size : Int)) = true := decide_eq_true c5
    have c5b1 : decide (1 ≤ a0_2.size) = true := decide_eq_true (by omega)
    clear c5
    have H' := Aside0.mk H
    clear H
    have hcz6_0 : w3.cell? ⟨gb253, 0, none⟩ = some (.int .i64 a0_0) := (blk_cell BK253.out 0).trans rfl
    have hcz6_1 : w3.cell? ⟨gb253, 1, none⟩ = some (.string a0_1) := (blk_cell BK253.out 1).trans rfl
    have hcz6_2 : w3.cell? ⟨gb253, 2, none⟩ = some (.string a0_2) := (blk_cell BK253.out 2).trans rfl
    have hcz6_3 : w3.cell? ⟨gb253, 3, none⟩ = some (.string a0_3) := (blk_cell BK253.out 3).trans rfl
    have hcz6_4 : w3.cell? ⟨gb253, 4, none⟩ = some (.int .u64 a0_4) := (blk_cell BK253.out 4).trans rfl
    have hfz6_0 := blk_frozen BK253.out 0
    have hfz6_1 := blk_frozen BK253.out 1
    have hfz6_2 := blk_frozen BK253.out 2
    have hfz6_3 := blk_frozen BK253.out 3
    have hfz6_4 := blk_frozen BK253.out 4
    go_wp2
    repeat (go_quiet (fail); try go_wp2)
    go_meet
    case rel => exact ⟨_, (decide ((a0_1.size : Int) ≤ 30)), (decide ((a0_2.size : Int) ≤ 30)), (by first | rfl | (simp; done) | (simp [*]; done)), (by first | rfl | (simp; done) | (simp [*]; done)), H', ⟨by first | omega | exact Nat.le_refl _⟩, ⟨by exact BK253.out⟩, ⟨by repeat (with_reducible first | exact HB.out | apply below_alloc | apply pw_below_drewN | apply below_drew1 | refine below_set ?_ GE253.out)⟩⟩
   ·
    rw [if_neg c5] at H
    have c5b0 : decide (1 ≤ (a0_2.size : Int)) = false := decide_eq_false c5
    have c5b1 : decide (1 ≤ a0_2.size) = false := decide_eq_false (by omega)
    clear c5
    have H' := Aside0.mk H
    clear H
    have hcz7_0 : w3.cell? ⟨gb253, 0, none⟩ = some (.int .i64 a0_0) := (blk_cell BK253.out 0).trans rfl
    have hcz7_1 : w3.cell? ⟨gb253, 1, none⟩ = some (.string a0_1) := (blk_cell BK253.out 1).trans rfl
    have hcz7_2 : w3.cell? ⟨gb253, 2, none⟩ = some (.string a0_2) := (blk_cell BK253.out 2).trans rfl
    have hcz7_3 : w3.cell? ⟨gb253, 3, none⟩ = some (.string a0_3) := (blk_cell BK253.out 3).trans rfl
    have hcz7_4 : w3.cell? ⟨gb253, 4, none⟩ = some (.int .u64 a0_4) := (blk_cell BK253.out 4).trans rfl
    have hfz7_0 := blk_frozen BK253.out 0
    have hfz7_1 := blk_frozen BK253.out 1
    have hfz7_2 := blk_frozen BK253.out 2
    have hfz7_3 := blk_frozen BK253.out 3
    have hfz7_4 := blk_frozen BK253.out 4
    go_wp2
    repeat (go_quiet (fail); try go_wp2)
    go_meet
    case rel => exact ⟨_, (decide ((a0_1.size : Int) ≤ 30)), (false), (by first | rfl | (simp; done) | (simp [*]; done)), (by first | rfl | (simp; done) | (simp [*]; done)), H', ⟨by first | omega | exact Nat.le_refl _⟩, ⟨by exact BK253.out⟩, ⟨by repeat (with_reducible first | exact HB.out | apply below_alloc | apply pw_below_drewN | apply below_drew1 | refine below_set ?_ GE253.out)⟩⟩
  ·
   rw [if_neg c4] at H
   have c4b0 : decide (1 ≤ (a0_1.size : Int)) = false := decide_eq_false c4
   have c4b1 : decide (1 ≤ a0_1.size) = false := decide_eq_false (by omega)
   clear c4
   (first | rw [c4b0] | rw [c4b2] | rw [c4b1] | (simp only [i64_w, i32_w]; rw [c4b0]) | skip)
   by_cases c8 : (a0_2.size : Int) ≥ 1
   ·
    rw [if_pos c8] at H
    have c8b0 : decide (1 ≤ (a0_2.size : Int)) = true := decide_eq_true c8
    have c8b1 : decide (1 ≤ a0_2.size) = true := decide_eq_true (by omega)
    clear c8
    have H' := Aside0.mk H
    clear H
    have hcz9_0 : w3.cell? ⟨gb253, 0, none⟩ = some (.int .i64 a0_0) := (blk_cell BK253.out 0).trans rfl
    have hcz9_1 : w3.cell? ⟨gb253, 1, none⟩ = some (.string a0_1) := (blk_cell BK253.out 1).trans rfl
    have hcz9_2 : w3.cell? ⟨gb253, 2, none⟩ = some (.string a0_2) := (blk_cell BK253.out 2).trans rfl
    have hcz9_3 : w3.cell? ⟨gb253, 3, none⟩ = some (.string a0_3) := (blk_cell BK253.out 3).trans rfl
    have hcz9_4 : w3.cell? ⟨gb253, 4, none⟩ = some (.int .u64 a0_4) := (blk_cell BK253.out 4).trans rfl
    have hfz9_0 := blk_frozen BK253.out 0
    have hfz9_1 := blk_frozen BK253.out 1
    have hfz9_2 := blk_frozen BK253.out 2
    have hfz9_3 := blk_frozen BK253.out 3
    have hfz9_4 := blk_frozen BK253.out 4
    go_wp2
    repeat (go_quiet (fail); try go_wp2)
    go_meet
    case rel => exact ⟨_, (false), (decide ((a0_2.size : Int) ≤ 30)), (by first | rfl | (simp; done) | (simp [*]; done)), (by first | rfl | (simp; done) | (simp [*]; done)), H', ⟨by first | omega | exact Nat.le_refl _⟩, ⟨by exact BK253.out⟩, ⟨by repeat (with_reducible first | exact HB.out | apply below_alloc | apply pw_below_drewN | apply below_drew1 | refine below_set ?_ GE253.out)⟩⟩
   ·
    rw [if_neg c8] at H
    have c8b0 : decide (1 ≤ (a0_2.size : Int)) = false := decide_eq_false c8
    have c8b1 : decide (1 ≤ a0_2.size) = false := decide_eq_false (by omega)
    clear c8
    have H' := Aside0.mk H
    clear H
    have hcz10_0 : w3.cell? ⟨gb253, 0, none⟩ = some (.int .i64 a0_0) := (blk_cell BK253.out 0).trans rfl
    have hcz10_1 : w3.cell? ⟨gb253, 1, none⟩ = some (.string a0_1) := (blk_cell BK253.out 1).trans rfl
    have hcz10_2 : w3.cell? ⟨gb253, 2, none⟩ = some (.string a0_2) := (blk_cell BK253.out 2).trans rfl
    have hcz10_3 : w3.cell? ⟨gb253, 3, none⟩ = some (.string a0_3) := (blk_cell BK253.out 3).trans rfl
    have hcz10_4 : w3.cell? ⟨gb253, 4, none⟩ = some (.int .u64 a0_4) := (blk_cell BK253.out 4).trans rfl
    have hfz10_0 := blk_frozen BK253.out 0
    have hfz10_1 := blk_frozen BK253.out 1
    have hfz10_2 := blk_frozen BK253.out 2
    have hfz10_3 := blk_frozen BK253.out 3
    have hfz10_4 := blk_frozen BK253.out 4
    go_wp2
    repeat (go_quiet (fail); try go_wp2)
    go_meet
    case rel => exact ⟨_, (false), (false), (by first | rfl | (simp; done) | (simp [*]; done)), (by first | rfl | (simp; done) | (simp [*]; done)), H', ⟨by first | omega | exact Nat.le_refl _⟩, ⟨by exact BK253.out⟩, ⟨by repeat (with_reducible first | exact HB.out | apply below_alloc | apply pw_below_drewN | apply below_drew1 | refine below_set ?_ GE253.out)⟩⟩
 case rest =>
  clear HC2
  (try clear p2); (try clear c4); (try clear c4b0); (try clear c4b1); (try clear c5); (try clear c5b0); (try clear c5b1); (try clear c6); (try clear c8); (try clear c8b0); (try clear c8b1); (try clear hcz10_0); (try clear hcz10_1); (try clear hcz10_2); (try clear hcz10_3); (try clear hcz10_4); (try clear hcz6_0); (try clear hcz6_1); (try clear hcz6_2); (try clear hcz6_3); (try clear hcz6_4); (try clear hcz7_0); (try clear hcz7_1); (try clear hcz7_2); (try clear hcz7_3); (try clear hcz7_4); (try clear hcz9_0); (try clear hcz9_1); (try clear hcz9_2); (try clear hcz9_3); (try clear hcz9_4); (try clear hfz10_0); (try clear hfz10_1); (try clear hfz10_2); (try clear hfz10_3); (try clear hfz10_4); (try clear hfz6_0); (try clear hfz6_1); (try clear hfz6_2); (try clear hfz6_3); (try clear hfz6_4); (try clear hfz7_0); (try clear hfz7_1); (try clear hfz7_2); (try clear hfz7_3); (try clear hfz7_4); (try clear hfz9_0); (try clear hfz9_1); (try clear hfz9_2); (try clear hfz9_3); (try clear hfz9_4)
  obtain ⟨kq, x3_1, x4_1, rfl, rfl, HA, HJ1, BK253, HB⟩ := hcut
  cases kq with
  | zero => exact absurd HA.out (by simp [waybillref7_keyOk.j0])
  | succ kj1 =>
   have H := HA.out
   clear HA
   simp only [waybillref7_keyOk.j0] at H
   have HC11 := Aside0.mk H
   clear H
   have hcz12_0 : wc.cell? ⟨gb253, 0, none⟩ = some (.int .i64 a0_0) := (blk_cell BK253.out 0).trans rfl
   have hcz12_1 : wc.cell? ⟨gb253, 1, none⟩ = some (.string a0_1) := (blk_cell BK253.out 1).trans rfl
   have hcz12_2 : wc.cell? ⟨gb253, 2, none⟩ = some (.string a0_2) := (blk_cell BK253.out 2).trans rfl
   have hcz12_3 : wc.cell? ⟨gb253, 3, none⟩ = some (.string a0_3) := (blk_cell BK253.out 3).trans rfl
   have hcz12_4 : wc.cell? ⟨gb253, 4, none⟩ = some (.int .u64 a0_4) := (blk_cell BK253.out 4).trans rfl
   have hfz12_0 := blk_frozen BK253.out 0
   have hfz12_1 := blk_frozen BK253.out 1
   have hfz12_2 := blk_frozen BK253.out 2
   have hfz12_3 := blk_frozen BK253.out 3
   have hfz12_4 := blk_frozen BK253.out 4
   go_upto_if 27 with (fail)
   repeat (go_quiet (fail); go_upto_if 27 with (fail))
   go_cut [27] (fun v27 wc => ∃ (kq : Nat) (x27_10 : Bool), v27 = .bool x27_10 ∧ Aside0 (waybillref7_keyOk.j1 kq x3_1 x4_1 a0_0 x27_10 a0_0 a0_1 a0_2 a0_3 a0_4 = some r) ∧ Aside0 (kq ≤ kj1) ∧ Aside0 (wc.heap[gb253]? = some (.cells #[.int .i64 a0_0, .string a0_1, .string a0_2, .string a0_3, .int .u64 a0_4] 74 (0, 0))) ∧ Aside0 (Below w.heap.size w wc))
   case first =>
    have H := HC11.out
    clear HC11
    by_cases c13 : a0_0 = 1
    ·
     rw [if_pos c13] at H
     have c13b0 : (a0_0 == 1) = true := beq_iff_eq.mpr c13
     have c13b1 : (a0_0 != 1) = false := bne_eq_false_iff_eq.mpr c13
     (try rw [c13b0] at H)
     (try rw [c13b0] at BK253)
     clear c13
     (first | rw [c13b0] | rw [c13b2] | rw [c13b1] | (simp only [i64_w, i32_w]; rw [c13b0]) | skip)
     have H' := Aside0.mk H
     clear H
     go_wp2
     repeat (go_quiet (fail); try go_wp2)
     go_meet
     case rel => exact ⟨_, (true), (by first | rfl | (simp; done) | (simp [*]; done)), H', ⟨by have := HJ1.out; first | omega | exact Nat.le_refl _⟩, ⟨by exact BK253.out⟩, ⟨by repeat (with_reducible first | exact HB.out | apply below_alloc | apply pw_below_drewN | apply below_drew1 | refine below_set ?_ GE253.out)⟩⟩
    ·
     rw [if_neg c13] at H
     have c13b0 : (a0_0 == 1) = false := beq_eq_false_iff_ne.mpr c13
     have c13b1 : (a0_0 != 1) = true := bne_iff_ne.mpr c13
     (first | rw [c13b0] | rw [c13b2] | rw [c13b1] | (simp only [i64_w, i32_w]; rw [c13b0]) | skip)
     have H' := Aside0.mk H
     clear H
     go_wp2
     repeat (go_quiet (fail); try go_wp2)
     go_meet
     case rel => exact ⟨_, ((a0_0 == 2)), (by first | rfl | (simp; done) | (simp [*]; done)), H', ⟨by have := HJ1.out; first | omega | exact Nat.le_refl _⟩, ⟨by exact BK253.out⟩, ⟨by repeat (with_reducible first | exact HB.out | apply below_alloc | apply pw_below_drewN | apply below_drew1 | refine below_set ?_ GE253.out)⟩⟩
   case rest =>
    clear HC11
    (try clear c1); (try clear p2); (try clear c4); (try clear c4b0); (try clear c4b1); (try clear c5); (try clear c5b0); (try clear c5b1); (try clear c6); (try clear c8); (try clear c8b0); (try clear c8b1); (try clear c13); (try clear c13b0); (try clear c13b1); (try clear hcz10_0); (try clear hcz10_1); (try clear hcz10_2); (try clear hcz10_3); (try clear hcz10_4); (try clear hcz12_0); (try clear hcz12_1); (try clear hcz12_2); (try clear hcz12_3); (try clear hcz12_4); (try clear hcz6_0); (try clear hcz6_1); (try clear hcz6_2); (try clear hcz6_3); (try clear hcz6_4); (try clear hcz7_0); (try clear hcz7_1); (try clear hcz7_2); (try clear hcz7_3); (try clear hcz7_4); (try clear hcz9_0); (try clear hcz9_1); (try clear hcz9_2); (try clear hcz9_3); (try clear hcz9_4); (try clear hfz10_0); (try clear hfz10_1); (try clear hfz10_2); (try clear hfz10_3); (try clear hfz10_4); (try clear hfz12_0); (try clear hfz12_1); (try clear hfz12_2); (try clear hfz12_3); (try clear hfz12_4); (try clear hfz6_0); (try clear hfz6_1); (try clear hfz6_2); (try clear hfz6_3); (try clear hfz6_4); (try clear hfz7_0); (try clear hfz7_1); (try clear hfz7_2); (try clear hfz7_3); (try clear hfz7_4); (try clear hfz9_0); (try clear hfz9_1); (try clear hfz9_2); (try clear hfz9_3); (try clear hfz9_4); (try clear p2)
    obtain ⟨kq, x27_10, rfl, HA, HJ10, BK253, HB⟩ := hcut
    cases kq with
    | zero => exact absurd HA.out (by simp [waybillref7_keyOk.j1])
    | succ kj10 =>
     have H := HA.out
     clear HA
     simp only [waybillref7_keyOk.j1] at H
     by_cases c14 : x27_10 = true
     ·
      subst c14
      have H1 : (if x3_1 = true then (if a0_2.toList = ([] : List UInt8) then (if a0_3.toList = ([] : List UInt8) then (some (a0_4 == 0)) else (some false)) else (some false)) else (some false)) = some r := by rw [if_pos rfl] at H; exact H
      clear H
      have H := H1
      clear H1
      by_cases c15 : x3_1 = true
      ·
       subst c15
       have H1 : (if a0_2.toList = ([] : List UInt8) then (if a0_3.toList = ([] : List UInt8) then (some (a0_4 == 0)) else (some false)) else (some false)) = some r := by rw [if_pos rfl] at H; exact H
       clear H
       have H := H1
       clear H1
       by_cases c16 : a0_2.toList = ([] : List UInt8)
       ·
        rw [if_pos c16] at H
        have c16b0 : (a0_2.toList == ([] : List UInt8)) = true := beq_iff_eq.mpr c16
        have c16b1 : (a0_2.toList != ([] : List UInt8)) = false := bne_eq_false_iff_eq.mpr c16
        (try (have c16b2 : a0_2.toList.isEmpty = true := by simpa using c16))
        (try (have c16b3 : (!a0_2.toList.isEmpty) = false := by simpa using c16))
        clear c16
        by_cases c17 : a0_3.toList = ([] : List UInt8)
        ·
         rw [if_pos c17] at H
         have c17b0 : (a0_3.toList == ([] : List UInt8)) = true := beq_iff_eq.mpr c17
         have c17b1 : (a0_3.toList != ([] : List UInt8)) = false := bne_eq_false_iff_eq.mpr c17
         (try (have c17b2 : a0_3.toList.isEmpty = true := by simpa using c17))
         (try (have c17b3 : (!a0_3.toList.isEmpty) = false := by simpa using c17))
         clear c17
         obtain rfl := Option.some.inj H
         have hcz18_0 : wc.cell? ⟨gb253, 0, none⟩ = some (.int .i64 a0_0) := (blk_cell BK253.out 0).trans rfl
         have hcz18_1 : wc.cell? ⟨gb253, 1, none⟩ = some (.string a0_1) := (blk_cell BK253.out 1).trans rfl
         have hcz18_2 : wc.cell? ⟨gb253, 2, none⟩ = some (.string a0_2) := (blk_cell BK253.out 2).trans rfl
         have hcz18_3 : wc.cell? ⟨gb253, 3, none⟩ = some (.string a0_3) := (blk_cell BK253.out 3).trans rfl
         have hcz18_4 : wc.cell? ⟨gb253, 4, none⟩ = some (.int .u64 a0_4) := (blk_cell BK253.out 4).trans rfl
         have hfz18_0 := blk_frozen BK253.out 0
         have hfz18_1 := blk_frozen BK253.out 1
         have hfz18_2 := blk_frozen BK253.out 2
         have hfz18_3 := blk_frozen BK253.out 3
         have hfz18_4 := blk_frozen BK253.out 4
         go_wp2
         repeat (go_quiet (fail); try go_wp2)
         all_goals first | (go_ret; exact ⟨by first | rfl | (simp [errW_none, errW_some]; done) | (simp [errW_none, errW_some]; rfl) | (simp [*, errW_none, errW_some]; done) | (simp [*, errW_none, errW_some]; rfl), by repeat (with_reducible first | exact HB.out | apply below_alloc | apply pw_below_drewN | apply below_drew1 | refine below_set ?_ GE253.out)⟩) | (exfalso; simp_all; done)
        ·
         rw [if_neg c17] at H
         have c17b0 : (a0_3.toList == ([] : List UInt8)) = false := beq_eq_false_iff_ne.mpr c17
         have c17b1 : (a0_3.toList != ([] : List UInt8)) = true := bne_iff_ne.mpr c17
         (try (have c17b2 : a0_3.toList.isEmpty = false := by simpa using c17))
         (try (have c17b3 : (!a0_3.toList.isEmpty) = true := by simpa using c17))
         obtain rfl := Option.some.inj H
         have hcz19_0 : wc.cell? ⟨gb253, 0, none⟩ = some (.int .i64 a0_0) := (blk_cell BK253.out 0).trans rfl
         have hcz19_1 : wc.cell? ⟨gb253, 1, none⟩ = some (.string a0_1) := (blk_cell BK253.out 1).trans rfl
         have hcz19_2 : wc.cell? ⟨gb253, 2, none⟩ = some (.string a0_2) := (blk_cell BK253.out 2).trans rfl
         have hcz19_3 : wc.cell? ⟨gb253, 3, none⟩ = some (.string a0_3) := (blk_cell BK253.out 3).trans rfl
         have hcz19_4 : wc.cell? ⟨gb253, 4, none⟩ = some (.int .u64 a0_4) := (blk_cell BK253.out 4).trans rfl
         have hfz19_0 := blk_frozen BK253.out 0
         have hfz19_1 := blk_frozen BK253.out 1
         have hfz19_2 := blk_frozen BK253.out 2
         have hfz19_3 := blk_frozen BK253.out 3
         have hfz19_4 := blk_frozen BK253.out 4
         go_wp2
         repeat (go_quiet (fail); try go_wp2)
         all_goals first | (go_ret; exact ⟨by first | rfl | (simp [errW_none, errW_some]; done) | (simp [errW_none, errW_some]; rfl) | (simp [*, errW_none, errW_some]; done) | (simp [*, errW_none, errW_some]; rfl), by repeat (with_reducible first | exact HB.out | apply below_alloc | apply pw_below_drewN | apply below_drew1 | refine below_set ?_ GE253.out)⟩) | (exfalso; simp_all; done)
       ·
        rw [if_neg c16] at H
        have c16b0 : (a0_2.toList == ([] : List UInt8)) = false := beq_eq_false_iff_ne.mpr c16
        have c16b1 : (a0_2.toList != ([] : List UInt8)) = true := bne_iff_ne.mpr c16
        (try (have c16b2 : a0_2.toList.isEmpty = false := by simpa using c16))
        (try (have c16b3 : (!a0_2.toList.isEmpty) = true := by simpa using c16))
        obtain rfl := Option.some.inj H
        have hcz20_0 : wc.cell? ⟨gb253, 0, none⟩ = some (.int .i64 a0_0) := (blk_cell BK253.out 0).trans rfl
        have hcz20_1 : wc.cell? ⟨gb253, 1, none⟩ = some (.string a0_1) := (blk_cell BK253.out 1).trans rfl
        have hcz20_2 : wc.cell? ⟨gb253, 2, none⟩ = some (.string a0_2) := (blk_cell BK253.out 2).trans rfl
        have hcz20_3 : wc.cell? ⟨gb253, 3, none⟩ = some (.string a0_3) := (blk_cell BK253.out 3).trans rfl
        have hcz20_4 : wc.cell? ⟨gb253, 4, none⟩ = some (.int .u64 a0_4) := (blk_cell BK253.out 4).trans rfl
        have hfz20_0 := blk_frozen BK253.out 0
        have hfz20_1 := blk_frozen BK253.out 1
        have hfz20_2 := blk_frozen BK253.out 2
        have hfz20_3 := blk_frozen BK253.out 3
        have hfz20_4 := blk_frozen BK253.out 4
        go_wp2
        repeat (go_quiet (fail); try go_wp2)
        all_goals first | (go_ret; exact ⟨by first | rfl | (simp [errW_none, errW_some]; done) | (simp [errW_none, errW_some]; rfl) | (simp [*, errW_none, errW_some]; done) | (simp [*, errW_none, errW_some]; rfl), by repeat (with_reducible first | exact HB.out | apply below_alloc | apply pw_below_drewN | apply below_drew1 | refine below_set ?_ GE253.out)⟩) | (exfalso; simp_all; done)
      ·
       replace c15 := Bool.eq_false_iff.mpr c15
       subst c15
       have H1 : (some false) = some r := by rw [if_neg (show ¬ (false = true) by decide)] at H; exact H
       clear H
       have H := H1
       clear H1
       obtain rfl := Option.some.inj H
       go_wp2
       repeat (go_quiet (fail); try go_wp2)
       all_goals first | (go_ret; exact ⟨by first | rfl | (simp [errW_none, errW_some]; done) | (simp [errW_none, errW_some]; rfl) | (simp [*, errW_none, errW_some]; done) | (simp [*, errW_none, errW_some]; rfl), by repeat (with_reducible first | exact HB.out | apply below_alloc | apply pw_below_drewN | apply below_drew1 | refine below_set ?_ GE253.out)⟩) | (exfalso; simp_all; done)
     ·
      replace c14 := Bool.eq_false_iff.mpr c14
      subst c14
      have H1 : (if a0_0 = 3 then (if x3_1 = true then (if x4_1 = true then (if (a0_3.size : Int) ≤ 60 then (some (a0_4 == 0)) else (some false)) else (some false)) else (some false)) else (if a0_0 = 4 then (if a0_1.toList = ([] : List UInt8) then (if a0_2.toList = ([] : List UInt8) then (if a0_3.toList = ([] : List UInt8) then (some (decide (a0_4 > 0))) else (some false)) else (some false)) else (some false)) else (if a0_0 = 5 then (if x3_1 = true then (if a0_2.toList = ([] : List UInt8) then (if a0_3.toList = ([] : List UInt8) then (some (decide (a0_4 > 0))) else (some false)) else (some false)) else (some false)) else (some false)))) = some r := by rw [if_neg (show ¬ (false = true) by decide)] at H; exact H
      clear H
      have H := H1
      clear H1
      by_cases c21 : a0_0 = 3
      ·
       rw [if_pos c21] at H
       have c21b0 : (a0_0 == 3) = true := beq_iff_eq.mpr c21
       have c21b1 : (a0_0 != 3) = false := bne_eq_false_iff_eq.mpr c21
       clear c21
       by_cases c22 : x3_1 = true
       ·
        subst c22
        have H1 : (if x4_1 = true then (if (a0_3.size : Int) ≤ 60 then (some (a0_4 == 0)) else (some false)) else (some false)) = some r := by rw [if_pos rfl] at H; exact H
        clear H
        have H := H1
        clear H1
        by_cases c23 : x4_1 = true
        ·
         subst c23
         have H1 : (if (a0_3.size : Int) ≤ 60 then (some (a0_4 == 0)) else (some false)) = some r := by rw [if_pos rfl] at H; exact H
         clear H
         have H := H1
         clear H1
         by_cases c24 : (a0_3.size : Int) ≤ 60
         ·
          rw [if_pos c24] at H
          have c24b0 : decide ((a0_3.size : Int) ≤ 60) = true := decide_eq_true c24
          have c24b1 : decide (a0_3.size ≤ 60) = true := decide_eq_true (by omega)
          clear c24
          obtain rfl := Option.some.inj H
          have hcz25_0 : wc.cell? ⟨gb253, 0, none⟩ = some (.int .i64 a0_0) := (blk_cell BK253.out 0).trans rfl
          have hcz25_1 : wc.cell? ⟨gb253, 1, none⟩ = some (.string a0_1) := (blk_cell BK253.out 1).trans rfl
          have hcz25_2 : wc.cell? ⟨gb253, 2, none⟩ = some (.string a0_2) := (blk_cell BK253.out 2).trans rfl
          have hcz25_3 : wc.cell? ⟨gb253, 3, none⟩ = some (.string a0_3) := (blk_cell BK253.out 3).trans rfl
          have hcz25_4 : wc.cell? ⟨gb253, 4, none⟩ = some (.int .u64 a0_4) := (blk_cell BK253.out 4).trans rfl
          have hfz25_0 := blk_frozen BK253.out 0
          have hfz25_1 := blk_frozen BK253.out 1
          have hfz25_2 := blk_frozen BK253.out 2
          have hfz25_3 := blk_frozen BK253.out 3
          have hfz25_4 := blk_frozen BK253.out 4
          go_wp2
          repeat (go_quiet (fail); try go_wp2)
          all_goals first | (go_ret; exact ⟨by first | rfl | (simp [errW_none, errW_some]; done) | (simp [errW_none, errW_some]; rfl) | (simp [*, errW_none, errW_some]; done) | (simp [*, errW_none, errW_some]; rfl), by repeat (with_reducible first | exact HB.out | apply below_alloc | apply pw_below_drewN | apply below_drew1 | refine below_set ?_ GE253.out)⟩) | (exfalso; simp_all; done)
         ·
          rw [if_neg c24] at H
          have c24b0 : decide ((a0_3.size : Int) ≤ 60) = false := decide_eq_false c24
          have c24b1 : decide (a0_3.size ≤ 60) = false := decide_eq_false (by omega)
          clear c24
          obtain rfl := Option.some.inj H
          have hcz26_0 : wc.cell? ⟨gb253, 0, none⟩ = some (.int .i64 a0_0) := (blk_cell BK253.out 0).trans rfl
          have hcz26_1 : wc.cell? ⟨gb253, 1, none⟩ = some (.string a0_1) := (blk_cell BK253.out 1).trans rfl
          have hcz26_2 : wc.cell? ⟨gb253, 2, none⟩ = some (.string a0_2) := (blk_cell BK253.out 2).trans rfl
          have hcz26_3 : wc.cell? ⟨gb253, 3, none⟩ = some (.string a0_3) := (blk_cell BK253.out 3).trans rfl
          have hcz26_4 : wc.cell? ⟨gb253, 4, none⟩ = some (.int .u64 a0_4) := (blk_cell BK253.out 4).trans rfl
          have hfz26_0 := blk_frozen BK253.out 0
          have hfz26_1 := blk_frozen BK253.out 1
          have hfz26_2 := blk_frozen BK253.out 2
          have hfz26_3 := blk_frozen BK253.out 3
          have hfz26_4 := blk_frozen BK253.out 4
          go_wp2
          repeat (go_quiet (fail); try go_wp2)
          all_goals first | (go_ret; exact ⟨by first | rfl | (simp [errW_none, errW_some]; done) | (simp [errW_none, errW_some]; rfl) | (simp [*, errW_none, errW_some]; done) | (simp [*, errW_none, errW_some]; rfl), by repeat (with_reducible first | exact HB.out | apply below_alloc | apply pw_below_drewN | apply below_drew1 | refine below_set ?_ GE253.out)⟩) | (exfalso; simp_all; done)
        ·
         replace c23 := Bool.eq_false_iff.mpr c23
         subst c23
         have H1 : (some false) = some r := by rw [if_neg (show ¬ (false = true) by decide)] at H; exact H
         clear H
         have H := H1
         clear H1
         obtain rfl := Option.some.inj H
         go_wp2
         repeat (go_quiet (fail); try go_wp2)
         all_goals first | (go_ret; exact ⟨by first | rfl | (simp [errW_none, errW_some]; done) | (simp [errW_none, errW_some]; rfl) | (simp [*, errW_none, errW_some]; done) | (simp [*, errW_none, errW_some]; rfl), by repeat (with_reducible first | exact HB.out | apply below_alloc | apply pw_below_drewN | apply below_drew1 | refine below_set ?_ GE253.out)⟩) | (exfalso; simp_all; done)
       ·
        replace c22 := Bool.eq_false_iff.mpr c22
        subst c22
        have H1 : (some false) = some r := by rw [if_neg (show ¬ (false = true) by decide)] at H; exact H
        clear H
        have H := H1
        clear H1
        obtain rfl := Option.some.inj H
        go_wp2
        repeat (go_quiet (fail); try go_wp2)
        all_goals first | (go_ret; exact ⟨by first | rfl | (simp [errW_none, errW_some]; done) | (simp [errW_none, errW_some]; rfl) | (simp [*, errW_none, errW_some]; done) | (simp [*, errW_none, errW_some]; rfl), by repeat (with_reducible first | exact HB.out | apply below_alloc | apply pw_below_drewN | apply below_drew1 | refine below_set ?_ GE253.out)⟩) | (exfalso; simp_all; done)
      ·
       rw [if_neg c21] at H
       have c21b0 : (a0_0 == 3) = false := beq_eq_false_iff_ne.mpr c21
       have c21b1 : (a0_0 != 3) = true := bne_iff_ne.mpr c21
       by_cases c27 : a0_0 = 4
       ·
        rw [if_pos c27] at H
        have c27b0 : (a0_0 == 4) = true := beq_iff_eq.mpr c27
        have c27b1 : (a0_0 != 4) = false := bne_eq_false_iff_eq.mpr c27
        clear c27
        by_cases c28 : a0_1.toList = ([] : List UInt8)
        ·
         rw [if_pos c28] at H
         have c28b0 : (a0_1.toList == ([] : List UInt8)) = true := beq_iff_eq.mpr c28
         have c28b1 : (a0_1.toList != ([] : List UInt8)) = false := bne_eq_false_iff_eq.mpr c28
         (try (have c28b2 : a0_1.toList.isEmpty = true := by simpa using c28))
         (try (have c28b3 : (!a0_1.toList.isEmpty) = false := by simpa using c28))
         clear c28
         by_cases c29 : a0_2.toList = ([] : List UInt8)
         ·
          rw [if_pos c29] at H
          have c29b0 : (a0_2.toList == ([] : List UInt8)) = true := beq_iff_eq.mpr c29
          have c29b1 : (a0_2.toList != ([] : List UInt8)) = false := bne_eq_false_iff_eq.mpr c29
          (try (have c29b2 : a0_2.toList.isEmpty = true := by simpa using c29))
          (try (have c29b3 : (!a0_2.toList.isEmpty) = false := by simpa using c29))
          clear c29
          by_cases c30 : a0_3.toList = ([] : List UInt8)
          ·
           rw [if_pos c30] at H
           have c30b0 : (a0_3.toList == ([] : List UInt8)) = true := beq_iff_eq.mpr c30
           have c30b1 : (a0_3.toList != ([] : List UInt8)) = false := bne_eq_false_iff_eq.mpr c30
           (try (have c30b2 : a0_3.toList.isEmpty = true := by simpa using c30))
           (try (have c30b3 : (!a0_3.toList.isEmpty) = false := by simpa using c30))
           clear c30
           obtain rfl := Option.some.inj H
           have hcz31_0 : wc.cell? ⟨gb253, 0, none⟩ = some (.int .i64 a0_0) := (blk_cell BK253.out 0).trans rfl
           have hcz31_1 : wc.cell? ⟨gb253, 1, none⟩ = some (.string a0_1) := (blk_cell BK253.out 1).trans rfl
           have hcz31_2 : wc.cell? ⟨gb253, 2, none⟩ = some (.string a0_2) := (blk_cell BK253.out 2).trans rfl
           have hcz31_3 : wc.cell? ⟨gb253, 3, none⟩ = some (.string a0_3) := (blk_cell BK253.out 3).trans rfl
           have hcz31_4 : wc.cell? ⟨gb253, 4, none⟩ = some (.int .u64 a0_4) := (blk_cell BK253.out 4).trans rfl
           have hfz31_0 := blk_frozen BK253.out 0
           have hfz31_1 := blk_frozen BK253.out 1
           have hfz31_2 := blk_frozen BK253.out 2
           have hfz31_3 := blk_frozen BK253.out 3
           have hfz31_4 := blk_frozen BK253.out 4
           go_wp2
           repeat (go_quiet (fail); try go_wp2)
           all_goals first | (go_ret; exact ⟨by first | rfl | (simp [errW_none, errW_some]; done) | (simp [errW_none, errW_some]; rfl) | (simp [*, errW_none, errW_some]; done) | (simp [*, errW_none, errW_some]; rfl), by repeat (with_reducible first | exact HB.out | apply below_alloc | apply pw_below_drewN | apply below_drew1 | refine below_set ?_ GE253.out)⟩) | (exfalso; simp_all; done)
          ·
           rw [if_neg c30] at H
           have c30b0 : (a0_3.toList == ([] : List UInt8)) = false := beq_eq_false_iff_ne.mpr c30
           have c30b1 : (a0_3.toList != ([] : List UInt8)) = true := bne_iff_ne.mpr c30
           (try (have c30b2 : a0_3.toList.isEmpty = false := by simpa using c30))
           (try (have c30b3 : (!a0_3.toList.isEmpty) = true := by simpa using c30))
           obtain rfl := Option.some.inj H
           have hcz32_0 : wc.cell? ⟨gb253, 0, none⟩ = some (.int .i64 a0_0) := (blk_cell BK253.out 0).trans rfl
           have hcz32_1 : wc.cell? ⟨gb253, 1, none⟩ = some (.string a0_1) := (blk_cell BK253.out 1).trans rfl
           have hcz32_2 : wc.cell? ⟨gb253, 2, none⟩ = some (.string a0_2) := (blk_cell BK253.out 2).trans rfl
           have hcz32_3 : wc.cell? ⟨gb253, 3, none⟩ = some (.string a0_3) := (blk_cell BK253.out 3).trans rfl
           have hcz32_4 : wc.cell? ⟨gb253, 4, none⟩ = some (.int .u64 a0_4) := (blk_cell BK253.out 4).trans rfl
           have hfz32_0 := blk_frozen BK253.out 0
           have hfz32_1 := blk_frozen BK253.out 1
           have hfz32_2 := blk_frozen BK253.out 2
           have hfz32_3 := blk_frozen BK253.out 3
           have hfz32_4 := blk_frozen BK253.out 4
           go_wp2
           repeat (go_quiet (fail); try go_wp2)
           all_goals first | (go_ret; exact ⟨by first | rfl | (simp [errW_none, errW_some]; done) | (simp [errW_none, errW_some]; rfl) | (simp [*, errW_none, errW_some]; done) | (simp [*, errW_none, errW_some]; rfl), by repeat (with_reducible first | exact HB.out | apply below_alloc | apply pw_below_drewN | apply below_drew1 | refine below_set ?_ GE253.out)⟩) | (exfalso; simp_all; done)
         ·
          rw [if_neg c29] at H
          have c29b0 : (a0_2.toList == ([] : List UInt8)) = false := beq_eq_false_iff_ne.mpr c29
          have c29b1 : (a0_2.toList != ([] : List UInt8)) = true := bne_iff_ne.mpr c29
          (try (have c29b2 : a0_2.toList.isEmpty = false := by simpa using c29))
          (try (have c29b3 : (!a0_2.toList.isEmpty) = true := by simpa using c29))
          obtain rfl := Option.some.inj H
          have hcz33_0 : wc.cell? ⟨gb253, 0, none⟩ = some (.int .i64 a0_0) := (blk_cell BK253.out 0).trans rfl
          have hcz33_1 : wc.cell? ⟨gb253, 1, none⟩ = some (.string a0_1) := (blk_cell BK253.out 1).trans rfl
          have hcz33_2 : wc.cell? ⟨gb253, 2, none⟩ = some (.string a0_2) := (blk_cell BK253.out 2).trans rfl
          have hcz33_3 : wc.cell? ⟨gb253, 3, none⟩ = some (.string a0_3) := (blk_cell BK253.out 3).trans rfl
          have hcz33_4 : wc.cell? ⟨gb253, 4, none⟩ = some (.int .u64 a0_4) := (blk_cell BK253.out 4).trans rfl
          have hfz33_0 := blk_frozen BK253.out 0
          have hfz33_1 := blk_frozen BK253.out 1
          have hfz33_2 := blk_frozen BK253.out 2
          have hfz33_3 := blk_frozen BK253.out 3
          have hfz33_4 := blk_frozen BK253.out 4
          go_wp2
          repeat (go_quiet (fail); try go_wp2)
          all_goals first | (go_ret; exact ⟨by first | rfl | (simp [errW_none, errW_some]; done) | (simp [errW_none, errW_some]; rfl) | (simp [*, errW_none, errW_some]; done) | (simp [*, errW_none, errW_some]; rfl), by repeat (with_reducible first | exact HB.out | apply below_alloc | apply pw_below_drewN | apply below_drew1 | refine below_set ?_ GE253.out)⟩) | (exfalso; simp_all; done)
        ·
         rw [if_neg c28] at H
         have c28b0 : (a0_1.toList == ([] : List UInt8)) = false := beq_eq_false_iff_ne.mpr c28
         have c28b1 : (a0_1.toList != ([] : List UInt8)) = true := bne_iff_ne.mpr c28
         (try (have c28b2 : a0_1.toList.isEmpty = false := by simpa using c28))
         (try (have c28b3 : (!a0_1.toList.isEmpty) = true := by simpa using c28))
         obtain rfl := Option.some.inj H
         have hcz34_0 : wc.cell? ⟨gb253, 0, none⟩ = some (.int .i64 a0_0) := (blk_cell BK253.out 0).trans rfl
         have hcz34_1 : wc.cell? ⟨gb253, 1, none⟩ = some (.string a0_1) := (blk_cell BK253.out 1).trans rfl
         have hcz34_2 : wc.cell? ⟨gb253, 2, none⟩ = some (.string a0_2) := (blk_cell BK253.out 2).trans rfl
         have hcz34_3 : wc.cell? ⟨gb253, 3, none⟩ = some (.string a0_3) := (blk_cell BK253.out 3).trans rfl
         have hcz34_4 : wc.cell? ⟨gb253, 4, none⟩ = some (.int .u64 a0_4) := (blk_cell BK253.out 4).trans rfl
         have hfz34_0 := blk_frozen BK253.out 0
         have hfz34_1 := blk_frozen BK253.out 1
         have hfz34_2 := blk_frozen BK253.out 2
         have hfz34_3 := blk_frozen BK253.out 3
         have hfz34_4 := blk_frozen BK253.out 4
         go_wp2
         repeat (go_quiet (fail); try go_wp2)
         all_goals first | (go_ret; exact ⟨by first | rfl | (simp [errW_none, errW_some]; done) | (simp [errW_none, errW_some]; rfl) | (simp [*, errW_none, errW_some]; done) | (simp [*, errW_none, errW_some]; rfl), by repeat (with_reducible first | exact HB.out | apply below_alloc | apply pw_below_drewN | apply below_drew1 | refine below_set ?_ GE253.out)⟩) | (exfalso; simp_all; done)
       ·
        rw [if_neg c27] at H
        have c27b0 : (a0_0 == 4) = false := beq_eq_false_iff_ne.mpr c27
        have c27b1 : (a0_0 != 4) = true := bne_iff_ne.mpr c27
        by_cases c35 : a0_0 = 5
        ·
         rw [if_pos c35] at H
         have c35b0 : (a0_0 == 5) = true := beq_iff_eq.mpr c35
         have c35b1 : (a0_0 != 5) = false := bne_eq_false_iff_eq.mpr c35
         clear c35
         by_cases c36 : x3_1 = true
         ·
          subst c36
          have H1 : (if a0_2.toList = ([] : List UInt8) then (if a0_3.toList = ([] : List UInt8) then (some (decide (a0_4 > 0))) else (some false)) else (some false)) = some r := by rw [if_pos rfl] at H; exact H
          clear H
          have H := H1
          clear H1
          by_cases c37 : a0_2.toList = ([] : List UInt8)
          ·
           rw [if_pos c37] at H
           have c37b0 : (a0_2.toList == ([] : List UInt8)) = true := beq_iff_eq.mpr c37
           have c37b1 : (a0_2.toList != ([] : List UInt8)) = false := bne_eq_false_iff_eq.mpr c37
           (try (have c37b2 : a0_2.toList.isEmpty = true := by simpa using c37))
           (try (have c37b3 : (!a0_2.toList.isEmpty) = false := by simpa using c37))
           clear c37
           by_cases c38 : a0_3.toList = ([] : List UInt8)
           ·
            rw [if_pos c38] at H
            have c38b0 : (a0_3.toList == ([] : List UInt8)) = true := beq_iff_eq.mpr c38
            have c38b1 : (a0_3.toList != ([] : List UInt8)) = false := bne_eq_false_iff_eq.mpr c38
            (try (have c38b2 : a0_3.toList.isEmpty = true := by simpa using c38))
            (try (have c38b3 : (!a0_3.toList.isEmpty) = false := by simpa using c38))
            clear c38
            obtain rfl := Option.some.inj H
            have hcz39_0 : wc.cell? ⟨gb253, 0, none⟩ = some (.int .i64 a0_0) := (blk_cell BK253.out 0).trans rfl
            have hcz39_1 : wc.cell? ⟨gb253, 1, none⟩ = some (.string a0_1) := (blk_cell BK253.out 1).trans rfl
            have hcz39_2 : wc.cell? ⟨gb253, 2, none⟩ = some (.string a0_2) := (blk_cell BK253.out 2).trans rfl
            have hcz39_3 : wc.cell? ⟨gb253, 3, none⟩ = some (.string a0_3) := (blk_cell BK253.out 3).trans rfl
            have hcz39_4 : wc.cell? ⟨gb253, 4, none⟩ = some (.int .u64 a0_4) := (blk_cell BK253.out 4).trans rfl
            have hfz39_0 := blk_frozen BK253.out 0
            have hfz39_1 := blk_frozen BK253.out 1
            have hfz39_2 := blk_frozen BK253.out 2
            have hfz39_3 := blk_frozen BK253.out 3
            have hfz39_4 := blk_frozen BK253.out 4
            go_wp2
            repeat (go_quiet (fail); try go_wp2)
            all_goals first | (go_ret; exact ⟨by first | rfl | (simp [errW_none, errW_some]; done) | (simp [errW_none, errW_some]; rfl) | (simp [*, errW_none, errW_some]; done) | (simp [*, errW_none, errW_some]; rfl), by repeat (with_reducible first | exact HB.out | apply below_alloc | apply pw_below_drewN | apply below_drew1 | refine below_set ?_ GE253.out)⟩) | (exfalso; simp_all; done)
           ·
            rw [if_neg c38] at H
            have c38b0 : (a0_3.toList == ([] : List UInt8)) = false := beq_eq_false_iff_ne.mpr c38
            have c38b1 : (a0_3.toList != ([] : List UInt8)) = true := bne_iff_ne.mpr c38
            (try (have c38b2 : a0_3.toList.isEmpty = false := by simpa using c38))
            (try (have c38b3 : (!a0_3.toList.isEmpty) = true := by simpa using c38))
            obtain rfl := Option.some.inj H
            have hcz40_0 : wc.cell? ⟨gb253, 0, none⟩ = some (.int .i64 a0_0) := (blk_cell BK253.out 0).trans rfl
            have hcz40_1 : wc.cell? ⟨gb253, 1, none⟩ = some (.string a0_1) := (blk_cell BK253.out 1).trans rfl
            have hcz40_2 : wc.cell? ⟨gb253, 2, none⟩ = some (.string a0_2) := (blk_cell BK253.out 2).trans rfl
            have hcz40_3 : wc.cell? ⟨gb253, 3, none⟩ = some (.string a0_3) := (blk_cell BK253.out 3).trans rfl
            have hcz40_4 : wc.cell? ⟨gb253, 4, none⟩ = some (.int .u64 a0_4) := (blk_cell BK253.out 4).trans rfl
            have hfz40_0 := blk_frozen BK253.out 0
            have hfz40_1 := blk_frozen BK253.out 1
            have hfz40_2 := blk_frozen BK253.out 2
            have hfz40_3 := blk_frozen BK253.out 3
            have hfz40_4 := blk_frozen BK253.out 4
            go_wp2
            repeat (go_quiet (fail); try go_wp2)
            all_goals first | (go_ret; exact ⟨by first | rfl | (simp [errW_none, errW_some]; done) | (simp [errW_none, errW_some]; rfl) | (simp [*, errW_none, errW_some]; done) | (simp [*, errW_none, errW_some]; rfl), by repeat (with_reducible first | exact HB.out | apply below_alloc | apply pw_below_drewN | apply below_drew1 | refine below_set ?_ GE253.out)⟩) | (exfalso; simp_all; done)
          ·
           rw [if_neg c37] at H
           have c37b0 : (a0_2.toList == ([] : List UInt8)) = false := beq_eq_false_iff_ne.mpr c37
           have c37b1 : (a0_2.toList != ([] : List UInt8)) = true := bne_iff_ne.mpr c37
           (try (have c37b2 : a0_2.toList.isEmpty = false := by simpa using c37))
           (try (have c37b3 : (!a0_2.toList.isEmpty) = true := by simpa using c37))
           obtain rfl := Option.some.inj H
           have hcz41_0 : wc.cell? ⟨gb253, 0, none⟩ = some (.int .i64 a0_0) := (blk_cell BK253.out 0).trans rfl
           have hcz41_1 : wc.cell? ⟨gb253, 1, none⟩ = some (.string a0_1) := (blk_cell BK253.out 1).trans rfl
           have hcz41_2 : wc.cell? ⟨gb253, 2, none⟩ = some (.string a0_2) := (blk_cell BK253.out 2).trans rfl
           have hcz41_3 : wc.cell? ⟨gb253, 3, none⟩ = some (.string a0_3) := (blk_cell BK253.out 3).trans rfl
           have hcz41_4 : wc.cell? ⟨gb253, 4, none⟩ = some (.int .u64 a0_4) := (blk_cell BK253.out 4).trans rfl
           have hfz41_0 := blk_frozen BK253.out 0
           have hfz41_1 := blk_frozen BK253.out 1
           have hfz41_2 := blk_frozen BK253.out 2
           have hfz41_3 := blk_frozen BK253.out 3
           have hfz41_4 := blk_frozen BK253.out 4
           go_wp2
           repeat (go_quiet (fail); try go_wp2)
           all_goals first | (go_ret; exact ⟨by first | rfl | (simp [errW_none, errW_some]; done) | (simp [errW_none, errW_some]; rfl) | (simp [*, errW_none, errW_some]; done) | (simp [*, errW_none, errW_some]; rfl), by repeat (with_reducible first | exact HB.out | apply below_alloc | apply pw_below_drewN | apply below_drew1 | refine below_set ?_ GE253.out)⟩) | (exfalso; simp_all; done)
         ·
          replace c36 := Bool.eq_false_iff.mpr c36
          subst c36
          have H1 : (some false) = some r := by rw [if_neg (show ¬ (false = true) by decide)] at H; exact H
          clear H
          have H := H1
          clear H1
          obtain rfl := Option.some.inj H
          go_wp2
          repeat (go_quiet (fail); try go_wp2)
          all_goals first | (go_ret; exact ⟨by first | rfl | (simp [errW_none, errW_some]; done) | (simp [errW_none, errW_some]; rfl) | (simp [*, errW_none, errW_some]; done) | (simp [*, errW_none, errW_some]; rfl), by repeat (with_reducible first | exact HB.out | apply below_alloc | apply pw_below_drewN | apply below_drew1 | refine below_set ?_ GE253.out)⟩) | (exfalso; simp_all; done)
        ·
         rw [if_neg c35] at H
         have c35b0 : (a0_0 == 5) = false := beq_eq_false_iff_ne.mpr c35
         have c35b1 : (a0_0 != 5) = true := bne_iff_ne.mpr c35
         obtain rfl := Option.some.inj H
         go_wp2
         repeat (go_quiet (fail); try go_wp2)
         all_goals first | (go_ret; exact ⟨by first | rfl | (simp [errW_none, errW_some]; done) | (simp [errW_none, errW_some]; rfl) | (simp [*, errW_none, errW_some]; done) | (simp [*, errW_none, errW_some]; rfl), by repeat (with_reducible first | exact HB.out | apply below_alloc | apply pw_below_drewN | apply below_drew1 | refine below_set ?_ GE253.out)⟩) | (exfalso; simp_all; done)

end Go.Proofs.Ytpjkaodbcclecaa.PK
