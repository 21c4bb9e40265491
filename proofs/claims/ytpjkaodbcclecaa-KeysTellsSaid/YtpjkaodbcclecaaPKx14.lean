/- What functions of the given program come to: printed; Lean checks it. -/
import Derived.Test.YtpjkaodbcclecaaPKx0
namespace Go.Proofs.Ytpjkaodbcclecaa.PK
open Go.RowKit Go.Proofs.YtpjkaodbcclecaaW.PrintWords Go.Proofs.YtpjkaodbcclecaaW.PrintLast Go.Proofs.YtpjkaodbcclecaaW.PrintMore
attribute [local go_sem] max2_int min2_int max_two min_two max_three min_three max_four min_four
set_option linter.unusedVariables false
set_option linter.unusedSimpArgs false

/-! ### waybillref7_MsgOk: function 69 -/
def waybillref7_MsgOk.f (a0_0 : ByteArray) (a0_1 : ByteArray) (a0_2 : ByteArray) (a0_3 : Int) (l0_4 : List Int) : Option (Bool) := if (a0_0.size : Int) ≤ 30 then (if (a0_1.size : Int) ≤ 60 then (if (a0_2.size : Int) ≤ 60 then (if a0_3 ≥ 0 then (if a0_3 ≤ 2 then (some (decide ((l0_4.length : Int) ≤ 10000))) else (some false)) else (some false)) else (some false)) else (some false)) else (some false)
set_option maxHeartbeats 8000000 in
set_option maxRecDepth 100000 in
theorem waybillref7_MsgOk.calls (a0_0 : ByteArray) (a0_1 : ByteArray) (a0_2 : ByteArray) (a0_3 : Int) (A0_4 : Option Addr) (c0_4 : Nat) (l0_4 : List Int) (r : Bool) (w : World) (hr0_4 : Kd.C (Kd.int .u8) w A0_4 l0_4.length l0_4) (hc0_4 : l0_4.length ≤ c0_4) (h : waybillref7_MsgOk.f a0_0 a0_1 a0_2 a0_3 l0_4 = some r) :
  Calls Try.prog 69 #[.agg #[.string a0_0, .string a0_1, .string a0_2, .int .i64 a0_3, .slice A0_4 l0_4.length c0_4]] w fun e w' => e = .returned (.bool r) ∧ Below w.heap.size w w' := by
 have hu77 := Try.underlying77
 have HR0_4 := Aside0.mk hr0_4
 have HC0_4 := Aside0.mk hc0_4
 clear hr0_4 hc0_4
 have HB := Aside0.mk (Below.refl w.heap.size w)
 have H : (if (a0_0.size : Int) ≤ 30 then (if (a0_1.size : Int) ≤ 60 then (if (a0_2.size : Int) ≤ 60 then (if a0_3 ≥ 0 then (if a0_3 ≤ 2 then (some (decide ((l0_4.length : Int) ≤ 10000))) else (some false)) else (some false)) else (some false)) else (some false)) else (some false)) = some r := h
 clear h
 by_cases c2 : (a0_0.size : Int) ≤ 30
 ·
  rw [if_pos c2] at H
  have c2b0 : decide ((a0_0.size : Int) ≤ 30) = true := decide_eq_true c2
  have c2b1 : decide (a0_0.size ≤ 30) = true := decide_eq_true (by omega)
  clear c2
  by_cases c3 : (a0_1.size : Int) ≤ 60
  ·
   rw [if_pos c3] at H
   have c3b0 : decide ((a0_1.size : Int) ≤ 60) = true := decide_eq_true c3
   have c3b1 : decide (a0_1.size ≤ 60) = true := decide_eq_true (by omega)
   clear c3
   by_cases c4 : (a0_2.size : Int) ≤ 60
   ·
    rw [if_pos c4] at H
    have c4b0 : decide ((a0_2.size : Int) ≤ 60) = true := decide_eq_true c4
    have c4b1 : decide (a0_2.size ≤ 60) = true := decide_eq_true (by omega)
    clear c4
    by_cases c5 : a0_3 ≥ 0
    ·
     rw [if_pos c5] at H
     have c5b0 : decide (0 ≤ a0_3) = true := decide_eq_true c5
     clear c5
     by_cases c6 : a0_3 ≤ 2
     ·
      rw [if_pos c6] at H
      have c6b0 : decide (a0_3 ≤ 2) = true := decide_eq_true c6
      clear c6
      obtain rfl := Option.some.inj H
      go_enter Try.func69, Try.ntmps69
      go_wp2_with (first | ((with_reducible refine gate_dst (N := 1) rfl ?_); (try (refine gate_guard (by rfl) ?_; dsimp only)); refine box_event ?hg (N := 1) ?hd (cs := #[.string a0_0, .string a0_1, .string a0_2, .int .i64 a0_3, .slice A0_4 l0_4.length c0_4]) (t := 77) ?hr ?_; (case hd => rfl); (case hg => rfl); (case hr => first | (go_simp; done) | (go_simp; rfl)); intro gb303 hg w7 hbox hb; have n0_ := Aside0.mk (below_step (by repeat (with_reducible first | exact HB.out | apply below_alloc)) hb); have n1_ := Aside0.mk (hbox); have n2_ := Aside0.mk ((by rw [hg]; exact (below_size (by repeat (with_reducible first | exact HB.out | apply below_alloc))) : w.heap.size ≤ gb303)); have n3_ := Aside0.mk ((by rw [hg]; exact (below_size (by repeat (with_reducible first | exact HB.out | apply below_alloc))) : w.heap.size ≤ gb303)); clear HB; have HB := n0_; have BK303 := n1_; have GW303 := n2_; have GE303 := n3_; clear n0_ n1_ n2_ n3_; clear hb hbox hg; have hcz8_0 : w7.cell? ⟨gb303, 0, none⟩ = some (.string a0_0) := (blk_cell BK303.out 0).trans rfl; have hcz8_1 : w7.cell? ⟨gb303, 1, none⟩ = some (.string a0_1) := (blk_cell BK303.out 1).trans rfl; have hcz8_2 : w7.cell? ⟨gb303, 2, none⟩ = some (.string a0_2) := (blk_cell BK303.out 2).trans rfl; have hcz8_3 : w7.cell? ⟨gb303, 3, none⟩ = some (.int .i64 a0_3) := (blk_cell BK303.out 3).trans rfl; have hcz8_4 : w7.cell? ⟨gb303, 4, none⟩ = some (.slice A0_4 l0_4.length c0_4) := (blk_cell BK303.out 4).trans rfl; have hfz8_0 := blk_frozen BK303.out 0; have hfz8_1 := blk_frozen BK303.out 1; have hfz8_2 := blk_frozen BK303.out 2; have hfz8_3 := blk_frozen BK303.out 3; have hfz8_4 := blk_frozen BK303.out 4))
      all_goals first | (go_ret; exact ⟨by first | rfl | (simp [errW_none, errW_some]; done) | (simp [errW_none, errW_some]; rfl) | (simp [*, errW_none, errW_some]; done) | (simp [*, errW_none, errW_some]; rfl), by repeat (with_reducible first | exact HB.out | apply below_alloc | refine below_set ?_ GE303.out)⟩) | (exfalso; simp_all; done)
     ·
      rw [if_neg c6] at H
      have c6b0 : decide (a0_3 ≤ 2) = false := decide_eq_false c6
      clear c6
      obtain rfl := Option.some.inj H
      go_enter Try.func69, Try.ntmps69
      go_wp2_with (first | ((with_reducible refine gate_dst (N := 1) rfl ?_); (try (refine gate_guard (by rfl) ?_; dsimp only)); refine box_event ?hg (N := 1) ?hd (cs := #[.string a0_0, .string a0_1, .string a0_2, .int .i64 a0_3, .slice A0_4 l0_4.length c0_4]) (t := 77) ?hr ?_; (case hd => rfl); (case hg => rfl); (case hr => first | (go_simp; done) | (go_simp; rfl)); intro gb303 hg w9 hbox hb; have n0_ := Aside0.mk (below_step (by repeat (with_reducible first | exact HB.out | apply below_alloc)) hb); have n1_ := Aside0.mk (hbox); have n2_ := Aside0.mk ((by rw [hg]; exact (below_size (by repeat (with_reducible first | exact HB.out | apply below_alloc))) : w.heap.size ≤ gb303)); have n3_ := Aside0.mk ((by rw [hg]; exact (below_size (by repeat (with_reducible first | exact HB.out | apply below_alloc))) : w.heap.size ≤ gb303)); clear HB; have HB := n0_; have BK303 := n1_; have GW303 := n2_; have GE303 := n3_; clear n0_ n1_ n2_ n3_; clear hb hbox hg; have hcz10_0 : w9.cell? ⟨gb303, 0, none⟩ = some (.string a0_0) := (blk_cell BK303.out 0).trans rfl; have hcz10_1 : w9.cell? ⟨gb303, 1, none⟩ = some (.string a0_1) := (blk_cell BK303.out 1).trans rfl; have hcz10_2 : w9.cell? ⟨gb303, 2, none⟩ = some (.string a0_2) := (blk_cell BK303.out 2).trans rfl; have hcz10_3 : w9.cell? ⟨gb303, 3, none⟩ = some (.int .i64 a0_3) := (blk_cell BK303.out 3).trans rfl; have hcz10_4 : w9.cell? ⟨gb303, 4, none⟩ = some (.slice A0_4 l0_4.length c0_4) := (blk_cell BK303.out 4).trans rfl; have hfz10_0 := blk_frozen BK303.out 0; have hfz10_1 := blk_frozen BK303.out 1; have hfz10_2 := blk_frozen BK303.out 2; have hfz10_3 := blk_frozen BK303.out 3; have hfz10_4 := blk_frozen BK303.out 4))
      all_goals first | (go_ret; exact ⟨by first | rfl | (simp [errW_none, errW_some]; done) | (simp [errW_none, errW_some]; rfl) | (simp [*, errW_none, errW_some]; done) | (simp [*, errW_none, errW_some]; rfl), by repeat (with_reducible first | exact HB.out | apply below_alloc | refine below_set ?_ GE303.out)⟩) | (exfalso; simp_all; done)
    ·
     rw [if_neg c5] at H
     have c5b0 : decide (0 ≤ a0_3) = false := decide_eq_false c5
     clear c5
     obtain rfl := Option.some.inj H
     go_enter Try.func69, Try.ntmps69
     go_wp2_with (first | ((with_reducible refine gate_dst (N := 1) rfl ?_); (try (refine gate_guard (by rfl) ?_; dsimp only)); refine box_event ?hg (N := 1) ?hd (cs := #[.string a0_0, .string a0_1, .string a0_2, .int .i64 a0_3, .slice A0_4 l0_4.length c0_4]) (t := 77) ?hr ?_; (case hd => rfl); (case hg => rfl); (case hr => first | (go_simp; done) | (go_simp; rfl)); intro gb303 hg w11 hbox hb; have n0_ := Aside0.mk (below_step (by repeat (with_reducible first | exact HB.out | apply below_alloc)) hb); have n1_ := Aside0.mk (hbox); have n2_ := Aside0.mk ((by rw [hg]; exact (below_size (by repeat (with_reducible first | exact HB.out | apply below_alloc))) : w.heap.size ≤ gb303)); have n3_ := Aside0.mk ((by rw [hg]; exact (below_size (by repeat (with_reducible first | exact HB.out | apply below_alloc))) : w.heap.size ≤ gb303)); clear HB; have HB := n0_; have BK303 := n1_; have GW303 := n2_; have GE303 := n3_; clear n0_ n1_ n2_ n3_; clear hb hbox hg; have hcz12_0 : w11.cell? ⟨gb303, 0, none⟩ = some (.string a0_0) := (blk_cell BK303.out 0).trans rfl; have hcz12_1 : w11.cell? ⟨gb303, 1, none⟩ = some (.string a0_1) := (blk_cell BK303.out 1).trans rfl; have hcz12_2 : w11.cell? ⟨gb303, 2, none⟩ = some (.string a0_2) := (blk_cell BK303.out 2).trans rfl; have hcz12_3 : w11.cell? ⟨gb303, 3, none⟩ = some (.int .i64 a0_3) := (blk_cell BK303.out 3).trans rfl; have hcz12_4 : w11.cell? ⟨gb303, 4, none⟩ = some (.slice A0_4 l0_4.length c0_4) := (blk_cell BK303.out 4).trans rfl; have hfz12_0 := blk_frozen BK303.out 0; have hfz12_1 := blk_frozen BK303.out 1; have hfz12_2 := blk_frozen BK303.out 2; have hfz12_3 := blk_frozen BK303.out 3; have hfz12_4 := blk_frozen BK303.out 4))
     all_goals first | (go_ret; exact ⟨by first | rfl | (simp [errW_none, errW_some]; done) | (simp [errW_none, errW_some]; rfl) | (simp [*, errW_none, errW_some]; done) | (simp [*, errW_none, errW_some]; rfl), by repeat (with_reducible first | exact HB.out | apply below_alloc | refine below_set ?_ GE303.out)⟩) | (exfalso; simp_all; done)
   ·
    rw [if_neg c4] at H
    have c4b0 : decide ((a0_2.size : Int) ≤ 60) = false := decide_eq_false c4
    have c4b1 : decide (a0_2.size ≤ 60) = false := decide_eq_false (by omega)
    clear c4
    obtain rfl := Option.some.inj H
    go_enter Try.func69, Try.ntmps69
    go_wp2_with (first | ((with_reducible refine gate_dst (N := 1) rfl ?_); (try (refine gate_guard (by rfl) ?_; dsimp only)); refine box_event ?hg (N := 1) ?hd (cs := #[.string a0_0, .string a0_1, .string a0_2, .int .i64 a0_3, .slice A0_4 l0_4.length c0_4]) (t := 77) ?hr ?_; (case hd => rfl); (case hg => rfl); (case hr => first | (go_simp; done) | (go_simp; rfl)); intro gb303 hg w13 hbox hb; have n0_ := Aside0.mk (below_step (by repeat (with_reducible first | exact HB.out | apply below_alloc)) hb); have n1_ := Aside0.mk (hbox); have n2_ := Aside0.mk ((by rw [hg]; exact (below_size (by repeat (with_reducible first | exact HB.out | apply below_alloc))) : w.heap.size ≤ gb303)); have n3_ := Aside0.mk ((by rw [hg]; exact (below_size (by repeat (with_reducible first | exact HB.out | apply below_alloc))) : w.heap.size ≤ gb303)); clear HB; have HB := n0_; have BK303 := n1_; have GW303 := n2_; have GE303 := n3_; clear n0_ n1_ n2_ n3_; clear hb hbox hg; have hcz14_0 : w13.cell? ⟨gb303, 0, none⟩ = some (.string a0_0) := (blk_cell BK303.out 0).trans rfl; have hcz14_1 : w13.cell? ⟨gb303, 1, none⟩ = some (.string a0_1) := (blk_cell BK303.out 1).trans rfl; have hcz14_2 : w13.cell? ⟨gb303, 2, none⟩ = some (.string a0_2) := (blk_cell BK303.out 2).trans rfl; have hcz14_3 : w13.cell? ⟨gb303, 3, none⟩ = some (.int .i64 a0_3) := (blk_cell BK303.out 3).trans rfl; have hcz14_4 : w13.cell? ⟨gb303, 4, none⟩ = some (.slice A0_4 l0_4.length c0_4) := (blk_cell BK303.out 4).trans rfl; have hfz14_0 := blk_frozen BK303.out 0; have hfz14_1 := blk_frozen BK303.out 1; have hfz14_2 := blk_frozen BK303.out 2; have hfz14_3 := blk_frozen BK303.out 3; have hfz14_4 := blk_frozen BK303.out 4))
    all_goals first | (go_ret; exact ⟨by first | rfl | (simp [errW_none, errW_some]; done) | (simp [errW_none, errW_some]; rfl) | (simp [*, errW_none, errW_some]; done) | (simp [*, errW_none, errW_some]; rfl), by repeat (with_reducible first | exact HB.out | apply below_alloc | refine below_set ?_ GE303.out)⟩) | (exfalso; simp_all; done)
  ·
   rw [if_neg c3] at H
   have c3b0 : decide ((a0_1.size : Int) ≤ 60) = false := decide_eq_false c3
   have c3b1 : decide (a0_1.size ≤ 60) = false := decide_eq_false (by omega)
   clear c3
   obtain rfl := Option.some.inj H
   go_enter Try.func69, Try.ntmps69
   go_wp2_with (first | ((with_reducible refine gate_dst (N := 1) rfl ?_); (try (refine gate_guard (by rfl) ?_; dsimp only)); refine box_event ?hg (N := 1) ?hd (cs := #[.string a0_0, .string a0_1, .string a0_2, .int .i64 a0_3, .slice A0_4 l0_4.length c0_4]) (t := 77) ?hr ?_; (case hd => rfl); (case hg => rfl); (case hr => first | (go_simp; done) | (go_simp; rfl)); intro gb303 hg w15 hbox hb; have n0_ := Aside0.mk (below_step (by repeat (with_reducible first | exact HB.out | apply below_alloc)) hb); have n1_ := Aside0.mk (hbox); have n2_ := Aside0.mk ((by rw [hg]; exact (below_size (by repeat (with_reducible first | exact HB.out | apply below_alloc))) : w.heap.size ≤ gb303)); have n3_ := Aside0.mk ((by rw [hg]; exact (below_size (by repeat (with_reducible first | exact HB.out | apply below_alloc))) : w.heap.size ≤ gb303)); clear HB; have HB := n0_; have BK303 := n1_; have GW303 := n2_; have GE303 := n3_; clear n0_ n1_ n2_ n3_; clear hb hbox hg; have hcz16_0 : w15.cell? ⟨gb303, 0, none⟩ = some (.string a0_0) := (blk_cell BK303.out 0).trans rfl; have hcz16_1 : w15.cell? ⟨gb303, 1, none⟩ = some (.string a0_1) := (blk_cell BK303.out 1).trans rfl; have hcz16_2 : w15.cell? ⟨gb303, 2, none⟩ = some (.string a0_2) := (blk_cell BK303.out 2).trans rfl; have hcz16_3 : w15.cell? ⟨gb303, 3, none⟩ = some (.int .i64 a0_3) := (blk_cell BK303.out 3).trans rfl; have hcz16_4 : w15.cell? ⟨gb303, 4, none⟩ = some (.slice A0_4 l0_4.length c0_4) := (blk_cell BK303.out 4).trans rfl; have hfz16_0 := blk_frozen BK303.out 0; have hfz16_1 := blk_frozen BK303.out 1; have hfz16_2 := blk_frozen BK303.out 2; have hfz16_3 := blk_frozen BK303.out 3; have hfz16_4 := blk_frozen BK303.out 4))
   all_goals first | (go_ret; exact ⟨by first | rfl | (simp [errW_none, errW_some]; done) | (simp [errW_none, errW_some]; rfl) | (simp [*, errW_none, errW_some]; done) | (simp [*, errW_none, errW_some]; rfl), by repeat (with_reducible first | exact HB.out | apply below_alloc | refine below_set ?_ GE303.out)⟩) | (exfalso; simp_all; done)
 ·
  rw [if_neg c2] at H
  have c2b0 : decide ((a0_0.size : Int) ≤ 30) = false := decide_eq_false c2
  have c2b1 : decide (a0_0.size ≤ 30) = false := decide_eq_false (by omega)
  clear c2
  obtain rfl := Option.some.inj H
  go_enter Try.func69, Try.ntmps69
  go_wp2_with (first | ((with_reducible refine gate_dst (N := 1) rfl ?_); (try (refine gate_guard (by rfl) ?_; dsimp only)); refine box_event ?hg (N := 1) ?hd (cs := #[.string a0_0, .string a0_1, .string a0_2, .int .i64 a0_3, .slice A0_4 l0_4.length c0_4]) (t := 77) ?hr ?_; (case hd => rfl); (case hg => rfl); (case hr => first | (go_simp; done) | (go_simp; rfl)); intro gb303 hg w17 hbox hb; have n0_ := Aside0.mk (below_step (by repeat (with_reducible first | exact HB.out | apply below_alloc)) hb); have n1_ := Aside0.mk (hbox); have n2_ := Aside0.mk ((by rw [hg]; exact (below_size (by repeat (with_reducible first | exact HB.out | apply below_alloc))) : w.heap.size ≤ gb303)); have n3_ := Aside0.mk ((by rw [hg]; exact (below_size (by repeat (with_reducible first | exact HB.out | apply below_alloc))) : w.heap.size ≤ gb303)); clear HB; have HB := n0_; have BK303 := n1_; have GW303 := n2_; have GE303 := n3_; clear n0_ n1_ n2_ n3_; clear hb hbox hg; have hcz18_0 : w17.cell? ⟨gb303, 0, none⟩ = some (.string a0_0) := (blk_cell BK303.out 0).trans rfl; have hcz18_1 : w17.cell? ⟨gb303, 1, none⟩ = some (.string a0_1) := (blk_cell BK303.out 1).trans rfl; have hcz18_2 : w17.cell? ⟨gb303, 2, none⟩ = some (.string a0_2) := (blk_cell BK303.out 2).trans rfl; have hcz18_3 : w17.cell? ⟨gb303, 3, none⟩ = some (.int .i64 a0_3) := (blk_cell BK303.out 3).trans rfl; have hcz18_4 : w17.cell? ⟨gb303, 4, none⟩ = some (.slice A0_4 l0_4.length c0_4) := (blk_cell BK303.out 4).trans rfl; have hfz18_0 := blk_frozen BK303.out 0; have hfz18_1 := blk_frozen BK303.out 1; have hfz18_2 := blk_frozen BK303.out 2; have hfz18_3 := blk_frozen BK303.out 3; have hfz18_4 := blk_frozen BK303.out 4))
  all_goals first | (go_ret; exact ⟨by first | rfl | (simp [errW_none, errW_some]; done) | (simp [errW_none, errW_some]; rfl) | (simp [*, errW_none, errW_some]; done) | (simp [*, errW_none, errW_some]; rfl), by repeat (with_reducible first | exact HB.out | apply below_alloc | refine below_set ?_ GE303.out)⟩) | (exfalso; simp_all; done)

end Go.Proofs.Ytpjkaodbcclecaa.PK
