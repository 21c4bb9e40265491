/- What functions of the given program come to: printed; Lean checks it. -/
import Derived.Test.YtpjkaodbcclecaaPKx0
import Derived.Test.YtpjkaodbcclecaaPKx2
namespace Go.Proofs.Ytpjkaodbcclecaa.PK
open Go.RowKit Go.Proofs.YtpjkaodbcclecaaW.PrintWords Go.Proofs.YtpjkaodbcclecaaW.PrintLast Go.Proofs.YtpjkaodbcclecaaW.PrintMore
attribute [local go_sem] max2_int min2_int max_two min_two max_three min_three max_four min_four
set_option linter.unusedVariables false
set_option linter.unusedSimpArgs false

/-! ### keys_good: function 65 -/
def keys_good.j0 : Nat → Int → Bool → Int → ByteArray → ByteArray → ByteArray → Int → Option (Bool)
 | 0, _, _, _, _, _, _, _ => none
 | k + 1, x3, x26, x118000, x118001, x118002, x118003, x118004 => if x26 = true then (some false) else (if x118003.toList = ([] : List UInt8) then (if (x118003.size : Int) > 60 then (some false) else (some ((decide (x118004 > 0)) == ((Go.bits .and .i64 x3 8) != 0)))) else (if (Go.bits .and .i64 x3 4) = 0 then (some false) else (if (x118003.size : Int) > 60 then (some false) else (some ((decide (x118004 > 0)) == ((Go.bits .and .i64 x3 8) != 0))))))
def keys_good.f (k : Nat) (a0_0 : Int) (a0_1 : ByteArray) (a0_2 : ByteArray) (a0_3 : ByteArray) (a0_4 : Int) : Option (Bool) := (keys_has.f k a0_0).bind fun t118 => (if t118 = 0 then (keys_good.j0 k t118 true a0_0 a0_1 a0_2 a0_3 a0_4) else ((keys_name.f a0_1 ((Go.bits .and .i64 t118 1) != 0)).bind fun t119 => (if t119 = true then ((keys_name.f a0_2 ((Go.bits .and .i64 t118 2) != 0)).bind fun t120 => (keys_good.j0 k t118 (!t120) a0_0 a0_1 a0_2 a0_3 a0_4)) else (keys_good.j0 k t118 true a0_0 a0_1 a0_2 a0_3 a0_4))))
theorem keys_good.mono_l : ∀ k, (∀ y0 y1 y2 y3 y4 y5 y6, LeO (keys_good.j0 k y0 y1 y2 y3 y4 y5 y6) (keys_good.j0 (k + 1) y0 y1 y2 y3 y4 y5 y6))
 | 0 => fun _ _ _ _ _ _ _ r h => by simp [keys_good.j0] at h
 | k + 1 => by
  have ih0 := keys_good.mono_l k
  ·
   intro y0 y1 y2 y3 y4 y5 y6
   unfold keys_good.j0
   repeat' first
   | (with_reducible exact ih0 _ _ _ _ _ _ _)
   | (with_reducible exact keys_has.mono _ _)
   | (with_reducible exact LeO.refl _)
   | (with_reducible exact LeO.none _)
   | (with_reducible refine LeO.ite ?_ ?_)
   | (with_reducible refine LeO.bind ?_ (fun _ => ?_))
   | exact ih0 _ _ _ _ _ _ _
   | exact keys_has.mono _ _
   | exact LeO.none _
   | refine LeO.ite ?_ ?_
   | refine LeO.bind ?_ (fun _ => ?_)
theorem keys_good.mono : ∀ a0 a1 a2 a3 a4 k, LeO (keys_good.f k a0 a1 a2 a3 a4) (keys_good.f (k + 1) a0 a1 a2 a3 a4) := by
 intro a0 a1 a2 a3 a4 k
 have ih0 := keys_good.mono_l k
 unfold keys_good.f
 repeat' first
   | (with_reducible exact ih0 _ _ _ _ _ _ _)
   | (with_reducible exact keys_has.mono _ _)
   | (with_reducible exact LeO.refl _)
   | (with_reducible exact LeO.none _)
   | (with_reducible refine LeO.ite ?_ ?_)
   | (with_reducible refine LeO.bind ?_ (fun _ => ?_))
   | exact ih0 _ _ _ _ _ _ _
   | exact keys_has.mono _ _
   | exact LeO.none _
   | refine LeO.ite ?_ ?_
   | refine LeO.bind ?_ (fun _ => ?_)
set_option maxHeartbeats 8000000 in
set_option maxRecDepth 100000 in
theorem keys_good.calls (k : Nat) (a0_0 : Int) (a0_1 : ByteArray) (a0_2 : ByteArray) (a0_3 : ByteArray) (a0_4 : Int) (r : Bool) (w : World) (h : keys_good.f k a0_0 a0_1 a0_2 a0_3 a0_4 = some r) :
  Calls Try.prog 65 #[.agg #[.int .i64 a0_0, .string a0_1, .string a0_2, .string a0_3, .int .u64 a0_4]] w fun e w' => e = .returned (.bool r) ∧ Below w.heap.size w w' := by
 have hu74 := Try.underlying74
 have HB := Aside0.mk (Below.refl w.heap.size w)
 have H : ((keys_has.f k a0_0).bind fun t118 => (if t118 = 0 then (keys_good.j0 k t118 true a0_0 a0_1 a0_2 a0_3 a0_4) else ((keys_name.f a0_1 ((Go.bits .and .i64 t118 1) != 0)).bind fun t119 => (if t119 = true then ((keys_name.f a0_2 ((Go.bits .and .i64 t118 2) != 0)).bind fun t120 => (keys_good.j0 k t118 (!t120) a0_0 a0_1 a0_2 a0_3 a0_4)) else (keys_good.j0 k t118 true a0_0 a0_1 a0_2 a0_3 a0_4))))) = some r := h
 clear h
 replace H := Option.bind_eq_some_iff.mp H
 obtain ⟨t118, A20, H⟩ := H
 replace H : (if t118 = 0 then (keys_good.j0 k t118 true a0_0 a0_1 a0_2 a0_3 a0_4) else ((keys_name.f a0_1 ((Go.bits .and .i64 t118 1) != 0)).bind fun t119 => (if t119 = true then ((keys_name.f a0_2 ((Go.bits .and .i64 t118 2) != 0)).bind fun t120 => (keys_good.j0 k t118 (!t120) a0_0 a0_1 a0_2 a0_3 a0_4)) else (keys_good.j0 k t118 true a0_0 a0_1 a0_2 a0_3 a0_4)))) = some r := H
 have A2 := Aside0.mk A20
 clear A20
 have HC3 := Aside0.mk H
 clear H
 go_enter Try.func65, Try.ntmps65
 go_upto_region 2 with (first | ((with_reducible refine gate_dst (N := 1) rfl ?_); (try (refine gate_guard (by rfl) ?_; dsimp only)); refine box_event ?hg (N := 1) ?hd (cs := #[.int .i64 a0_0, .string a0_1, .string a0_2, .string a0_3, .int .u64 a0_4]) (t := 74) ?hr ?_; (case hd => rfl); (case hg => rfl); (case hr => first | (go_simp; done) | (go_simp; rfl)); intro gb117 hg w4 hbox hb; have n0_ := Aside0.mk (below_step (by repeat (with_reducible first | exact HB.out | apply below_alloc | apply pw_below_drewN | apply below_drew1)) hb); have n1_ := Aside0.mk (hbox); have n2_ := Aside0.mk ((by rw [hg]; exact (below_size (by repeat (with_reducible first | exact HB.out | apply below_alloc | apply pw_below_drewN | apply below_drew1))) : w.heap.size ≤ gb117)); have n3_ := Aside0.mk ((by rw [hg]; exact (below_size (by repeat (with_reducible first | exact HB.out | apply below_alloc | apply pw_below_drewN | apply below_drew1))) : w.heap.size ≤ gb117)); clear HB; have HB := n0_; have BK117 := n1_; have GW117 := n2_; have GE117 := n3_; clear n0_ n1_ n2_ n3_; clear hb hbox hg; have hcz5_0 : w4.cell? ⟨gb117, 0, none⟩ = some (.int .i64 a0_0) := (blk_cell BK117.out 0).trans rfl; have hcz5_1 : w4.cell? ⟨gb117, 1, none⟩ = some (.string a0_1) := (blk_cell BK117.out 1).trans rfl; have hcz5_2 : w4.cell? ⟨gb117, 2, none⟩ = some (.string a0_2) := (blk_cell BK117.out 2).trans rfl; have hcz5_3 : w4.cell? ⟨gb117, 3, none⟩ = some (.string a0_3) := (blk_cell BK117.out 3).trans rfl; have hcz5_4 : w4.cell? ⟨gb117, 4, none⟩ = some (.int .u64 a0_4) := (blk_cell BK117.out 4).trans rfl; have hfz5_0 := blk_frozen BK117.out 0; have hfz5_1 := blk_frozen BK117.out 1; have hfz5_2 := blk_frozen BK117.out 2; have hfz5_3 := blk_frozen BK117.out 3; have hfz5_4 := blk_frozen BK117.out 4) | ((with_reducible refine gate_callee (f := 66) rfl ?_); refine goesL_ (some 6) rfl rfl Try.func66 (by kernel_rfl) rfl #[.int .i64 a0_0] rfl (by (try simp only [List.map_toArray, List.map_cons, List.map_nil]); first | done | rfl | (simp only [List.length_drop, List.length_take]; rfl)) ?_; (with_reducible refine (keys_has.calls k a0_0 t118 _ A2.out).mono ?_); rintro e w' ⟨rfl, ⟨nd, rfl⟩⟩; refine ⟨_, rfl, ?_⟩))
 (try simp only [Act.put, List.setIfInBounds_toArray, List.set_cons_zero, List.set_cons_succ])
 go_cut [26] (fun v26 wc => ∃ (kq : Nat) (x26_2 : Bool), v26 = .bool x26_2 ∧ Aside0 (keys_good.j0 kq t118 x26_2 a0_0 a0_1 a0_2 a0_3 a0_4 = some r) ∧ Aside0 (kq ≤ k) ∧ Aside0 (wc.heap[gb117]? = some (.cells #[.int .i64 a0_0, .string a0_1, .string a0_2, .string a0_3, .int .u64 a0_4] 74 (0, 0))) ∧ Aside0 (Below w.heap.size w wc))
 case first =>
  have H := HC3.out
  clear HC3
  by_cases c6 : t118 = 0
  ·
   rw [if_pos c6] at H
   have c6b0 : (t118 == 0) = true := beq_iff_eq.mpr c6
   have c6b1 : (t118 != 0) = false := bne_eq_false_iff_eq.mpr c6
   clear c6
   (first | rw [c6b0] | rw [c6b2] | rw [c6b1] | (simp only [i64_w, i32_w]; rw [c6b0]) | skip)
   have H' := Aside0.mk H
   clear H
   go_wp2
   go_meet
   case rel => exact ⟨_, (true), (by first | rfl | (simp; done) | (simp [*]; done)), H', ⟨by first | omega | exact Nat.le_refl _⟩, ⟨by exact BK117.out⟩, ⟨by repeat (with_reducible first | exact HB.out | apply below_alloc | apply pw_below_drewN | apply below_drew1 | refine below_set ?_ GE117.out)⟩⟩
  ·
   rw [if_neg c6] at H
   have c6b0 : (t118 == 0) = false := beq_eq_false_iff_ne.mpr c6
   have c6b1 : (t118 != 0) = true := bne_iff_ne.mpr c6
   (first | rw [c6b0] | rw [c6b2] | rw [c6b1] | (simp only [i64_w, i32_w]; rw [c6b0]) | skip)
   replace H := Option.bind_eq_some_iff.mp H
   obtain ⟨t119, A70, H⟩ := H
   replace H : (if t119 = true then ((keys_name.f a0_2 ((Go.bits .and .i64 t118 2) != 0)).bind fun t120 => (keys_good.j0 k t118 (!t120) a0_0 a0_1 a0_2 a0_3 a0_4)) else (keys_good.j0 k t118 true a0_0 a0_1 a0_2 a0_3 a0_4)) = some r := H
   have A7 := Aside0.mk A70
   clear A70
   by_cases c8 : t119 = true
   ·
    subst c8
    have H1 : ((keys_name.f a0_2 ((Go.bits .and .i64 t118 2) != 0)).bind fun t120 => (keys_good.j0 k t118 (!t120) a0_0 a0_1 a0_2 a0_3 a0_4)) = some r := by rw [if_pos rfl] at H; exact H
    clear H
    have H := H1
    clear H1
    replace H := Option.bind_eq_some_iff.mp H
    obtain ⟨t120, A90, H⟩ := H
    replace H : (keys_good.j0 k t118 (!t120) a0_0 a0_1 a0_2 a0_3 a0_4) = some r := H
    have A9 := Aside0.mk A90
    clear A90
    have H' := Aside0.mk H
    clear H
    have hcz10_0 : w4.cell? ⟨gb117, 0, none⟩ = some (.int .i64 a0_0) := (blk_cell BK117.out 0).trans rfl
    have hcz10_1 : w4.cell? ⟨gb117, 1, none⟩ = some (.string a0_1) := (blk_cell BK117.out 1).trans rfl
    have hcz10_2 : w4.cell? ⟨gb117, 2, none⟩ = some (.string a0_2) := (blk_cell BK117.out 2).trans rfl
    have hcz10_3 : w4.cell? ⟨gb117, 3, none⟩ = some (.string a0_3) := (blk_cell BK117.out 3).trans rfl
    have hcz10_4 : w4.cell? ⟨gb117, 4, none⟩ = some (.int .u64 a0_4) := (blk_cell BK117.out 4).trans rfl
    have hfz10_0 := blk_frozen BK117.out 0
    have hfz10_1 := blk_frozen BK117.out 1
    have hfz10_2 := blk_frozen BK117.out 2
    have hfz10_3 := blk_frozen BK117.out 3
    have hfz10_4 := blk_frozen BK117.out 4
    go_wp2_with (first | (go_at_call 76; (with_reducible refine (keys_name.calls a0_1 ((Go.bits .and .i64 t118 1) != 0) true _ A7.out).mono ?_); rintro e w' ⟨rfl, ⟨nd, rfl⟩⟩) | (go_at_call 76; (with_reducible refine (keys_name.calls a0_2 ((Go.bits .and .i64 t118 2) != 0) t120 _ A9.out).mono ?_); rintro e w' ⟨rfl, ⟨nd, rfl⟩⟩))
    go_meet
    case rel => exact ⟨_, (!t120), (by first | rfl | (simp; done) | (simp [*]; done)), H', ⟨by first | omega | exact Nat.le_refl _⟩, ⟨by exact BK117.out⟩, ⟨by repeat (with_reducible first | exact HB.out | apply below_alloc | apply pw_below_drewN | apply below_drew1 | refine below_set ?_ GE117.out)⟩⟩
   ·
    replace c8 := Bool.eq_false_iff.mpr c8
    subst c8
    have H1 : (keys_good.j0 k t118 true a0_0 a0_1 a0_2 a0_3 a0_4) = some r := by rw [if_neg (show ¬ (false = true) by decide)] at H; exact H
    clear H
    have H := H1
    clear H1
    have H' := Aside0.mk H
    clear H
    have hcz11_0 : w4.cell? ⟨gb117, 0, none⟩ = some (.int .i64 a0_0) := (blk_cell BK117.out 0).trans rfl
    have hcz11_1 : w4.cell? ⟨gb117, 1, none⟩ = some (.string a0_1) := (blk_cell BK117.out 1).trans rfl
    have hcz11_2 : w4.cell? ⟨gb117, 2, none⟩ = some (.string a0_2) := (blk_cell BK117.out 2).trans rfl
    have hcz11_3 : w4.cell? ⟨gb117, 3, none⟩ = some (.string a0_3) := (blk_cell BK117.out 3).trans rfl
    have hcz11_4 : w4.cell? ⟨gb117, 4, none⟩ = some (.int .u64 a0_4) := (blk_cell BK117.out 4).trans rfl
    have hfz11_0 := blk_frozen BK117.out 0
    have hfz11_1 := blk_frozen BK117.out 1
    have hfz11_2 := blk_frozen BK117.out 2
    have hfz11_3 := blk_frozen BK117.out 3
    have hfz11_4 := blk_frozen BK117.out 4
    go_wp2_with (first | (go_at_call 76; (with_reducible refine (keys_name.calls a0_1 ((Go.bits .and .i64 t118 1) != 0) false _ A7.out).mono ?_); rintro e w' ⟨rfl, ⟨nd, rfl⟩⟩))
    go_meet
    case rel => exact ⟨_, (true), (by first | rfl | (simp; done) | (simp [*]; done)), H', ⟨by first | omega | exact Nat.le_refl _⟩, ⟨by exact BK117.out⟩, ⟨by repeat (with_reducible first | exact HB.out | apply below_alloc | apply pw_below_drewN | apply below_drew1 | refine below_set ?_ GE117.out)⟩⟩
 case rest =>
  clear HC3
  (try clear p2); (try clear c6); (try clear c6b0); (try clear c6b1); (try clear c8); (try clear hcz10_0); (try clear hcz10_1); (try clear hcz10_2); (try clear hcz10_3); (try clear hcz10_4); (try clear hcz11_0); (try clear hcz11_1); (try clear hcz11_2); (try clear hcz11_3); (try clear hcz11_4); (try clear hcz5_0); (try clear hcz5_1); (try clear hcz5_2); (try clear hcz5_3); (try clear hcz5_4); (try clear hfz10_0); (try clear hfz10_1); (try clear hfz10_2); (try clear hfz10_3); (try clear hfz10_4); (try clear hfz11_0); (try clear hfz11_1); (try clear hfz11_2); (try clear hfz11_3); (try clear hfz11_4); (try clear hfz5_0); (try clear hfz5_1); (try clear hfz5_2); (try clear hfz5_3); (try clear hfz5_4)
  obtain ⟨kq, x26_2, rfl, HA, HJ2, BK117, HB⟩ := hcut
  cases kq with
  | zero => exact absurd HA.out (by simp [keys_good.j0])
  | succ kj2 =>
   have H := HA.out
   clear HA
   simp only [keys_good.j0] at H
   by_cases c12 : x26_2 = true
   ·
    subst c12
    have H1 : (some false) = some r := by rw [if_pos rfl] at H; exact H
    clear H
    have H := H1
    clear H1
    obtain rfl := Option.some.inj H
    go_wp2
    all_goals first | (go_ret; exact ⟨by first | rfl | (simp [errW_none, errW_some]; done) | (simp [errW_none, errW_some]; rfl) | (simp [*, errW_none, errW_some]; done) | (simp [*, errW_none, errW_some]; rfl), by repeat (with_reducible first | exact HB.out | apply below_alloc | apply pw_below_drewN | apply below_drew1 | refine below_set ?_ GE117.out)⟩) | (exfalso; simp_all; done)
   ·
    replace c12 := Bool.eq_false_iff.mpr c12
    subst c12
    have H1 : (if a0_3.toList = ([] : List UInt8) then (if (a0_3.size : Int) > 60 then (some false) else (some ((decide (a0_4 > 0)) == ((Go.bits .and .i64 t118 8) != 0)))) else (if (Go.bits .and .i64 t118 4) = 0 then (some false) else (if (a0_3.size : Int) > 60 then (some false) else (some ((decide (a0_4 > 0)) == ((Go.bits .and .i64 t118 8) != 0)))))) = some r := by rw [if_neg (show ¬ (false = true) by decide)] at H; exact H
    clear H
    have H := H1
    clear H1
    by_cases c13 : a0_3.toList = ([] : List UInt8)
    ·
     rw [if_pos c13] at H
     have c13b0 : (a0_3.toList == ([] : List UInt8)) = true := beq_iff_eq.mpr c13
     have c13b1 : (a0_3.toList != ([] : List UInt8)) = false := bne_eq_false_iff_eq.mpr c13
     (try (have c13b2 : a0_3.toList.isEmpty = true := by simpa using c13))
     (try (have c13b3 : (!a0_3.toList.isEmpty) = false := by simpa using c13))
     clear c13
     by_cases c14 : (a0_3.size : Int) > 60
     ·
      rw [if_pos c14] at H
      have c14b0 : decide (60 < (a0_3.size : Int)) = true := decide_eq_true c14
      have c14b1 : decide (60 < a0_3.size) = true := decide_eq_true (by omega)
      clear c14
      obtain rfl := Option.some.inj H
      have hcz15_0 : wc.cell? ⟨gb117, 0, none⟩ = some (.int .i64 a0_0) := (blk_cell BK117.out 0).trans rfl
      have hcz15_1 : wc.cell? ⟨gb117, 1, none⟩ = some (.string a0_1) := (blk_cell BK117.out 1).trans rfl
      have hcz15_2 : wc.cell? ⟨gb117, 2, none⟩ = some (.string a0_2) := (blk_cell BK117.out 2).trans rfl
      have hcz15_3 : wc.cell? ⟨gb117, 3, none⟩ = some (.string a0_3) := (blk_cell BK117.out 3).trans rfl
      have hcz15_4 : wc.cell? ⟨gb117, 4, none⟩ = some (.int .u64 a0_4) := (blk_cell BK117.out 4).trans rfl
      have hfz15_0 := blk_frozen BK117.out 0
      have hfz15_1 := blk_frozen BK117.out 1
      have hfz15_2 := blk_frozen BK117.out 2
      have hfz15_3 := blk_frozen BK117.out 3
      have hfz15_4 := blk_frozen BK117.out 4
      go_wp2
      all_goals first | (go_ret; exact ⟨by first | rfl | (simp [errW_none, errW_some]; done) | (simp [errW_none, errW_some]; rfl) | (simp [*, errW_none, errW_some]; done) | (simp [*, errW_none, errW_some]; rfl), by repeat (with_reducible first | exact HB.out | apply below_alloc | apply pw_below_drewN | apply below_drew1 | refine below_set ?_ GE117.out)⟩) | (exfalso; simp_all; done)
     ·
      rw [if_neg c14] at H
      have c14b0 : decide (60 < (a0_3.size : Int)) = false := decide_eq_false c14
      have c14b1 : decide (60 < a0_3.size) = false := decide_eq_false (by omega)
      clear c14
      obtain rfl := Option.some.inj H
      have hcz16_0 : wc.cell? ⟨gb117, 0, none⟩ = some (.int .i64 a0_0) := (blk_cell BK117.out 0).trans rfl
      have hcz16_1 : wc.cell? ⟨gb117, 1, none⟩ = some (.string a0_1) := (blk_cell BK117.out 1).trans rfl
      have hcz16_2 : wc.cell? ⟨gb117, 2, none⟩ = some (.string a0_2) := (blk_cell BK117.out 2).trans rfl
      have hcz16_3 : wc.cell? ⟨gb117, 3, none⟩ = some (.string a0_3) := (blk_cell BK117.out 3).trans rfl
      have hcz16_4 : wc.cell? ⟨gb117, 4, none⟩ = some (.int .u64 a0_4) := (blk_cell BK117.out 4).trans rfl
      have hfz16_0 := blk_frozen BK117.out 0
      have hfz16_1 := blk_frozen BK117.out 1
      have hfz16_2 := blk_frozen BK117.out 2
      have hfz16_3 := blk_frozen BK117.out 3
      have hfz16_4 := blk_frozen BK117.out 4
      go_wp2
      all_goals first | (go_ret; exact ⟨by first | rfl | (simp [errW_none, errW_some]; done) | (simp [errW_none, errW_some]; rfl) | (simp [*, errW_none, errW_some]; done) | (simp [*, errW_none, errW_some]; rfl), by repeat (with_reducible first | exact HB.out | apply below_alloc | apply pw_below_drewN | apply below_drew1 | refine below_set ?_ GE117.out)⟩) | (exfalso; simp_all; done)
    ·
     rw [if_neg c13] at H
     have c13b0 : (a0_3.toList == ([] : List UInt8)) = false := beq_eq_false_iff_ne.mpr c13
     have c13b1 : (a0_3.toList != ([] : List UInt8)) = true := bne_iff_ne.mpr c13
     (try (have c13b2 : a0_3.toList.isEmpty = false := by simpa using c13))
     (try (have c13b3 : (!a0_3.toList.isEmpty) = true := by simpa using c13))
     by_cases c17 : (Go.bits .and .i64 t118 4) = 0
     ·
      rw [if_pos c17] at H
      have c17b0 : ((Go.bits .and .i64 t118 4) == 0) = true := beq_iff_eq.mpr c17
      have c17b1 : ((Go.bits .and .i64 t118 4) != 0) = false := bne_eq_false_iff_eq.mpr c17
      clear c17
      obtain rfl := Option.some.inj H
      have hcz18_0 : wc.cell? ⟨gb117, 0, none⟩ = some (.int .i64 a0_0) := (blk_cell BK117.out 0).trans rfl
      have hcz18_1 : wc.cell? ⟨gb117, 1, none⟩ = some (.string a0_1) := (blk_cell BK117.out 1).trans rfl
      have hcz18_2 : wc.cell? ⟨gb117, 2, none⟩ = some (.string a0_2) := (blk_cell BK117.out 2).trans rfl
      have hcz18_3 : wc.cell? ⟨gb117, 3, none⟩ = some (.string a0_3) := (blk_cell BK117.out 3).trans rfl
      have hcz18_4 : wc.cell? ⟨gb117, 4, none⟩ = some (.int .u64 a0_4) := (blk_cell BK117.out 4).trans rfl
      have hfz18_0 := blk_frozen BK117.out 0
      have hfz18_1 := blk_frozen BK117.out 1
      have hfz18_2 := blk_frozen BK117.out 2
      have hfz18_3 := blk_frozen BK117.out 3
      have hfz18_4 := blk_frozen BK117.out 4
      go_wp2
      all_goals first | (go_ret; exact ⟨by first | rfl | (simp [errW_none, errW_some]; done) | (simp [errW_none, errW_some]; rfl) | (simp [*, errW_none, errW_some]; done) | (simp [*, errW_none, errW_some]; rfl), by repeat (with_reducible first | exact HB.out | apply below_alloc | apply pw_below_drewN | apply below_drew1 | refine below_set ?_ GE117.out)⟩) | (exfalso; simp_all; done)
     ·
      rw [if_neg c17] at H
      have c17b0 : ((Go.bits .and .i64 t118 4) == 0) = false := beq_eq_false_iff_ne.mpr c17
      have c17b1 : ((Go.bits .and .i64 t118 4) != 0) = true := bne_iff_ne.mpr c17
      by_cases c19 : (a0_3.size : Int) > 60
      ·
       rw [if_pos c19] at H
       have c19b0 : decide (60 < (a0_3.size : Int)) = true := decide_eq_true c19
       have c19b1 : decide (60 < a0_3.size) = true := decide_eq_true (by omega)
       clear c19
       obtain rfl := Option.some.inj H
       have hcz20_0 : wc.cell? ⟨gb117, 0, none⟩ = some (.int .i64 a0_0) := (blk_cell BK117.out 0).trans rfl
       have hcz20_1 : wc.cell? ⟨gb117, 1, none⟩ = some (.string a0_1) := (blk_cell BK117.out 1).trans rfl
       have hcz20_2 : wc.cell? ⟨gb117, 2, none⟩ = some (.string a0_2) := (blk_cell BK117.out 2).trans rfl
       have hcz20_3 : wc.cell? ⟨gb117, 3, none⟩ = some (.string a0_3) := (blk_cell BK117.out 3).trans rfl
       have hcz20_4 : wc.cell? ⟨gb117, 4, none⟩ = some (.int .u64 a0_4) := (blk_cell BK117.out 4).trans rfl
       have hfz20_0 := blk_frozen BK117.out 0
       have hfz20_1 := blk_frozen BK117.out 1
       have hfz20_2 := blk_frozen BK117.out 2
       have hfz20_3 := blk_frozen BK117.out 3
       have hfz20_4 := blk_frozen BK117.out 4
       go_wp2
       all_goals first | (go_ret; exact ⟨by first | rfl | (simp [errW_none, errW_some]; done) | (simp [errW_none, errW_some]; rfl) | (simp [*, errW_none, errW_some]; done) | (simp [*, errW_none, errW_some]; rfl), by repeat (with_reducible first | exact HB.out | apply below_alloc | apply pw_below_drewN | apply below_drew1 | refine below_set ?_ GE117.out)⟩) | (exfalso; simp_all; done)
      ·
       rw [if_neg c19] at H
       have c19b0 : decide (60 < (a0_3.size : Int)) = false := decide_eq_false c19
       have c19b1 : decide (60 < a0_3.size) = false := decide_eq_false (by omega)
       clear c19
       obtain rfl := Option.some.inj H
       have hcz21_0 : wc.cell? ⟨gb117, 0, none⟩ = some (.int .i64 a0_0) := (blk_cell BK117.out 0).trans rfl
       have hcz21_1 : wc.cell? ⟨gb117, 1, none⟩ = some (.string a0_1) := (blk_cell BK117.out 1).trans rfl
       have hcz21_2 : wc.cell? ⟨gb117, 2, none⟩ = some (.string a0_2) := (blk_cell BK117.out 2).trans rfl
       have hcz21_3 : wc.cell? ⟨gb117, 3, none⟩ = some (.string a0_3) := (blk_cell BK117.out 3).trans rfl
       have hcz21_4 : wc.cell? ⟨gb117, 4, none⟩ = some (.int .u64 a0_4) := (blk_cell BK117.out 4).trans rfl
       have hfz21_0 := blk_frozen BK117.out 0
       have hfz21_1 := blk_frozen BK117.out 1
       have hfz21_2 := blk_frozen BK117.out 2
       have hfz21_3 := blk_frozen BK117.out 3
       have hfz21_4 := blk_frozen BK117.out 4
       go_wp2
       all_goals first | (go_ret; exact ⟨by first | rfl | (simp [errW_none, errW_some]; done) | (simp [errW_none, errW_some]; rfl) | (simp [*, errW_none, errW_some]; done) | (simp [*, errW_none, errW_some]; rfl), by repeat (with_reducible first | exact HB.out | apply below_alloc | apply pw_below_drewN | apply below_drew1 | refine below_set ?_ GE117.out)⟩) | (exfalso; simp_all; done)

end Go.Proofs.Ytpjkaodbcclecaa.PK
