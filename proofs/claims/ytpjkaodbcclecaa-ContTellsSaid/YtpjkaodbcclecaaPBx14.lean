/- What functions of the given program come to, and that they do: written out of the translation by a program of this session; Lean checks it. -/
import Derived.Test.YtpjkaodbcclecaaPBx0
import Derived.Test.YtpjkaodbcclecaaPBx1
import Derived.Test.YtpjkaodbcclecaaPBx3
import Derived.Test.YtpjkaodbcclecaaPBx6
import Derived.Test.YtpjkaodbcclecaaPBx7
import Derived.Test.YtpjkaodbcclecaaPBx8
import Derived.Test.YtpjkaodbcclecaaPBx10
import Derived.Test.YtpjkaodbcclecaaPBx12
import Derived.Test.YtpjkaodbcclecaaPBx13
import Derived.Test.YtpjkaodbcclecaaPBx14a
namespace Go.Proofs.Ytpjkaodbcclecaa.PB
open Go.RowKit Go.Proofs.YtpjkaodbcclecaaW.PrintWords Go.Proofs.YtpjkaodbcclecaaW.PrintLast Go.Proofs.YtpjkaodbcclecaaW.PrintMore
attribute [local go_sem] max2_int min2_int max_two min_two max_three min_three max_four min_four   -- for this text's walks alone
set_option linter.unusedVariables false
set_option linter.unusedSimpArgs false

attribute [local go_sem high] eqA25
def waybilllaw5_ContTells.T19 : Bool × List (List Nat × List Nat) := (true, [([], []), ([], []), ([], []), ([], []), ([3], [3]), ([], []), ([5], [5]), ([4, 6], [4, 6]), ([7], [7]), ([2, 8], [2, 8]), ([], []), ([], []), ([11], [11]), ([10, 12], [10, 12]), ([], []), ([14], [14]), ([13, 15, 13], [13, 15]), ([0, 1, 9, 16], [0, 1, 9, 16]), ([], []), ([17, 18], [17, 18]), ([19], [19]), ([20, 16, 0, 1, 2, 3, 4, 5, 6, 7, 8, 9, 10, 11, 12, 13, 14, 15, 16, 17, 18, 19, 20], [20])])
def waybilllaw5_ContTells.B19 : List Nat := [0, 0, 0, 0, 8, 0, 32, 120, 248, 508, 0, 0, 2048, 7168, 0, 16384, 64512, 131071, 0, 524287, 1048575, 2097151]
theorem waybilllaw5_ContTells.tab19 : rtab .any (opsOf Try.f8 19) = waybilllaw5_ContTells.T19 := by kernel_rfl
theorem waybilllaw5_ContTells.bits19 : waitsOk waybilllaw5_ContTells.T19.2 waybilllaw5_ContTells.B19 = true := by kernel_rfl
set_option maxHeartbeats 8000000 in
set_option maxRecDepth 100000 in
theorem waybilllaw5_ContTells.calls (k : Nat) (P0_ : Nat → Prop) (A0 : Option Addr) (c0 : Nat) (l0 : List Int) (a1_0 : Int) (a1_1 : Int) (a1_2 : ByteArray) (a2 : Int) (a3 : Int) (a4 : Int) (a5 : Int) (A6 : Option Addr) (c6 : Nat) (l6 : List Int) (r : Bool) (w : World) (hs0 : Kd.V (Kd.int .u8) 5 w w.heap.size (fun k_ => P0_ k_) (.slice A0 l0.length c0) l0) (hr6 : Kd.C (Kd.int .u8) w A6 l6.length l6) (hc6 : l6.length ≤ c6) (h : waybilllaw5_ContTells.f k l0 a1_0 a1_1 a1_2 a2 a3 a4 a5 l6 = some r) :
  Calls Try.prog 8 #[.slice A0 l0.length c0, .agg #[.int .u64 a1_0, .int .i64 a1_1, .string a1_2], .int .i64 a2, .int .u8 a3, .int .i64 a4, .int .i64 a5, .slice A6 l6.length c6] w fun e w' => e = .returned (.bool r) ∧ Below w.heap.size w w' := by
 have hu25 := Try.underlying25
 have HO0 := Aside0.mk (show Kd.V (Kd.int .u8) 5 w w.heap.size (fun k_ => (P0_ k_ ∨ w.heap.size ≤ k_)) (.slice A0 l0.length c0) l0 from Kd.V_mono hs0 (fun k_ hk => .inl hk))
 have HR6 := Aside0.mk hr6
 have HC6 := Aside0.mk hc6
 clear hr6 hc6
 have HB := Aside0.mk (Below.refl w.heap.size w)
 have H : (if (l0.length : Int) > 400 then (waybilllaw5_ContTells.j0 k l0 a2 a3 a4 a5 l6 true a1_0 a1_1 a1_2) else (if (a1_2.size : Int) > 400 then (waybilllaw5_ContTells.j0 k l0 a2 a3 a4 a5 l6 true a1_0 a1_1 a1_2) else (waybilllaw5_ContTells.j0 k l0 a2 a3 a4 a5 l6 (decide ((l6.length : Int) > 11000)) a1_0 a1_1 a1_2))) = some r := h
 clear h
 have HC8 := Aside0.mk H
 clear H
 go_enter Try.func8, Try.ntmps8
 go_upto_region 1 with (first | ((with_reducible refine gate_dst (N := 8) rfl ?_); (try (refine gate_guard (by rfl) ?_; dsimp only)); refine box_event ?hg (N := 8) ?hd (cs := #[.int .u64 a1_0, .int .i64 a1_1, .string a1_2]) (t := 25) ?hr ?_; (case hd => rfl); (case hg => rfl); (case hr => first | (go_simp; done) | (go_simp; rfl)); intro gb362 hg w9 hbox hb; have n0_ := Aside0.mk (Kd.V_below (Kd.V_elderB (by (with_reducible repeat (first | apply Kd.V_alloc | apply Kd.V_drewN | apply Kd.V_drew)); exact HO0.out) gb362 (Nat.le_of_eq hg.symm)) hb); have n1_ := Aside0.mk (below_step (by repeat (first | (with_reducible first | exact HB.out | apply below_alloc | apply pw_below_drewN | apply below_drew1) | exact HB.out)) hb); have n2_ := Aside0.mk (hbox); have n3_ := Aside0.mk ((by rw [hg]; exact (below_size (by repeat (first | (with_reducible first | exact HB.out | apply below_alloc | apply pw_below_drewN | apply below_drew1) | exact HB.out))) : w.heap.size ≤ gb362)); have n4_ := Aside0.mk ((by rw [hg]; exact (below_size (by repeat (first | (with_reducible first | exact HB.out | apply below_alloc | apply pw_below_drewN | apply below_drew1) | exact HB.out))) : w.heap.size ≤ gb362)); clear HO0; clear HB; have HO0 := n0_; have HB := n1_; have BK362 := n2_; have GW362 := n3_; have GE362 := n4_; clear n0_ n1_ n2_ n3_ n4_; clear hb hbox hg))
 (try simp only [Act.put, List.setIfInBounds_toArray, List.set_cons_zero, List.set_cons_succ])
 go_cut [43] (fun v43 wc => ∃ (kq : Nat) (x43_7 : Bool), v43 = .bool x43_7 ∧ Aside0 (waybilllaw5_ContTells.j0 kq l0 a2 a3 a4 a5 l6 x43_7 a1_0 a1_1 a1_2 = some r) ∧ Aside0 (kq ≤ k) ∧ Aside0 (Kd.V (Kd.int .u8) 5 wc w.heap.size (fun k_ => (P0_ k_ ∨ w.heap.size ≤ k_) ∧ k_ ≠ gb362) (.slice A0 l0.length c0) l0) ∧ Aside0 (wc.heap[gb362]? = some (.cells #[.int .u64 a1_0, .int .i64 a1_1, .string a1_2] 25 (0, 0))) ∧ Aside0 (Below w.heap.size w wc))
 case first => as_aux_lemma =>
  have H := HC8.out
  clear HC8
  by_cases c10 : (l0.length : Int) > 400
  ·
   rw [if_pos c10] at H
   have c10b0 : decide (400 < (l0.length : Int)) = true := decide_eq_true c10
   have c10b1 : decide (400 < l0.length) = true := decide_eq_true (by omega)
   clear c10
   (first | rw [c10b0] | rw [c10b2] | rw [c10b1] | (simp only [i64_w, i32_w]; rw [c10b0]) | skip)
   have H' := Aside0.mk H
   clear H
   go_wp2
   go_meet
   case rel => exact ⟨_, (true), (by first | rfl | (simp; done) | (simp [*]; done)), H', ⟨by first | omega | exact Nat.le_refl _⟩, ⟨by (with_reducible repeat (first | apply Kd.V_alloc | apply Kd.V_drewN | apply Kd.V_drew)); exact HO0.out⟩, ⟨by (with_reducible repeat (first | refine blk_drewN ?_ _ | refine blk_drew ?_ | refine blk_alloc ?_ _)); exact BK362.out⟩, ⟨by repeat (first | (with_reducible first | exact HB.out | apply below_alloc | apply pw_below_drewN | apply below_drew1 | refine below_set ?_ GE362.out) | exact HB.out)⟩⟩
  ·
   rw [if_neg c10] at H
   have c10b0 : decide (400 < (l0.length : Int)) = false := decide_eq_false c10
   have c10b1 : decide (400 < l0.length) = false := decide_eq_false (by omega)
   clear c10
   (first | rw [c10b0] | rw [c10b2] | rw [c10b1] | (simp only [i64_w, i32_w]; rw [c10b0]) | skip)
   by_cases c11 : (a1_2.size : Int) > 400
   ·
    rw [if_pos c11] at H
    have c11b0 : decide (400 < (a1_2.size : Int)) = true := decide_eq_true c11
    have c11b1 : decide (400 < a1_2.size) = true := decide_eq_true (by omega)
    clear c11
    have H' := Aside0.mk H
    clear H
    have hcz12_0 : w9.cell? ⟨gb362, 0, none⟩ = some (.int .u64 a1_0) := (blk_cell BK362.out 0).trans rfl
    have hcz12_1 : w9.cell? ⟨gb362, 1, none⟩ = some (.int .i64 a1_1) := (blk_cell BK362.out 1).trans rfl
    have hcz12_2 : w9.cell? ⟨gb362, 2, none⟩ = some (.string a1_2) := (blk_cell BK362.out 2).trans rfl
    have hfz12_0 := blk_frozen BK362.out 0
    have hfz12_1 := blk_frozen BK362.out 1
    have hfz12_2 := blk_frozen BK362.out 2
    go_wp2
    go_meet
    case rel => exact ⟨_, (true), (by first | rfl | (simp; done) | (simp [*]; done)), H', ⟨by first | omega | exact Nat.le_refl _⟩, ⟨by (with_reducible repeat (first | apply Kd.V_alloc | apply Kd.V_drewN | apply Kd.V_drew)); exact HO0.out⟩, ⟨by (with_reducible repeat (first | refine blk_drewN ?_ _ | refine blk_drew ?_ | refine blk_alloc ?_ _)); exact BK362.out⟩, ⟨by repeat (first | (with_reducible first | exact HB.out | apply below_alloc | apply pw_below_drewN | apply below_drew1 | refine below_set ?_ GE362.out) | exact HB.out)⟩⟩
   ·
    rw [if_neg c11] at H
    have c11b0 : decide (400 < (a1_2.size : Int)) = false := decide_eq_false c11
    have c11b1 : decide (400 < a1_2.size) = false := decide_eq_false (by omega)
    clear c11
    have H' := Aside0.mk H
    clear H
    have hcz13_0 : w9.cell? ⟨gb362, 0, none⟩ = some (.int .u64 a1_0) := (blk_cell BK362.out 0).trans rfl
    have hcz13_1 : w9.cell? ⟨gb362, 1, none⟩ = some (.int .i64 a1_1) := (blk_cell BK362.out 1).trans rfl
    have hcz13_2 : w9.cell? ⟨gb362, 2, none⟩ = some (.string a1_2) := (blk_cell BK362.out 2).trans rfl
    have hfz13_0 := blk_frozen BK362.out 0
    have hfz13_1 := blk_frozen BK362.out 1
    have hfz13_2 := blk_frozen BK362.out 2
    go_wp2
    go_meet
    case rel => exact ⟨_, (decide ((l6.length : Int) > 11000)), (by first | rfl | (simp; done) | (simp [*]; done)), H', ⟨by first | omega | exact Nat.le_refl _⟩, ⟨by (with_reducible repeat (first | apply Kd.V_alloc | apply Kd.V_drewN | apply Kd.V_drew)); exact HO0.out⟩, ⟨by (with_reducible repeat (first | refine blk_drewN ?_ _ | refine blk_drew ?_ | refine blk_alloc ?_ _)); exact BK362.out⟩, ⟨by repeat (first | (with_reducible first | exact HB.out | apply below_alloc | apply pw_below_drewN | apply below_drew1 | refine below_set ?_ GE362.out) | exact HB.out)⟩⟩
 case rest => as_aux_lemma =>
  clear HC8
  try clear c1
  try clear p2
  try clear c6
  try clear c8
  try clear c10
  try clear c10b0
  try clear c10b1
  try clear c11
  try clear c11b0
  try clear c11b1
  try clear hcz12_0
  try clear hcz12_1
  try clear hcz12_2
  try clear hcz13_0
  try clear hcz13_1
  try clear hcz13_2
  try clear hfz12_0
  try clear hfz12_1
  try clear hfz12_2
  try clear hfz13_0
  try clear hfz13_1
  try clear hfz13_2
  obtain ⟨kq, x43_7, rfl, HA, HJ7, HO_0, BK362, HB⟩ := hcut
  cases kq with
  | zero => exact absurd HA.out (by simp [waybilllaw5_ContTells.j0])
  | succ kj7 =>
   have H := HA.out
   clear HA
   simp only [waybilllaw5_ContTells.j0] at H
   by_cases c14 : x43_7 = true
   ·
    subst c14
    have H1 : ((waybilllaw5_awake.f kj7).bind fun t363 => (some t363)) = some r := by rw [if_pos rfl] at H; exact H
    clear H
    have H := H1
    clear H1
    replace H := Option.bind_eq_some_iff.mp H
    obtain ⟨t363, A150, H⟩ := H
    replace H : (some t363) = some r := H
    have A15 := Aside0.mk A150
    clear A150
    obtain rfl := Option.some.inj H
    go_wp2_with (first | ((with_reducible refine gate_callee (f := 15) rfl ?_); refine goesL_ (some 44) rfl rfl Try.func15 (by kernel_rfl) rfl #[] rfl (by (try simp only [List.map_toArray, List.map_cons, List.map_nil]); first | done | rfl | (simp only [List.length_drop, List.length_take]; rfl)) ?_; (with_reducible refine (waybilllaw5_awake.calls kj7  t363 _ A15.out).mono ?_); rintro e w16 ⟨rfl, hb⟩; refine ⟨_, rfl, ?_⟩; have n0_ := Aside0.mk (Kd.V_below (by (with_reducible repeat (first | apply Kd.V_alloc | apply Kd.V_drewN | apply Kd.V_drew)); exact HO_0.out) hb); have n1_ := Aside0.mk (blk_below (g := gb362) (o := .cells #[.int .u64 a1_0, .int .i64 a1_1, .string a1_2] 25 (0, 0)) (by (with_reducible repeat (first | refine blk_drewN ?_ _ | refine blk_drew ?_ | refine blk_alloc ?_ _)); exact BK362.out) hb); have n2_ := Aside0.mk (below_step (by repeat (first | (with_reducible first | exact HB.out | apply below_alloc | apply pw_below_drewN | apply below_drew1 | refine below_set ?_ GE362.out) | exact HB.out)) hb); clear HO_0; clear BK362; clear HB; have HO_0 := n0_; have BK362 := n1_; have HB := n2_; clear n0_ n1_ n2_; (try clear hb); (try clear hb2); (try clear hk); (try clear hi); (try clear hge)))
    all_goals first | (go_ret; exact ⟨by first | rfl | (simp [errW_none, errW_some]; done) | (simp [errW_none, errW_some]; rfl) | (simp [*, errW_none, errW_some]; done) | (simp [*, errW_none, errW_some]; rfl), by repeat (first | (with_reducible first | exact HB.out | apply below_alloc | apply pw_below_drewN | apply below_drew1 | refine below_set ?_ GE362.out) | exact HB.out)⟩) | (exfalso; simp_all; done)
   ·
    replace c14 := Bool.eq_false_iff.mpr c14
    subst c14
    have H1 : (waybilllaw5_ContTells.l0 kj7 l0 a2 a3 a4 a5 l6 0 a1_0 a1_1 a1_2) = some r := by rw [if_neg (show ¬ (false = true) by decide)] at H; exact H
    clear H
    have H := H1
    clear H1
    have H' := Aside0.mk H
    clear H
    go_wp2
    go_loopg [5, 15] kj7 (fun kq v5 v15 w' => ∃ (x0_2 : List Int) (x5_2 : Int) (x15_2 : Int) (x363001_2 : Int), v5 = .int .i64 x5_2 ∧ v15 = .int .i64 x15_2 ∧ Aside0 (waybilllaw5_ContTells.l0 kq x0_2 a2 a3 a4 x5_2 l6 x15_2 a1_0 x363001_2 a1_2 = some r) ∧ Aside0 (kq ≤ kj7) ∧ Aside0 (Kd.V (Kd.int .u8) 5 w' w.heap.size (fun k_ => (P0_ k_ ∨ w.heap.size ≤ k_) ∧ k_ ≠ gb362) (.slice A0 l0.length c0) x0_2) ∧ Aside0 (w'.heap[gb362]? = some (.cells #[.int .u64 a1_0, .int .i64 x363001_2, .string a1_2] 25 (0, 0))) ∧ Aside0 (Below w.heap.size w w'))
    case atStart => exact ⟨(l0), (a5), (0), (a1_1), (by first | rfl | (simp; done) | (simp [*]; done)), (by first | rfl | (simp; done) | (simp [*]; done)), H', ⟨Nat.le_refl _⟩, ⟨by (with_reducible repeat (first | apply Kd.V_alloc | apply Kd.V_drewN | apply Kd.V_drew)); exact HO_0.out⟩, ⟨by (with_reducible repeat (first | refine blk_drewN ?_ _ | refine blk_drew ?_ | refine blk_alloc ?_ _)); exact BK362.out⟩, ⟨by repeat (first | (with_reducible first | exact HB.out | apply below_alloc | apply pw_below_drewN | apply below_drew1 | refine below_set ?_ GE362.out) | exact HB.out)⟩⟩
    case round => as_aux_lemma =>
     clear H'
     try clear c1
     try clear p2
     try clear c6
     try clear c8
     try clear c10
     try clear c10b0
     try clear c10b1
     try clear c11
     try clear c11b0
     try clear c11b1
     try clear c14
     try clear c15
     try clear hcz12_0
     try clear hcz12_1
     try clear hcz12_2
     try clear hcz13_0
     try clear hcz13_1
     try clear hcz13_2
     try clear hfz12_0
     try clear hfz12_1
     try clear hfz12_2
     try clear hfz13_0
     try clear hfz13_1
     try clear hfz13_2
     try clear p2
     obtain ⟨x0_2, x5_2, x15_2, x363001_2, rfl, rfl, HA, HK2, HO_0, BK362, HB⟩ := hrel
     have hl0_2 := (Kd.V_reads' HO_0.out).1
     rw [hl0_2] at HO_0
     (try simp only [hl0_2])
     (try simp only [hl0_2] at BK362)
     cases gk with
     | zero => exact absurd HA.out (by simp [waybilllaw5_ContTells.l0])
     | succ k2 =>
      have H := HA.out
      clear HA
      simp only [waybilllaw5_ContTells.l0] at H
      by_cases c17 : x15_2 < 2
      ·
       rw [if_pos c17] at H
       have c17b0 : decide (x15_2 < 2) = true := decide_eq_true c17
       clear c17
       obtain ⟨y365, hy365⟩ : ∃ y_ : List Int, y_ = (([3] : List Int)) := ⟨_, rfl⟩
       replace H : ((cont_Append.f k2 y365 a1_0 x363001_2 a1_2).bind fun bt368 => ((some (([3] : List Int) : List Int)).bind fun y372 => ((waybillref1_HeadOk.f a1_0 x363001_2 a1_2).bind fun t375 => (if t375 = true then ((waybillref1_Head.f k2 y372 a1_0 x363001_2 a1_2).bind fun t376 => (waybilllaw5_ContTells.j2 k2 x0_2 a2 a3 a4 x5_2 l6 x15_2 bt368.1 bt368.2 t376 t375 a1_0 x363001_2 a1_2)) else (waybilllaw5_ContTells.j2 k2 x0_2 a2 a3 a4 x5_2 l6 x15_2 bt368.1 bt368.2 y372 t375 a1_0 x363001_2 a1_2))))) = some r := by first | (rw [hy365]; with_reducible exact H) | (have H2_ := (Option.bind_some _ _).symm.trans H; rw [hy365]; with_reducible exact H2_) | (have H2_ := (Option.bind_some _ _).symm.trans H; with_reducible exact H2_) | with_reducible exact H | (rw [hy365]; exact H) | exact H
       have Ny365 := Aside0.mk hy365
       clear hy365
       replace H := Option.bind_eq_some_iff.mp H
       obtain ⟨⟨t368, t371⟩, A180, H⟩ := H
       replace H : ((some (([3] : List Int) : List Int)).bind fun y372 => ((waybillref1_HeadOk.f a1_0 x363001_2 a1_2).bind fun t375 => (if t375 = true then ((waybillref1_Head.f k2 y372 a1_0 x363001_2 a1_2).bind fun t376 => (waybilllaw5_ContTells.j2 k2 x0_2 a2 a3 a4 x5_2 l6 x15_2 t368 t371 t376 t375 a1_0 x363001_2 a1_2)) else (waybilllaw5_ContTells.j2 k2 x0_2 a2 a3 a4 x5_2 l6 x15_2 t368 t371 y372 t375 a1_0 x363001_2 a1_2)))) = some r := H
       have A18 := Aside0.mk A180
       clear A180
       obtain ⟨y372, hy372⟩ : ∃ y_ : List Int, y_ = (([3] : List Int)) := ⟨_, rfl⟩
       replace H : ((waybillref1_HeadOk.f a1_0 x363001_2 a1_2).bind fun t375 => (if t375 = true then ((waybillref1_Head.f k2 y372 a1_0 x363001_2 a1_2).bind fun t376 => (waybilllaw5_ContTells.j2 k2 x0_2 a2 a3 a4 x5_2 l6 x15_2 t368 t371 t376 t375 a1_0 x363001_2 a1_2)) else (waybilllaw5_ContTells.j2 k2 x0_2 a2 a3 a4 x5_2 l6 x15_2 t368 t371 y372 t375 a1_0 x363001_2 a1_2))) = some r := by first | (rw [hy372]; with_reducible exact H) | (have H2_ := (Option.bind_some _ _).symm.trans H; rw [hy372]; with_reducible exact H2_) | (have H2_ := (Option.bind_some _ _).symm.trans H; with_reducible exact H2_) | with_reducible exact H | (rw [hy372]; exact H) | exact H
       have Ny372 := Aside0.mk hy372
       clear hy372
       replace H := Option.bind_eq_some_iff.mp H
       obtain ⟨t375, A190, H⟩ := H
       replace H : (if t375 = true then ((waybillref1_Head.f k2 y372 a1_0 x363001_2 a1_2).bind fun t376 => (waybilllaw5_ContTells.j2 k2 x0_2 a2 a3 a4 x5_2 l6 x15_2 t368 t371 t376 t375 a1_0 x363001_2 a1_2)) else (waybilllaw5_ContTells.j2 k2 x0_2 a2 a3 a4 x5_2 l6 x15_2 t368 t371 y372 t375 a1_0 x363001_2 a1_2)) = some r := H
       have A19 := Aside0.mk A190
       clear A190
       have HC20 := Aside0.mk H
       clear H
       go_upto_if 58 with (first | ((with_reducible refine gate_dst (N := 50) rfl ?_); (try (refine gate_guard (by rfl) ?_; dsimp only)); refine Kd.R_lit (Kd.int .u8) _ 5 ?hg (N := 50) ?hd (xs := ([3] : List Int)) (inner := [.int .u8 3]) (ok := fun _ => True) (okp := fun _ => True) ?hr ?hp (fun _ hk => hk) trivial (Below.refl _ _) (Nat.le_refl _) (by simp) ?_; (case hd => rfl); (case hg => rfl); (case hr => first | (go_simp; done) | (go_simp; rfl)); (case hp => exact (Reps.one (show Kd.M (Kd.int .u8) _ _ _ 3 [.int .u8 3] from rfl) (Reps.none _ _))); intro v366 w21 ho22 hb hg_ hnew_; clear hg_ hnew_; (first | rw [← Ny365.out] at ho22 | (simp only [Int.reduceToNat] at ho22; rw [← Ny365.out] at ho22)); have n0_ := Aside0.mk (Kd.V_elder' (by (with_reducible repeat (first | apply Kd.V_alloc | apply Kd.V_drewN | apply Kd.V_drew)); exact HO_0.out) (Kd.R_base ho22) hb); have n1_ := Aside0.mk (Kd.R_lower (Kd.R_newM (M := fun k_ => (w.heap.size ≤ k_)) ho22 (below_size (by repeat (first | (with_reducible first | exact HB.out | apply below_alloc | apply pw_below_drewN | apply below_drew1 | refine below_set ?_ GE362.out) | exact HB.out))) (fun k_ h_ => h_)) (below_size (by repeat (first | (with_reducible first | exact HB.out | apply below_alloc | apply pw_below_drewN | apply below_drew1 | refine below_set ?_ GE362.out) | exact HB.out)))); have n2_ := Aside0.mk (blk_below (g := gb362) (o := .cells #[.int .u64 a1_0, .int .i64 x363001_2, .string a1_2] 25 (0, 0)) (by (with_reducible repeat (first | refine blk_drewN ?_ _ | refine blk_drew ?_ | refine blk_alloc ?_ _)); exact BK362.out) hb); have n3_ := Aside0.mk (below_step (by repeat (first | (with_reducible first | exact HB.out | apply below_alloc | apply pw_below_drewN | apply below_drew1 | refine below_set ?_ GE362.out) | exact HB.out)) hb); clear HO_0; clear BK362; clear HB; have HO_0 := n0_; have HO367 := n1_; have BK362 := n2_; have HB := n3_; clear n0_ n1_ n2_ n3_; clear hb ho22; have hcz23_0 : w21.cell? ⟨gb362, 0, none⟩ = some (.int .u64 a1_0) := (blk_cell BK362.out 0).trans rfl; have hcz23_1 : w21.cell? ⟨gb362, 1, none⟩ = some (.int .i64 x363001_2) := (blk_cell BK362.out 1).trans rfl; have hcz23_2 : w21.cell? ⟨gb362, 2, none⟩ = some (.string a1_2) := (blk_cell BK362.out 2).trans rfl; have hfz23_0 := blk_frozen BK362.out 0; have hfz23_1 := blk_frozen BK362.out 1; have hfz23_2 := blk_frozen BK362.out 2; obtain ⟨Ao24, co24, eo24⟩ := Kd.R_slice HO367.out; subst eo24) | ((with_reducible refine gate_callee (f := 16) rfl ?_); refine goesL_ (some 52) rfl rfl Try.func16 (by kernel_rfl) rfl #[.slice Ao24 y365.length co24, .agg #[.int .u64 a1_0, .int .i64 x363001_2, .string a1_2]] rfl (by (try simp only [List.map_toArray, List.map_cons, List.map_nil]); first | done | rfl | (simp only [List.length_drop, List.length_take]; rfl)) ?_; (with_reducible refine (cont_Append.calls k2 _ _ y365 a1_0 x363001_2 a1_2 t368 t371 _ ?side1 ?side2 A18.out).mono ?_); (case side1 => repeat (first | exact (Kd.R_reads' HO367.out).2.2 | (with_reducible refine Kd.C_alloc ?_ _) | (with_reducible refine Kd.C_drewN ?_ _) | (with_reducible refine Kd.C_drew ?_))); (case side2 => exact (Kd.R_reads' HO367.out).2.1); rintro e w25 ⟨v369, rfl, ho0, hb⟩; refine ⟨_, rfl, ?_⟩; have n0_ := Aside0.mk (Kd.V_elder' (by (with_reducible repeat (first | apply Kd.V_alloc | apply Kd.V_drewN | apply Kd.V_drew)); exact HO_0.out) (Kd.R_base ho0) hb); have n1_ := Aside0.mk (Kd.R_elder' (by (with_reducible repeat (first | apply Kd.R_alloc | apply Kd.R_drewN | apply Kd.R_drew)); exact HO367.out) (Kd.R_base ho0) hb); have n2_ := Aside0.mk (Kd.R_lower (Kd.R_new' (Kd.R_newM (M := fun k_ => (w.heap.size ≤ k_)) ho0 (below_size (by repeat (first | (with_reducible first | exact HB.out | apply below_alloc | apply pw_below_drewN | apply below_drew1 | refine below_set ?_ GE362.out) | exact HB.out))) (fun k_ h_ => h_)) (Kd.R_lt (by (with_reducible repeat (first | apply Kd.R_alloc | apply Kd.R_drewN | apply Kd.R_drew)); exact HO367.out))) (below_size (by repeat (first | (with_reducible first | exact HB.out | apply below_alloc | apply pw_below_drewN | apply below_drew1 | refine below_set ?_ GE362.out) | exact HB.out)))); have n3_ := Aside0.mk (blk_below (g := gb362) (o := .cells #[.int .u64 a1_0, .int .i64 x363001_2, .string a1_2] 25 (0, 0)) (by (with_reducible repeat (first | refine blk_drewN ?_ _ | refine blk_drew ?_ | refine blk_alloc ?_ _)); exact BK362.out) hb); have n4_ := Aside0.mk (below_step (by repeat (first | (with_reducible first | exact HB.out | apply below_alloc | apply pw_below_drewN | apply below_drew1 | refine below_set ?_ GE362.out) | exact HB.out)) hb); clear HO_0; clear HO367; clear BK362; clear HB; have HO_0 := n0_; have HO367 := n1_; have HO370 := n2_; have BK362 := n3_; have HB := n4_; clear n0_ n1_ n2_ n3_ n4_; (try clear hb); (try clear hb2); (try clear hk); (try clear hi); (try clear hge); (try clear ho0)) | ((with_reducible refine gate_dst (N := 55) rfl ?_); (try (refine gate_guard (by rfl) ?_; dsimp only)); refine Kd.R_lit (Kd.int .u8) _ 5 ?hg (N := 55) ?hd (xs := ([3] : List Int)) (inner := [.int .u8 3]) (ok := fun _ => True) (okp := fun _ => True) ?hr ?hp (fun _ hk => hk) trivial (Below.refl _ _) (Nat.le_refl _) (by simp) ?_; (case hd => rfl); (case hg => rfl); (case hr => first | (go_simp; done) | (go_simp; rfl)); (case hp => exact (Reps.one (show Kd.M (Kd.int .u8) _ _ _ 3 [.int .u8 3] from rfl) (Reps.none _ _))); intro v373 w26 ho27 hb hg_ hnew_; clear hg_ hnew_; (first | rw [← Ny372.out] at ho27 | (simp only [Int.reduceToNat] at ho27; rw [← Ny372.out] at ho27)); have n0_ := Aside0.mk (Kd.V_elder' (by (with_reducible repeat (first | apply Kd.V_alloc | apply Kd.V_drewN | apply Kd.V_drew)); exact HO_0.out) (Kd.R_base ho27) hb); have n1_ := Aside0.mk (Kd.R_elder' (by (with_reducible repeat (first | apply Kd.R_alloc | apply Kd.R_drewN | apply Kd.R_drew)); exact HO367.out) (Kd.R_base ho27) hb); have n2_ := Aside0.mk (Kd.R_elder' (by (with_reducible repeat (first | apply Kd.R_alloc | apply Kd.R_drewN | apply Kd.R_drew)); exact HO370.out) (Kd.R_base ho27) hb); have n3_ := Aside0.mk (Kd.R_lower (Kd.R_new' (Kd.R_new' (Kd.R_newM (M := fun k_ => (w.heap.size ≤ k_)) ho27 (below_size (by repeat (first | (with_reducible first | exact HB.out | apply below_alloc | apply pw_below_drewN | apply below_drew1 | refine below_set ?_ GE362.out) | exact HB.out))) (fun k_ h_ => h_)) (Kd.R_lt (by (with_reducible repeat (first | apply Kd.R_alloc | apply Kd.R_drewN | apply Kd.R_drew)); exact HO367.out))) (Kd.R_lt (by (with_reducible repeat (first | apply Kd.R_alloc | apply Kd.R_drewN | apply Kd.R_drew)); exact HO370.out))) (below_size (by repeat (first | (with_reducible first | exact HB.out | apply below_alloc | apply pw_below_drewN | apply below_drew1 | refine below_set ?_ GE362.out) | exact HB.out)))); have n4_ := Aside0.mk (blk_below (g := gb362) (o := .cells #[.int .u64 a1_0, .int .i64 x363001_2, .string a1_2] 25 (0, 0)) (by (with_reducible repeat (first | refine blk_drewN ?_ _ | refine blk_drew ?_ | refine blk_alloc ?_ _)); exact BK362.out) hb); have n5_ := Aside0.mk (below_step (by repeat (first | (with_reducible first | exact HB.out | apply below_alloc | apply pw_below_drewN | apply below_drew1 | refine below_set ?_ GE362.out) | exact HB.out)) hb); clear HO_0; clear HO367; clear HO370; clear BK362; clear HB; have HO_0 := n0_; have HO367 := n1_; have HO370 := n2_; have HO374 := n3_; have BK362 := n4_; have HB := n5_; clear n0_ n1_ n2_ n3_ n4_ n5_; clear hb ho27; have hcz28_0 : w26.cell? ⟨gb362, 0, none⟩ = some (.int .u64 a1_0) := (blk_cell BK362.out 0).trans rfl; have hcz28_1 : w26.cell? ⟨gb362, 1, none⟩ = some (.int .i64 x363001_2) := (blk_cell BK362.out 1).trans rfl; have hcz28_2 : w26.cell? ⟨gb362, 2, none⟩ = some (.string a1_2) := (blk_cell BK362.out 2).trans rfl; have hfz28_0 := blk_frozen BK362.out 0; have hfz28_1 := blk_frozen BK362.out 1; have hfz28_2 := blk_frozen BK362.out 2) | ((with_reducible refine gate_callee (f := 30) rfl ?_); refine goesL_ (some 57) rfl rfl Try.func30 (by kernel_rfl) rfl #[.agg #[.int .u64 a1_0, .int .i64 x363001_2, .string a1_2]] rfl (by (try simp only [List.map_toArray, List.map_cons, List.map_nil]); first | done | rfl | (simp only [List.length_drop, List.length_take]; rfl)) ?_; (with_reducible refine (waybillref1_HeadOk.calls a1_0 x363001_2 a1_2 t375 _ A19.out).mono ?_); rintro e w29 ⟨rfl, hb⟩; refine ⟨_, rfl, ?_⟩; have n0_ := Aside0.mk (Kd.V_below (by (with_reducible repeat (first | apply Kd.V_alloc | apply Kd.V_drewN | apply Kd.V_drew)); exact HO_0.out) hb); have n1_ := Aside0.mk (Kd.R_below (by (with_reducible repeat (first | apply Kd.R_alloc | apply Kd.R_drewN | apply Kd.R_drew)); exact HO367.out) hb); have n2_ := Aside0.mk (Kd.R_below (by (with_reducible repeat (first | apply Kd.R_alloc | apply Kd.R_drewN | apply Kd.R_drew)); exact HO370.out) hb); have n3_ := Aside0.mk (Kd.R_below (by (with_reducible repeat (first | apply Kd.R_alloc | apply Kd.R_drewN | apply Kd.R_drew)); exact HO374.out) hb); have n4_ := Aside0.mk (blk_below (g := gb362) (o := .cells #[.int .u64 a1_0, .int .i64 x363001_2, .string a1_2] 25 (0, 0)) (by (with_reducible repeat (first | refine blk_drewN ?_ _ | refine blk_drew ?_ | refine blk_alloc ?_ _)); exact BK362.out) hb); have n5_ := Aside0.mk (below_step (by repeat (first | (with_reducible first | exact HB.out | apply below_alloc | apply pw_below_drewN | apply below_drew1 | refine below_set ?_ GE362.out) | exact HB.out)) hb); clear HO_0; clear HO367; clear HO370; clear HO374; clear BK362; clear HB; have HO_0 := n0_; have HO367 := n1_; have HO370 := n2_; have HO374 := n3_; have BK362 := n4_; have HB := n5_; clear n0_ n1_ n2_ n3_ n4_ n5_; (try clear hb); (try clear hb2); (try clear hk); (try clear hi); (try clear hge)))
       (try simp only [Act.put, List.setIfInBounds_toArray, List.set_cons_zero, List.set_cons_succ])
       go_cut [18] (fun v18 wc => ∃ (kq : Nat) (x18_19 : List Int), Aside0 (waybilllaw5_ContTells.j2 kq x0_2 a2 a3 a4 x5_2 l6 x15_2 t368 t371 x18_19 t375 a1_0 x363001_2 a1_2 = some r) ∧ Aside0 (kq ≤ k2) ∧ Aside0 (Kd.V (Kd.int .u8) 5 wc w.heap.size (fun k_ => (P0_ k_ ∨ w.heap.size ≤ k_) ∧ some k_ ≠ (v369 : Value).ownBlock ∧ some k_ ≠ (v18 : Value).ownBlock ∧ k_ ≠ gb362) (.slice A0 x0_2.length c0) x0_2) ∧ Aside0 (Kd.R (Kd.int .u8) 5 wc w.heap.size (fun k_ => (w.heap.size ≤ k_) ∧ some k_ ≠ (v18 : Value).ownBlock) v369 t368) ∧ Aside0 (Kd.R (Kd.int .u8) 5 wc w.heap.size (fun k_ => (w.heap.size ≤ k_) ∧ some k_ ≠ (v369 : Value).ownBlock) v18 x18_19) ∧ Aside0 (wc.heap[gb362]? = some (.cells #[.int .u64 a1_0, .int .i64 x363001_2, .string a1_2] 25 (0, 0))) ∧ Aside0 (Below w.heap.size w wc))
       case first => as_aux_lemma =>
        have H := HC20.out
        clear HC20
        by_cases c30 : t375 = true
        ·
         subst c30
         have H1 : ((waybillref1_Head.f k2 y372 a1_0 x363001_2 a1_2).bind fun t376 => (waybilllaw5_ContTells.j2 k2 x0_2 a2 a3 a4 x5_2 l6 x15_2 t368 t371 t376 true a1_0 x363001_2 a1_2)) = some r := by rw [if_pos rfl] at H; exact H
         clear H
         have H := H1
         clear H1
         replace H := Option.bind_eq_some_iff.mp H
         obtain ⟨t376, A310, H⟩ := H
         replace H : (waybilllaw5_ContTells.j2 k2 x0_2 a2 a3 a4 x5_2 l6 x15_2 t368 t371 t376 true a1_0 x363001_2 a1_2) = some r := H
         have A31 := Aside0.mk A310
         clear A310
         have H' := Aside0.mk H
         clear H
         have hcz32_0 : w29.cell? ⟨gb362, 0, none⟩ = some (.int .u64 a1_0) := (blk_cell BK362.out 0).trans rfl
         have hcz32_1 : w29.cell? ⟨gb362, 1, none⟩ = some (.int .i64 x363001_2) := (blk_cell BK362.out 1).trans rfl
         have hcz32_2 : w29.cell? ⟨gb362, 2, none⟩ = some (.string a1_2) := (blk_cell BK362.out 2).trans rfl
         have hfz32_0 := blk_frozen BK362.out 0
         have hfz32_1 := blk_frozen BK362.out 1
         have hfz32_2 := blk_frozen BK362.out 2
         obtain ⟨Ao33, co33, eo33⟩ := Kd.R_slice HO374.out
         subst eo33
         go_wp2_with (first | ((with_reducible refine gate_callee (f := 31) rfl ?_); refine goesL_ (some 61) rfl rfl Try.func31 (by kernel_rfl) rfl #[.slice Ao33 y372.length co33, .agg #[.int .u64 a1_0, .int .i64 x363001_2, .string a1_2]] rfl (by (try simp only [List.map_toArray, List.map_cons, List.map_nil]); first | done | rfl | (simp only [List.length_drop, List.length_take]; rfl)) ?_; (with_reducible refine (waybillref1_Head.calls k2 _ _ y372 a1_0 x363001_2 a1_2 t376 _ ?side1 ?side2 A31.out).mono ?_); (case side1 => repeat (first | exact (Kd.R_reads' HO374.out).2.2 | (with_reducible refine Kd.C_alloc ?_ _) | (with_reducible refine Kd.C_drewN ?_ _) | (with_reducible refine Kd.C_drew ?_))); (case side2 => exact (Kd.R_reads' HO374.out).2.1); rintro e w34 ⟨v377, rfl, ho0, hb⟩; refine ⟨_, rfl, ?_⟩; have n0_ := Aside0.mk (Kd.V_elder' (by (with_reducible repeat (first | apply Kd.V_alloc | apply Kd.V_drewN | apply Kd.V_drew)); exact HO_0.out) (Kd.R_base ho0) hb); have n1_ := Aside0.mk (Kd.R_elder' (by (with_reducible repeat (first | apply Kd.R_alloc | apply Kd.R_drewN | apply Kd.R_drew)); exact HO367.out) (Kd.R_base ho0) hb); have n2_ := Aside0.mk (Kd.R_elder' (by (with_reducible repeat (first | apply Kd.R_alloc | apply Kd.R_drewN | apply Kd.R_drew)); exact HO370.out) (Kd.R_base ho0) hb); have n3_ := Aside0.mk (Kd.R_elder' (by (with_reducible repeat (first | apply Kd.R_alloc | apply Kd.R_drewN | apply Kd.R_drew)); exact HO374.out) (Kd.R_base ho0) hb); have n4_ := Aside0.mk (Kd.R_lower (Kd.R_new' (Kd.R_new' (Kd.R_new' (Kd.R_newM (M := fun k_ => (w.heap.size ≤ k_)) ho0 (below_size (by repeat (first | (with_reducible first | exact HB.out | apply below_alloc | apply pw_below_drewN | apply below_drew1 | refine below_set ?_ GE362.out) | exact HB.out))) (fun k_ h_ => h_)) (Kd.R_lt (by (with_reducible repeat (first | apply Kd.R_alloc | apply Kd.R_drewN | apply Kd.R_drew)); exact HO367.out))) (Kd.R_lt (by (with_reducible repeat (first | apply Kd.R_alloc | apply Kd.R_drewN | apply Kd.R_drew)); exact HO370.out))) (Kd.R_lt (by (with_reducible repeat (first | apply Kd.R_alloc | apply Kd.R_drewN | apply Kd.R_drew)); exact HO374.out))) (below_size (by repeat (first | (with_reducible first | exact HB.out | apply below_alloc | apply pw_below_drewN | apply below_drew1 | refine below_set ?_ GE362.out) | exact HB.out)))); have n5_ := Aside0.mk (blk_below (g := gb362) (o := .cells #[.int .u64 a1_0, .int .i64 x363001_2, .string a1_2] 25 (0, 0)) (by (with_reducible repeat (first | refine blk_drewN ?_ _ | refine blk_drew ?_ | refine blk_alloc ?_ _)); exact BK362.out) hb); have n6_ := Aside0.mk (below_step (by repeat (first | (with_reducible first | exact HB.out | apply below_alloc | apply pw_below_drewN | apply below_drew1 | refine below_set ?_ GE362.out) | exact HB.out)) hb); clear HO_0; clear HO367; clear HO370; clear HO374; clear BK362; clear HB; have HO_0 := n0_; have HO367 := n1_; have HO370 := n2_; have HO374 := n3_; have HO378 := n4_; have BK362 := n5_; have HB := n6_; clear n0_ n1_ n2_ n3_ n4_ n5_ n6_; (try clear hb); (try clear hb2); (try clear hk); (try clear hi); (try clear hge); (try clear ho0)))
         go_meet
         case rel => exact ⟨_, (t376), H', ⟨by have := HJ7.out; have := HK2.out; first | omega | exact Nat.le_refl _⟩, ⟨by (try simp only [hl0_2]); (with_reducible repeat (first | apply Kd.V_alloc | apply Kd.V_drewN | apply Kd.V_drew)); exact Kd.V_mono HO_0.out (fun _ hk => ⟨hk.1.1.1.1.1, ⟨hk.1.1.2, ⟨hk.2, hk.1.1.1.1.2⟩⟩⟩)⟩, ⟨by (try simp only [hl0_2]); (with_reducible repeat (first | apply Kd.R_alloc | apply Kd.R_drewN | apply Kd.R_drew)); exact Kd.R_mono HO370.out (fun _ hk => ⟨hk.1.1.1.1, hk.2⟩)⟩, ⟨by (try simp only [hl0_2]); (with_reducible repeat (first | apply Kd.R_alloc | apply Kd.R_drewN | apply Kd.R_drew)); exact Kd.R_mono HO378.out (fun _ hk => ⟨hk.1.1.1.1, hk.1.2⟩)⟩, ⟨by (try simp only [hl0_2]); (with_reducible repeat (first | refine blk_drewN ?_ _ | refine blk_drew ?_ | refine blk_alloc ?_ _)); exact BK362.out⟩, ⟨by repeat (first | (with_reducible first | exact HB.out | apply below_alloc | apply pw_below_drewN | apply below_drew1 | refine below_set ?_ GE362.out) | exact HB.out)⟩⟩
        ·
         replace c30 := Bool.eq_false_iff.mpr c30
         subst c30
         have H1 : (waybilllaw5_ContTells.j2 k2 x0_2 a2 a3 a4 x5_2 l6 x15_2 t368 t371 y372 false a1_0 x363001_2 a1_2) = some r := by rw [if_neg (show ¬ (false = true) by decide)] at H; exact H
         clear H
         have H := H1
         clear H1
         have H' := Aside0.mk H
         clear H
         go_wp2
         go_meet
         case rel => exact ⟨_, (y372), H', ⟨by have := HJ7.out; have := HK2.out; first | omega | exact Nat.le_refl _⟩, ⟨by (try simp only [hl0_2]); (with_reducible repeat (first | apply Kd.V_alloc | apply Kd.V_drewN | apply Kd.V_drew)); exact Kd.V_mono HO_0.out (fun _ hk => ⟨hk.1.1.1.1, ⟨hk.1.2, ⟨hk.2, hk.1.1.1.2⟩⟩⟩)⟩, ⟨by (try simp only [hl0_2]); (with_reducible repeat (first | apply Kd.R_alloc | apply Kd.R_drewN | apply Kd.R_drew)); exact Kd.R_mono HO370.out (fun _ hk => ⟨hk.1.1.1, hk.2⟩)⟩, ⟨by (try simp only [hl0_2]); (with_reducible repeat (first | apply Kd.R_alloc | apply Kd.R_drewN | apply Kd.R_drew)); exact Kd.R_mono HO374.out (fun _ hk => ⟨hk.1.1.1, hk.2⟩)⟩, ⟨by (try simp only [hl0_2]); (with_reducible repeat (first | refine blk_drewN ?_ _ | refine blk_drew ?_ | refine blk_alloc ?_ _)); exact BK362.out⟩, ⟨by repeat (first | (with_reducible first | exact HB.out | apply below_alloc | apply pw_below_drewN | apply below_drew1 | refine below_set ?_ GE362.out) | exact HB.out)⟩⟩
       case rest => as_aux_lemma =>
        clear HC20
        try clear c1
        try clear p2
        try clear c3
        try clear c6
        try clear c8
        try clear c10
        try clear c10b0
        try clear c10b1
        try clear c11
        try clear c11b0
        try clear c11b1
        try clear c14
        try clear c15
        try clear c16
        try clear c17
        try clear c17b0
        try clear c30
        try clear c31
        try clear hcz12_0
        try clear hcz12_1
        try clear hcz12_2
        try clear hcz13_0
        try clear hcz13_1
        try clear hcz13_2
        try clear hcz23_0
        try clear hcz23_1
        try clear hcz23_2
        try clear hcz28_0
        try clear hcz28_1
        try clear hcz28_2
        try clear hcz32_0
        try clear hcz32_1
        try clear hcz32_2
        try clear hfz12_0
        try clear hfz12_1
        try clear hfz12_2
        try clear hfz13_0
        try clear hfz13_1
        try clear hfz13_2
        try clear hfz23_0
        try clear hfz23_1
        try clear hfz23_2
        try clear hfz28_0
        try clear hfz28_1
        try clear hfz28_2
        try clear hfz32_0
        try clear hfz32_1
        try clear hfz32_2
        try clear p2
        obtain ⟨kq, x18_19, HA, HJ19, HO_0, HO_16, HO_18, BK362, HB⟩ := hcut
        cases kq with
        | zero => exact absurd HA.out (by simp [waybilllaw5_ContTells.j2])
        | succ kj19 =>
         have H := HA.out
         clear HA
         simp only [waybilllaw5_ContTells.j2] at H
         have HC35 := Aside0.mk H
         clear H
         go_upto_region 11 with (fail)
         go_cut [71] (fun v71 wc => ∃ (kq : Nat) (x71_34 : Bool), v71 = .bool x71_34 ∧ Aside0 (waybilllaw5_ContTells.j3 kq x0_2 a2 a3 a4 x5_2 l6 x15_2 x18_19 t375 x71_34 a1_0 x363001_2 a1_2 = some r) ∧ Aside0 (kq ≤ kj19) ∧ Aside0 (Kd.V (Kd.int .u8) 5 wc w.heap.size (fun k_ => (P0_ k_ ∨ w.heap.size ≤ k_) ∧ some k_ ≠ (u18 : Value).ownBlock ∧ k_ ≠ gb362) (.slice A0 x0_2.length c0) x0_2) ∧ Aside0 (Kd.R (Kd.int .u8) 5 wc w.heap.size (fun k_ => (w.heap.size ≤ k_)) u18 x18_19) ∧ Aside0 (wc.heap[gb362]? = some (.cells #[.int .u64 a1_0, .int .i64 x363001_2, .string a1_2] 25 (0, 0))) ∧ Aside0 (Below w.heap.size w wc))
         case first => as_aux_lemma =>
          have H := HC35.out
          clear HC35
          by_cases c36 : (t371 != t375) = true
          ·
           rw [if_pos c36] at H
           have c36b0 : (t371 != t375) = true := c36
           (try (have c36b1 : decide (t371 = t375) = false := by simpa using c36))
           (try (have c36b2 : (t371 == t375) = false := by simpa using c36))
           (try (have c36b3 : ¬ (t371 = t375) := by simpa using c36))
           clear c36
           (first | rw [c36b0] | rw [c36b2] | rw [c36b1] | (simp only [i64_w, i32_w]; rw [c36b0]) | skip)
           have H' := Aside0.mk H
           clear H
           go_wp2
           go_meet
           case rel => exact ⟨_, (true), (by first | rfl | (simp; done) | (simp [*]; done)), H', ⟨by have := HJ7.out; have := HK2.out; have := HJ19.out; first | omega | exact Nat.le_refl _⟩, ⟨by (try simp only [hl0_2]); (with_reducible repeat (first | apply Kd.V_alloc | apply Kd.V_drewN | apply Kd.V_drew)); exact Kd.V_mono HO_0.out (fun _ hk => ⟨hk.1, ⟨hk.2.2.1, hk.2.2.2⟩⟩)⟩, ⟨by (try simp only [hl0_2]); (with_reducible repeat (first | apply Kd.R_alloc | apply Kd.R_drewN | apply Kd.R_drew)); exact Kd.R_mono HO_18.out (fun _ hk => hk.1)⟩, ⟨by (try simp only [hl0_2]); (with_reducible repeat (first | refine blk_drewN ?_ _ | refine blk_drew ?_ | refine blk_alloc ?_ _)); exact BK362.out⟩, ⟨by repeat (first | (with_reducible first | exact HB.out | apply below_alloc | apply pw_below_drewN | apply below_drew1 | refine below_set ?_ GE362.out) | exact HB.out)⟩⟩
          ·
           rw [if_neg c36] at H
           have c36b0 : (t371 != t375) = false := by simpa using c36
           (try (have c36b1 : decide (t371 = t375) = true := by simpa using c36))
           (try (have c36b2 : (t371 == t375) = true := by simpa using c36))
           clear c36
           (first | rw [c36b0] | rw [c36b2] | rw [c36b1] | (simp only [i64_w, i32_w]; rw [c36b0]) | skip)
           have H' := Aside0.mk H
           clear H
           have hcv37 := own_string (P := Try.prog) Try.underlying26 Try.underlying5 Try.underlying9 (Kd.own_of_R HO_16.out)
           have hcv38 := own_string (P := Try.prog) Try.underlying26 Try.underlying5 Try.underlying9 (Kd.own_of_R HO_18.out)
           go_wp2
           go_meet
           case rel => exact ⟨_, (((strOfNums t368).toList != (strOfNums x18_19).toList)), (by first | rfl | (simp; done) | (simp [*]; done)), H', ⟨by have := HJ7.out; have := HK2.out; have := HJ19.out; first | omega | exact Nat.le_refl _⟩, ⟨by (try simp only [hl0_2]); (with_reducible repeat (first | apply Kd.V_alloc | apply Kd.V_drewN | apply Kd.V_drew)); exact Kd.V_mono HO_0.out (fun _ hk => ⟨hk.1, ⟨hk.2.2.1, hk.2.2.2⟩⟩)⟩, ⟨by (try simp only [hl0_2]); (with_reducible repeat (first | apply Kd.R_alloc | apply Kd.R_drewN | apply Kd.R_drew)); exact Kd.R_mono HO_18.out (fun _ hk => hk.1)⟩, ⟨by (try simp only [hl0_2]); (with_reducible repeat (first | refine blk_drewN ?_ _ | refine blk_drew ?_ | refine blk_alloc ?_ _)); exact BK362.out⟩, ⟨by repeat (first | (with_reducible first | exact HB.out | apply below_alloc | apply pw_below_drewN | apply below_drew1 | refine below_set ?_ GE362.out) | exact HB.out)⟩⟩
         case rest => as_aux_lemma =>
          clear HC35
          try clear c1
          try clear p2
          try clear c3
          try clear hcv3
          try clear c6
          try clear c8
          try clear c10
          try clear c10b0
          try clear c10b1
          try clear c11
          try clear c11b0
          try clear c11b1
          try clear c14
          try clear c15
          try clear c16
          try clear c17
          try clear c17b0
          try clear c30
          try clear c31
          try clear c36
          try clear c36b0
          try clear c36b1
          try clear c36b2
          try clear hcv37
          try clear hcv38
          try clear hcz12_0
          try clear hcz12_1
          try clear hcz12_2
          try clear hcz13_0
          try clear hcz13_1
          try clear hcz13_2
          try clear hcz23_0
          try clear hcz23_1
          try clear hcz23_2
          try clear hcz28_0
          try clear hcz28_1
          try clear hcz28_2
          try clear hcz32_0
          try clear hcz32_1
          try clear hcz32_2
          try clear hfz12_0
          try clear hfz12_1
          try clear hfz12_2
          try clear hfz13_0
          try clear hfz13_1
          try clear hfz13_2
          try clear hfz23_0
          try clear hfz23_1
          try clear hfz23_2
          try clear hfz28_0
          try clear hfz28_1
          try clear hfz28_2
          try clear hfz32_0
          try clear hfz32_1
          try clear hfz32_2
          try clear p2
          obtain ⟨kq, x71_34, rfl, HA, HJ34, HO_0, HO_18, BK362, HB⟩ := hcut
          cases kq with
          | zero => exact absurd HA.out (by simp [waybilllaw5_ContTells.j3])
          | succ kj34 =>
           have H := HA.out
           clear HA
           simp only [waybilllaw5_ContTells.j3] at H
           by_cases c39 : x71_34 = true
           ·
            subst c39
            have H1 : (none) = some r := by rw [if_pos rfl] at H; exact H
            clear H
            have H := H1
            clear H1
            exact absurd H (by simp)
           ·
            replace c39 := Bool.eq_false_iff.mpr c39
            subst c39
            have H1 : ((some (([] : List Int) : List Int)).bind fun y379 => (if 1 ≤ (x18_19.length : Int) then ((some (x18_19.drop 1 : List Int)).bind fun y382 => (if y379.length + y382.length < 140737488355328 then ((some (y379 ++ y382 : List Int)).bind fun y386 => (if (y386.length : Int) > 0 then (if (y386.length : Int) = 0 then (none) else (if 0 ≤ (Int.tmod (Go.bits .and .i64 a2 65535) (y386.length : Int)) then (if (Int.tmod (Go.bits .and .i64 a2 65535) (y386.length : Int)) < (y386.length : Int) then (waybilllaw5_ContTells.j4 kj34 x0_2 a2 a3 a4 x5_2 l6 x15_2 x18_19 t375 (y386.set ((Int.tmod (Go.bits .and .i64 a2 65535) (y386.length : Int)) : Int).toNat (Go.bits .xor .u8 (rd y386 (Int.tmod (Go.bits .and .i64 a2 65535) (y386.length : Int))) a3)) a1_0 x363001_2 a1_2) else (none)) else (none))) else (waybilllaw5_ContTells.j4 kj34 x0_2 a2 a3 a4 x5_2 l6 x15_2 x18_19 t375 y386 a1_0 x363001_2 a1_2))) else (none))) else (none))) = some r := by rw [if_neg (show ¬ (false = true) by decide)] at H; exact H
            clear H
            have H := H1
            clear H1
            obtain ⟨y379, hy379⟩ : ∃ y_ : List Int, y_ = (([] : List Int)) := ⟨_, rfl⟩
            replace H : (if 1 ≤ (x18_19.length : Int) then ((some (x18_19.drop 1 : List Int)).bind fun y382 => (if y379.length + y382.length < 140737488355328 then ((some (y379 ++ y382 : List Int)).bind fun y386 => (if (y386.length : Int) > 0 then (if (y386.length : Int) = 0 then (none) else (if 0 ≤ (Int.tmod (Go.bits .and .i64 a2 65535) (y386.length : Int)) then (if (Int.tmod (Go.bits .and .i64 a2 65535) (y386.length : Int)) < (y386.length : Int) then (waybilllaw5_ContTells.j4 kj34 x0_2 a2 a3 a4 x5_2 l6 x15_2 x18_19 t375 (y386.set ((Int.tmod (Go.bits .and .i64 a2 65535) (y386.length : Int)) : Int).toNat (Go.bits .xor .u8 (rd y386 (Int.tmod (Go.bits .and .i64 a2 65535) (y386.length : Int))) a3)) a1_0 x363001_2 a1_2) else (none)) else (none))) else (waybilllaw5_ContTells.j4 kj34 x0_2 a2 a3 a4 x5_2 l6 x15_2 x18_19 t375 y386 a1_0 x363001_2 a1_2))) else (none))) else (none)) = some r := by first | (rw [hy379]; with_reducible exact H) | (have H2_ := (Option.bind_some _ _).symm.trans H; rw [hy379]; with_reducible exact H2_) | (have H2_ := (Option.bind_some _ _).symm.trans H; with_reducible exact H2_) | with_reducible exact H | (rw [hy379]; exact H) | exact H
            have Ny379 := Aside0.mk hy379
            clear hy379
            by_cases c40 : 1 ≤ (x18_19.length : Int)
            ·
             rw [if_pos c40] at H
             have c40b0 := eq_true c40
             have c40b1 : decide (1 ≤ (x18_19.length : Int)) = true := decide_eq_true c40
             clear c40
             obtain ⟨y382, hy382⟩ : ∃ y_ : List Int, y_ = (x18_19.drop 1) := ⟨_, rfl⟩
             replace H : (if y379.length + y382.length < 140737488355328 then ((some (y379 ++ y382 : List Int)).bind fun y386 => (if (y386.length : Int) > 0 then (if (y386.length : Int) = 0 then (none) else (if 0 ≤ (Int.tmod (Go.bits .and .i64 a2 65535) (y386.length : Int)) then (if (Int.tmod (Go.bits .and .i64 a2 65535) (y386.length : Int)) < (y386.length : Int) then (waybilllaw5_ContTells.j4 kj34 x0_2 a2 a3 a4 x5_2 l6 x15_2 x18_19 t375 (y386.set ((Int.tmod (Go.bits .and .i64 a2 65535) (y386.length : Int)) : Int).toNat (Go.bits .xor .u8 (rd y386 (Int.tmod (Go.bits .and .i64 a2 65535) (y386.length : Int))) a3)) a1_0 x363001_2 a1_2) else (none)) else (none))) else (waybilllaw5_ContTells.j4 kj34 x0_2 a2 a3 a4 x5_2 l6 x15_2 x18_19 t375 y386 a1_0 x363001_2 a1_2))) else (none)) = some r := by first | (rw [hy382]; with_reducible exact H) | (have H2_ := (Option.bind_some _ _).symm.trans H; rw [hy382]; with_reducible exact H2_) | (have H2_ := (Option.bind_some _ _).symm.trans H; with_reducible exact H2_) | with_reducible exact H | (rw [hy382]; exact H) | exact H
             have Ny382 := Aside0.mk hy382
             clear hy382
             by_cases c41 : y379.length + y382.length < 140737488355328
             ·
              rw [if_pos c41] at H
              have LMc41 := Aside0.mk c41
              clear c41
              obtain ⟨y386, hy386⟩ : ∃ y_ : List Int, y_ = (y379 ++ y382) := ⟨_, rfl⟩
              replace H : (if (y386.length : Int) > 0 then (if (y386.length : Int) = 0 then (none) else (if 0 ≤ (Int.tmod (Go.bits .and .i64 a2 65535) (y386.length : Int)) then (if (Int.tmod (Go.bits .and .i64 a2 65535) (y386.length : Int)) < (y386.length : Int) then (waybilllaw5_ContTells.j4 kj34 x0_2 a2 a3 a4 x5_2 l6 x15_2 x18_19 t375 (y386.set ((Int.tmod (Go.bits .and .i64 a2 65535) (y386.length : Int)) : Int).toNat (Go.bits .xor .u8 (rd y386 (Int.tmod (Go.bits .and .i64 a2 65535) (y386.length : Int))) a3)) a1_0 x363001_2 a1_2) else (none)) else (none))) else (waybilllaw5_ContTells.j4 kj34 x0_2 a2 a3 a4 x5_2 l6 x15_2 x18_19 t375 y386 a1_0 x363001_2 a1_2)) = some r := by first | (rw [hy386]; with_reducible exact H) | (have H2_ := (Option.bind_some _ _).symm.trans H; rw [hy386]; with_reducible exact H2_) | (have H2_ := (Option.bind_some _ _).symm.trans H; with_reducible exact H2_) | with_reducible exact H | (rw [hy386]; exact H) | exact H
              have Ny386 := Aside0.mk hy386
              clear hy386
              have HC42 := Aside0.mk H
              clear H
              go_upto_if 78 with (first | ((with_reducible refine gate_dst (N := 72) rfl ?_); (try (refine gate_guard (by rfl) ?_; dsimp only)); refine Kd.R_lit (Kd.int .u8) _ 5 ?hg (N := 72) ?hd (xs := ([] : List Int)) (inner := []) (ok := fun _ => True) (okp := fun _ => True) ?hr ?hp (fun _ hk => hk) trivial (Below.refl _ _) (Nat.le_refl _) (by simp) ?_; (case hd => rfl); (case hg => rfl); (case hr => first | (go_simp; done) | (go_simp; rfl)); (case hp => exact (Reps.none _ _)); intro v380 w43 ho44 hb hg_ hnew_; clear hg_ hnew_; (first | rw [← Ny379.out] at ho44 | (simp only [Int.reduceToNat] at ho44; rw [← Ny379.out] at ho44)); have n0_ := Aside0.mk (Kd.V_elder' (by (with_reducible repeat (first | apply Kd.V_alloc | apply Kd.V_drewN | apply Kd.V_drew)); exact HO_0.out) (Kd.R_base ho44) hb); have n1_ := Aside0.mk (Kd.R_elder' (by (with_reducible repeat (first | apply Kd.R_alloc | apply Kd.R_drewN | apply Kd.R_drew)); exact HO_18.out) (Kd.R_base ho44) hb); have n2_ := Aside0.mk (Kd.R_lower (Kd.R_new' (Kd.R_newM (M := fun k_ => (w.heap.size ≤ k_)) ho44 (below_size (by repeat (first | (with_reducible first | exact HB.out | apply below_alloc | apply pw_below_drewN | apply below_drew1 | refine below_set ?_ GE362.out) | exact HB.out))) (fun k_ h_ => h_)) (Kd.R_lt (by (with_reducible repeat (first | apply Kd.R_alloc | apply Kd.R_drewN | apply Kd.R_drew)); exact HO_18.out))) (below_size (by repeat (first | (with_reducible first | exact HB.out | apply below_alloc | apply pw_below_drewN | apply below_drew1 | refine below_set ?_ GE362.out) | exact HB.out)))); have n3_ := Aside0.mk (blk_below (g := gb362) (o := .cells #[.int .u64 a1_0, .int .i64 x363001_2, .string a1_2] 25 (0, 0)) (by (with_reducible repeat (first | refine blk_drewN ?_ _ | refine blk_drew ?_ | refine blk_alloc ?_ _)); exact BK362.out) hb); have n4_ := Aside0.mk (below_step (by repeat (first | (with_reducible first | exact HB.out | apply below_alloc | apply pw_below_drewN | apply below_drew1 | refine below_set ?_ GE362.out) | exact HB.out)) hb); clear HO_0; clear HO_18; clear BK362; clear HB; have HO_0 := n0_; have HO_18 := n1_; have HO381 := n2_; have BK362 := n3_; have HB := n4_; clear n0_ n1_ n2_ n3_ n4_; clear hb ho44; obtain ⟨Ao46, co46, eo46⟩ := Kd.R_slice HO_18.out; subst eo46; have q45 : (1 : Int) ≤ ((x18_19.length : Int) : Int) := of_decide_eq_true (by first | (with_reducible assumption) | assumption); obtain ⟨i045, hi045, _, hsz45, _⟩ := info_parts info5; have hroom45 : x18_19.length ≤ co46 := (Kd.R_reads' HO_18.out).2.1; have hC45 : Kd.C (Kd.int .u8) _ Ao46 x18_19.length x18_19 := (Kd.R_reads' HO_18.out).2.2; have hcut45 := cut_from (P := Try.prog) 26 5 .i64 Try.underlying26 hi045 1 hsz45 Ao46 x18_19.length co46 1 (by omega) q45; have hr45 := Kd.C_drop (m := (1 : Int).toNat) (c := co46) hC45 (by omega) hroom45; obtain ⟨A45, hA45⟩ : ∃ A1, A1 = (if co46 = (1 : Int).toNat then Ao46 else (Ao46 : Option Addr).map (·.add ((1 : Int).toNat * 1))) := ⟨_, rfl⟩; obtain ⟨c45, hc45⟩ : ∃ c1, c1 = co46 - (1 : Int).toNat := ⟨_, rfl⟩; have hy45 : y382.length = x18_19.length - (1 : Int).toNat := (by rw [Ny382.out, List.length_drop] <;> omega); rw [show (x18_19).drop (1 : Int).toNat = y382 from Ny382.out.symm] at hr45; replace hr45 : Kd.C (Kd.int .u8) _ A45 y382.length y382 := (by rw [hA45]; exact hr45); rw [← hy45, ← hA45, ← hc45] at hcut45; have HR385 := Aside0.mk hr45; have HC385 := Aside0.mk (show y382.length ≤ c45 from by rw [hy45, hc45]; exact Nat.sub_le_sub_right hroom45 _); clear hr45 hC45 hroom45 hi045 hsz45 hc45; have KY45 := Aside0.mk hy45; have KA45 := Aside0.mk hA45; clear hy45 hA45; have KL45 := Aside0.mk (show 1 ≤ x18_19.length from by omega); replace q45 := eq_true q45) | ((with_reducible refine gate_builtin (b := .append) (xs := #[.tmp 72, .tmp 74]) rfl ?_); (try (refine gate_guard (by rfl) ?_; dsimp only)); at_builtin; refine Kd.R_append_rows (Kd.int .u8) (w0 := w) w.heap.size rfl (.tmp 72) (.tmp 74) 26 5 (.int .u8 0) 1 rfl Try.underlying26 info5 rfl (by decide) (by omega) v380 y379 y382 _ _ _ (fun k_ => (w.heap.size ≤ k_) ∧ some k_ ≠ (.slice Ao46 x18_19.length co46 : Value).ownBlock) (fun _ => False) rfl rfl ?aO ?aR (fun _ _ h => h) (fun _ h => h.elim) ?aF ?aB ?aS ?aL ?_; (case aR => repeat (first | exact (by repeat (first | (with_reducible exact HR385.out) | (with_reducible refine Kd.C_alloc ?_ _) | (with_reducible refine Kd.C_drewN ?_ _) | (with_reducible refine Kd.C_drew ?_) | exact HR385.out)) | (with_reducible refine Kd.C_alloc ?_ _) | (with_reducible refine Kd.C_drewN ?_ _) | (with_reducible refine Kd.C_drew ?_))); (case aB => exact (by repeat (first | (with_reducible first | exact HB.out | apply below_alloc | apply pw_below_drewN | apply below_drew1 | refine below_set ?_ GE362.out) | exact HB.out))); (case aF => exact (fun k_ hk => ⟨(Nat.le_trans (below_size (by repeat (first | (with_reducible first | exact HB.out | apply below_alloc | apply pw_below_drewN | apply below_drew1 | refine below_set ?_ GE362.out) | exact HB.out))) hk), Kd.fresh' (Kd.R_lt (by (with_reducible repeat (first | apply Kd.R_alloc | apply Kd.R_drewN | apply Kd.R_drew)); exact HO_18.out)) k_ hk⟩)); (case aO => exact (by (with_reducible repeat (first | apply Kd.R_alloc | apply Kd.R_drewN | apply Kd.R_drew)); exact Kd.R_mono HO381.out (fun _ hk => ⟨hk.1.1, hk.2⟩))); (case aS => exact (below_size (by repeat (first | (with_reducible first | exact HB.out | apply below_alloc | apply pw_below_drewN | apply below_drew1 | refine below_set ?_ GE362.out) | exact HB.out)))); (case aL => have := LMc41.out; omega); intro v387 w47 ho hb hg hat; rw [← Ny386.out] at ho; have n0_ := Aside0.mk (Kd.V_afterv (ok := (fun k_ => (P0_ k_ ∨ w.heap.size ≤ k_) ∧ some k_ ≠ (.slice Ao46 x18_19.length co46 : Value).ownBlock ∧ k_ ≠ gb362)) (by (with_reducible repeat (first | apply Kd.V_alloc | apply Kd.V_drewN | apply Kd.V_drew)); exact HO_0.out) hg hat); have n1_ := Aside0.mk (Kd.R_after (ok := (fun k_ => (w.heap.size ≤ k_))) (by (with_reducible repeat (first | apply Kd.R_alloc | apply Kd.R_drewN | apply Kd.R_drew)); exact HO_18.out) hg hat); have n2_ := Aside0.mk (blk_grown (g := gb362) (o := .cells #[.int .u64 a1_0, .int .i64 x363001_2, .string a1_2] 25 (0, 0)) (by (with_reducible repeat (first | refine blk_drewN ?_ _ | refine blk_drew ?_ | refine blk_alloc ?_ _)); exact BK362.out) hg (Kd.R_ne HO381.out BK362.out (by decide))); have n3_ := Aside0.mk (hb); have n4_ := Aside0.mk ((show Kd.C (Kd.int .u8) w47 A45 y382.length y382 from by rw [Ny382.out, KA45.out]; exact Kd.C_drop (m := 1) (c := co46) ((Kd.R_reads' (Kd.R_after (ok := (fun k_ => (w.heap.size ≤ k_))) (by (with_reducible repeat (first | apply Kd.R_alloc | apply Kd.R_drewN | apply Kd.R_drew)); exact HO_18.out) hg hat)).2.2) KL45.out ((Kd.R_reads' (Kd.R_after (ok := (fun k_ => (w.heap.size ≤ k_))) (by (with_reducible repeat (first | apply Kd.R_alloc | apply Kd.R_drewN | apply Kd.R_drew)); exact HO_18.out) hg hat)).2.1))); have n5_ := Aside0.mk (ho); clear HO_0; clear HO_18; clear BK362; clear HB; clear HR385; clear HO381; have HO_0 := n0_; have HO_18 := n1_; have BK362 := n2_; have HB := n3_; have HR385 := n4_; have HO388 := n5_; clear n0_ n1_ n2_ n3_ n4_ n5_; clear ho hb hg hat; obtain ⟨Ao48, co48, eo48⟩ := Kd.R_slice HO388.out; subst eo48))
              (try simp only [Act.put, List.setIfInBounds_toArray, List.set_cons_zero, List.set_cons_succ])
              go_cut [] (fun wc => ∃ (kq : Nat) (x20_41 : List Int), Aside0 (waybilllaw5_ContTells.j4 kq x0_2 a2 a3 a4 x5_2 l6 x15_2 x18_19 t375 x20_41 a1_0 x363001_2 a1_2 = some r) ∧ Aside0 (kq ≤ kj34) ∧ Aside0 (Kd.V (Kd.int .u8) 5 wc w.heap.size (fun k_ => (P0_ k_ ∨ w.heap.size ≤ k_) ∧ some k_ ≠ ((.slice Ao46 x18_19.length co46) : Value).ownBlock ∧ some k_ ≠ ((.slice Ao48 y386.length co48) : Value).ownBlock ∧ k_ ≠ gb362) (.slice A0 x0_2.length c0) x0_2) ∧ Aside0 (Kd.R (Kd.int .u8) 5 wc w.heap.size (fun k_ => (w.heap.size ≤ k_) ∧ some k_ ≠ ((.slice Ao48 y386.length co48) : Value).ownBlock) (.slice Ao46 x18_19.length co46) x18_19) ∧ Aside0 (Kd.R (Kd.int .u8) 5 wc w.heap.size (fun k_ => (w.heap.size ≤ k_) ∧ some k_ ≠ ((.slice Ao46 x18_19.length co46) : Value).ownBlock) (.slice Ao48 y386.length co48) x20_41) ∧ Aside0 (wc.heap[gb362]? = some (.cells #[.int .u64 a1_0, .int .i64 x363001_2, .string a1_2] 25 (0, 0))) ∧ Aside0 (Kd.C (Kd.int .u8) wc A45 y382.length y382) ∧ Aside0 (Below w.heap.size w wc))
              case first => as_aux_lemma =>
               have H := HC42.out
               clear HC42
               by_cases c49 : (y386.length : Int) > 0
               ·
                rw [if_pos c49] at H
                have c49b0 : decide (0 < (y386.length : Int)) = true := decide_eq_true c49
                have c49b1 : decide (0 < y386.length) = true := decide_eq_true (by omega)
                clear c49
                (first | rw [c49b0] | rw [c49b2] | rw [c49b1] | (simp only [i64_w, i32_w]; rw [c49b0]) | skip)
                by_cases c50 : (y386.length : Int) = 0
                ·
                 rw [if_pos c50] at H
                 exact absurd H (by simp)
                ·
                 rw [if_neg c50] at H
                 have c50b0 : ((y386.length : Int) == 0) = false := beq_eq_false_iff_ne.mpr c50
                 have c50b1 : ((y386.length : Int) != 0) = true := bne_iff_ne.mpr c50
                 have c50b2 : ¬ (y386 = []) := fun h_ => c50 (by rw [h_]; rfl)
                 obtain ⟨ji51, hji51⟩ : ∃ j_ : Int, (Int.tmod (Go.bits .and .i64 a2 65535) (y386.length : Int)) = j_ := ⟨_, rfl⟩
                 replace H : (if 0 ≤ (ji51) then (if (ji51) < (y386.length : Int) then (waybilllaw5_ContTells.j4 kj34 x0_2 a2 a3 a4 x5_2 l6 x15_2 x18_19 t375 (y386.set ((ji51) : Int).toNat (Go.bits .xor .u8 (rd y386 (ji51)) a3)) a1_0 x363001_2 a1_2) else (none)) else (none)) = some r := by first | (rw [hji51] at H; exact H) | (simp only [hji51] at H ⊢; exact H)
                 by_cases c52 : 0 ≤ (ji51)
                 ·
                  rw [if_pos c52] at H
                  have c52b0 : decide (0 ≤ (ji51)) = true := decide_eq_true c52
                  clear c52
                  by_cases c53 : (ji51) < (y386.length : Int)
                  ·
                   rw [if_pos c53] at H
                   have c53b0 : decide ((ji51) < (y386.length : Int)) = true := decide_eq_true c53
                   clear c53
                   obtain ⟨y390, hy390⟩ : ∃ y_ : List Int, y_ = (y386.set ((ji51) : Int).toNat (Go.bits .xor .u8 (rd y386 (ji51)) a3)) := ⟨_, rfl⟩
                   replace H : (waybilllaw5_ContTells.j4 kj34 x0_2 a2 a3 a4 x5_2 l6 x15_2 x18_19 t375 y390 a1_0 x363001_2 a1_2) = some r := by first | (rw [hy390]; with_reducible exact H) | (have H2_ := (Option.bind_some _ _).symm.trans H; rw [hy390]; with_reducible exact H2_) | (have H2_ := (Option.bind_some _ _).symm.trans H; with_reducible exact H2_) | with_reducible exact H | (rw [hy390]; exact H) | exact H
                   have Ny390 := Aside0.mk hy390
                   clear hy390
                   have H' := Aside0.mk H
                   clear H
                   have p389 : 0 ≤ ((ji51) : Int) := of_decide_eq_true (by first | (with_reducible assumption) | assumption)
                   have q389 : (ji51) < (y386.length : Int) := of_decide_eq_true (by first | (with_reducible assumption) | assumption)
                   obtain ⟨ad389, e389, hx389_0⟩ := Kd.at_int (Kd.R_reads' HO388.out).2.2 (ji51) p389 q389
                   cases e389
                   replace p389 := eq_true p389
                   replace q389 := eq_true q389
                   have p54 : 0 ≤ ((ji51) : Int) := of_decide_eq_true (by first | (with_reducible assumption) | assumption)
                   have q54 : ((ji51) : Int) < ((y386.length : Int) : Int) := of_decide_eq_true (by first | (with_reducible assumption) | assumption)
                   obtain ⟨go54, co54, eo54, gb54, gl54, cl54, HG54⟩ := Kd.R_form HO388.out (by omega)
                   (first | cases eo54 | (injection eo54 with ea_ en_ ec_; (first | subst ea_ | (injection ea_ with ea_; subst ea_)); subst ec_; clear en_))
                   have GB54 := Aside0.mk gb54
                   have GG54 := Aside0.mk HG54
                   clear gb54 gl54 HG54
                   (first | simp only [add_plain] at hx389_0 | skip)
                   obtain ⟨hx54_0, hf54_0⟩ := Kd.R_celln 0 HO388.out ((ji51) : Int) p54 q54
                   replace p54 := eq_true p54
                   replace q54 := eq_true q54
                   have HP55 := Kd.R_putg HO388.out ((ji51) : Int) (Go.bits .xor .u8 (rd y386 (ji51)) a3)
                   go_wp2_with (first | ((with_reducible refine gate_store (t := 5) (p := 89) rfl ?_); refine store_event (t := 5) (p := 89) (v := ?vo_w56) (w1 := (w47.setCell ⟨go54, ((ji51) : Int).toNat, none⟩ (.int .u8 (Go.bits .xor .u8 (rd y386 (ji51)) a3)))) ?hg ?ho ?hn ?hr ?_; (case ho => rfl); (case hg => rfl); (case hn => rfl); (case hr => first | (go_simp; done) | (go_simp; rfl)); intro w56 hw; have hg : w47.grownBy w56 (some go54) := (by rw [hw]; exact HP55.2); have hp_ : Kd.R (Kd.int .u8) 5 w56 w.heap.size (fun k_ => (w.heap.size ≤ k_) ∧ some k_ ≠ (.slice Ao46 x18_19.length co46 : Value).ownBlock) (.slice (some ⟨go54, 0, none⟩) y386.length co48) y390 := (by rw [hw, Ny390.out]; exact HP55.1); clear HP55; have n0_ := Aside0.mk (Kd.V_afterv (v := (.slice (some ⟨go54, 0, none⟩) y386.length co48)) (v1 := (.slice (some ⟨go54, 0, none⟩) y386.length co48)) (ok := (fun k_ => (P0_ k_ ∨ w.heap.size ≤ k_) ∧ some k_ ≠ (.slice Ao46 x18_19.length co46 : Value).ownBlock ∧ k_ ≠ gb362)) (by (with_reducible repeat (first | apply Kd.V_alloc | apply Kd.V_drewN | apply Kd.V_drew)); exact HO_0.out) hg (.inl rfl)); have n1_ := Aside0.mk (Kd.R_after (v := (.slice (some ⟨go54, 0, none⟩) y386.length co48)) (v1 := (.slice (some ⟨go54, 0, none⟩) y386.length co48)) (ok := (fun k_ => (w.heap.size ≤ k_))) (by (with_reducible repeat (first | apply Kd.R_alloc | apply Kd.R_drewN | apply Kd.R_drew)); exact HO_18.out) hg (.inl rfl)); have n2_ := Aside0.mk (blk_grown (g := gb362) (o := .cells #[.int .u64 a1_0, .int .i64 x363001_2, .string a1_2] 25 (0, 0)) (by (with_reducible repeat (first | refine blk_drewN ?_ _ | refine blk_drew ?_ | refine blk_alloc ?_ _)); exact BK362.out) hg (Kd.R_ne HO388.out BK362.out (by decide))); have n3_ := Aside0.mk (hp_); have n4_ := Aside0.mk ((by rw [hw]; exact below_set (HB.out) GB54.out : Below w.heap.size w w56)); have n5_ := Aside0.mk ((show Kd.C (Kd.int .u8) w56 A45 y382.length y382 from by rw [Ny382.out, KA45.out]; exact Kd.C_drop (m := 1) (c := co46) ((Kd.R_reads' (Kd.R_after (v := (.slice (some ⟨go54, 0, none⟩) y386.length co48)) (v1 := (.slice (some ⟨go54, 0, none⟩) y386.length co48)) (ok := (fun k_ => (w.heap.size ≤ k_))) (by (with_reducible repeat (first | apply Kd.R_alloc | apply Kd.R_drewN | apply Kd.R_drew)); exact HO_18.out) hg (.inl rfl))).2.2) KL45.out ((Kd.R_reads' (Kd.R_after (v := (.slice (some ⟨go54, 0, none⟩) y386.length co48)) (v1 := (.slice (some ⟨go54, 0, none⟩) y386.length co48)) (ok := (fun k_ => (w.heap.size ≤ k_))) (by (with_reducible repeat (first | apply Kd.R_alloc | apply Kd.R_drewN | apply Kd.R_drew)); exact HO_18.out) hg (.inl rfl))).2.1))); clear HO_0; clear HO_18; clear BK362; clear HO388; clear HB; clear HR385; have HO_0 := n0_; have HO_18 := n1_; have BK362 := n2_; have HO388 := n3_; have HB := n4_; have HR385 := n5_; clear n0_ n1_ n2_ n3_ n4_ n5_; clear hg hw hp_))
                   go_meet
                   case rel => exact ⟨_, (y390), H', ⟨by have := HJ7.out; have := HK2.out; have := HJ19.out; have := HJ34.out; first | omega | exact Nat.le_refl _⟩, ⟨by (try simp only [hl0_2]); (with_reducible repeat (first | apply Kd.V_alloc | apply Kd.V_drewN | apply Kd.V_drew)); exact Kd.V_mono HO_0.out (fun _ hk => ⟨hk.1.1, ⟨hk.1.2.1, ⟨hk.2, hk.1.2.2⟩⟩⟩)⟩, ⟨by (try simp only [hl0_2]); (with_reducible repeat (first | apply Kd.R_alloc | apply Kd.R_drewN | apply Kd.R_drew)); exact HO_18.out⟩, ⟨by (try simp only [hl0_2]); (with_reducible repeat (first | apply Kd.R_alloc | apply Kd.R_drewN | apply Kd.R_drew)); exact HO388.out⟩, ⟨by (try simp only [hl0_2]); (with_reducible repeat (first | refine blk_drewN ?_ _ | refine blk_drew ?_ | refine blk_alloc ?_ _)); exact BK362.out⟩, ⟨by repeat (first | (with_reducible exact HR385.out) | (with_reducible refine Kd.C_alloc ?_ _) | (with_reducible refine Kd.C_drewN ?_ _) | (with_reducible refine Kd.C_drew ?_) | exact HR385.out)⟩, ⟨by repeat (first | (with_reducible first | exact HB.out | apply below_alloc | apply pw_below_drewN | apply below_drew1 | refine below_set ?_ GE362.out) | exact HB.out)⟩⟩
                  ·
                   rw [if_neg c53] at H
                   exact absurd H (by simp)
                 ·
                  rw [if_neg c52] at H
                  exact absurd H (by simp)
               ·
                rw [if_neg c49] at H
                have c49b0 : decide (0 < (y386.length : Int)) = false := decide_eq_false c49
                have c49b1 : decide (0 < y386.length) = false := decide_eq_false (by omega)
                clear c49
                (first | rw [c49b0] | rw [c49b2] | rw [c49b1] | (simp only [i64_w, i32_w]; rw [c49b0]) | skip)
                have H' := Aside0.mk H
                clear H
                go_wp2
                go_meet
                case rel => exact ⟨_, (y386), H', ⟨by have := HJ7.out; have := HK2.out; have := HJ19.out; have := HJ34.out; first | omega | exact Nat.le_refl _⟩, ⟨by (try simp only [hl0_2]); (with_reducible repeat (first | apply Kd.V_alloc | apply Kd.V_drewN | apply Kd.V_drew)); exact Kd.V_mono HO_0.out (fun _ hk => ⟨hk.1.1, ⟨hk.1.2.1, ⟨hk.2, hk.1.2.2⟩⟩⟩)⟩, ⟨by (try simp only [hl0_2]); (with_reducible repeat (first | apply Kd.R_alloc | apply Kd.R_drewN | apply Kd.R_drew)); exact HO_18.out⟩, ⟨by (try simp only [hl0_2]); (with_reducible repeat (first | apply Kd.R_alloc | apply Kd.R_drewN | apply Kd.R_drew)); exact HO388.out⟩, ⟨by (try simp only [hl0_2]); (with_reducible repeat (first | refine blk_drewN ?_ _ | refine blk_drew ?_ | refine blk_alloc ?_ _)); exact BK362.out⟩, ⟨by repeat (first | (with_reducible exact HR385.out) | (with_reducible refine Kd.C_alloc ?_ _) | (with_reducible refine Kd.C_drewN ?_ _) | (with_reducible refine Kd.C_drew ?_) | exact HR385.out)⟩, ⟨by repeat (first | (with_reducible first | exact HB.out | apply below_alloc | apply pw_below_drewN | apply below_drew1 | refine below_set ?_ GE362.out) | exact HB.out)⟩⟩
              case rest => as_aux_lemma =>
               clear HC42
               try clear c1
               try clear p2
               try clear c3
               try clear p3
               try clear q3
               try clear hx3
               try clear hcv3
               try clear c4
               try clear q4
               try clear c5
               try clear p5
               try clear q5
               try clear hx5
               try clear c6
               try clear c8
               try clear c10
               try clear c10b0
               try clear c10b1
               try clear c11
               try clear c11b0
               try clear c11b1
               try clear c14
               try clear c15
               try clear c16
               try clear c17
               try clear c17b0
               try clear c30
               try clear c31
               try clear c36
               try clear c36b0
               try clear c36b1
               try clear c36b2
               try clear hcv37
               try clear p38
               try clear q38
               try clear hx38
               try clear hcv38
               try clear c39
               try clear c40
               try clear c40b0
               try clear c40b1
               try clear c41
               try clear c45
               try clear q45
               try clear c49
               try clear c49b0
               try clear c49b1
               try clear c50
               try clear c50b0
               try clear c50b1
               try clear c50b2
               try clear c52
               try clear c52b0
               try clear c53
               try clear c53b0
               try clear p54
               try clear q54
               try clear hx54
               try clear hf54
               try clear hcut45
               try clear hcz12_0
               try clear hcz12_1
               try clear hcz12_2
               try clear hcz13_0
               try clear hcz13_1
               try clear hcz13_2
               try clear hcz23_0
               try clear hcz23_1
               try clear hcz23_2
               try clear hcz28_0
               try clear hcz28_1
               try clear hcz28_2
               try clear hcz32_0
               try clear hcz32_1
               try clear hcz32_2
               try clear hfz12_0
               try clear hfz12_1
               try clear hfz12_2
               try clear hfz13_0
               try clear hfz13_1
               try clear hfz13_2
               try clear hfz23_0
               try clear hfz23_1
               try clear hfz23_2
               try clear hfz28_0
               try clear hfz28_1
               try clear hfz28_2
               try clear hfz32_0
               try clear hfz32_1
               try clear hfz32_2
               try clear hx389_0
               try clear hx54_0
               try clear p2
               try clear p389
               try clear p54
               try clear q389
               try clear q45
               try clear q54
               obtain ⟨kq, x20_41, HA, HJ41, HO_0, HO_18, HO_20, BK362, HR385, HB⟩ := hcut
               have hl20_41 := (Kd.R_reads' HO_20.out).1
               rw [hl20_41] at HO_20
               (try simp only [hl20_41])
               (try simp only [hl20_41] at BK362)
               (try simp only [hl20_41] at HO_0)
               (try simp only [hl20_41] at HO_18)
               cases kq with
               | zero => exact absurd HA.out (by simp [waybilllaw5_ContTells.j4])
               | succ kj41 =>
                have H := HA.out
                clear HA
                simp only [waybilllaw5_ContTells.j4] at H
                have H' := Aside0.mk H
                clear H
                go_wp2
                go_loopg [21] kj41 (fun kq v21 w' => ∃ (x21_6 : Int), v21 = .int .i64 x21_6 ∧ Aside0 (waybilllaw5_ContTells.l1 kq x0_2 a2 a3 a4 x5_2 l6 x15_2 x18_19 t375 x20_41 x21_6 a1_0 x363001_2 a1_2 = some r) ∧ Aside0 (kq ≤ kj41) ∧ Aside0 (Kd.V (Kd.int .u8) 5 w' w.heap.size (fun k_ => (P0_ k_ ∨ w.heap.size ≤ k_) ∧ k_ ≠ gb362) (.slice A0 x0_2.length c0) x0_2) ∧ Aside0 (Kd.V (Kd.int .u8) 5 w' w.heap.size (fun k_ => (P0_ k_ ∨ w.heap.size ≤ k_) ∧ k_ ≠ gb362) (.slice Ao46 x18_19.length co46) x18_19) ∧ Aside0 (Kd.V (Kd.int .u8) 5 w' w.heap.size (fun k_ => (P0_ k_ ∨ w.heap.size ≤ k_) ∧ k_ ≠ gb362) (.slice Ao48 x20_41.length co48) x20_41) ∧ Aside0 (w'.heap[gb362]? = some (.cells #[.int .u64 a1_0, .int .i64 x363001_2, .string a1_2] 25 (0, 0))) ∧ Aside0 (Below w.heap.size w w'))
                case atStart => exact ⟨(0), (by first | rfl | (simp; done) | (simp [*]; done)), H', ⟨Nat.le_refl _⟩, ⟨by (try simp only [hl0_2]); (try simp only [hl20_41]); (with_reducible repeat (first | apply Kd.V_alloc | apply Kd.V_drewN | apply Kd.V_drew)); exact Kd.V_mono HO_0.out (fun _ hk => ⟨hk.1, hk.2.2.2⟩)⟩, ⟨Kd.V_mono (Kd.R_V (ok := fun k_ => ((w.heap.size ≤ k_) ∧ k_ ≠ gb362)) (by (try simp only [hl0_2]); (try simp only [hl20_41]); (with_reducible repeat (first | apply Kd.R_alloc | apply Kd.R_drewN | apply Kd.R_drew)); exact Kd.R_mono (Kd.R_types HO_18.out BK362.out (by decide)) (fun _ hk => ⟨hk.1.1, hk.2⟩))) (fun k_ hk => by first | exact ⟨(.inr (hk.1)), hk.2⟩ | exact (.inr (hk)))⟩, ⟨Kd.V_mono (Kd.R_V (ok := fun k_ => ((w.heap.size ≤ k_) ∧ k_ ≠ gb362)) (by (try simp only [hl0_2]); (try simp only [hl20_41]); (with_reducible repeat (first | apply Kd.R_alloc | apply Kd.R_drewN | apply Kd.R_drew)); exact Kd.R_mono (Kd.R_types HO_20.out BK362.out (by decide)) (fun _ hk => ⟨hk.1.1, hk.2⟩))) (fun k_ hk => by first | exact ⟨(.inr (hk.1)), hk.2⟩ | exact (.inr (hk)))⟩, ⟨by (try simp only [hl0_2]); (try simp only [hl20_41]); (with_reducible repeat (first | refine blk_drewN ?_ _ | refine blk_drew ?_ | refine blk_alloc ?_ _)); exact BK362.out⟩, ⟨by repeat (first | (with_reducible first | exact HB.out | apply below_alloc | apply pw_below_drewN | apply below_drew1 | refine below_set ?_ GE362.out) | exact HB.out)⟩⟩
                case round => as_aux_lemma =>
                 clear H'
                 try clear c1
                 try clear p2
                 try clear c3
                 try clear p3
                 try clear q3
                 try clear hx3
                 try clear hcv3
                 try clear c4
                 try clear q4
                 try clear c5
                 try clear p5
                 try clear q5
                 try clear hx5
                 try clear c6
                 try clear c8
                 try clear c10
                 try clear c10b0
                 try clear c10b1
                 try clear c11
                 try clear c11b0
                 try clear c11b1
                 try clear c14
                 try clear c15
                 try clear c16
                 try clear c17
                 try clear c17b0
                 try clear c30
                 try clear c31
                 try clear c36
                 try clear c36b0
                 try clear c36b1
                 try clear c36b2
                 try clear hcv37
                 try clear p38
                 try clear q38
                 try clear hx38
                 try clear hcv38
                 try clear c39
                 try clear c40
                 try clear c40b0
                 try clear c40b1
                 try clear c41
                 try clear c45
                 try clear q45
                 try clear c49
                 try clear c49b0
                 try clear c49b1
                 try clear c50
                 try clear c50b0
                 try clear c50b1
                 try clear c50b2
                 try clear c52
                 try clear c52b0
                 try clear c53
                 try clear c53b0
                 try clear p54
                 try clear q54
                 try clear hx54
                 try clear hf54
                 try clear hcut45
                 try clear hcz12_0
                 try clear hcz12_1
                 try clear hcz12_2
                 try clear hcz13_0
                 try clear hcz13_1
                 try clear hcz13_2
                 try clear hcz23_0
                 try clear hcz23_1
                 try clear hcz23_2
                 try clear hcz28_0
                 try clear hcz28_1
                 try clear hcz28_2
                 try clear hcz32_0
                 try clear hcz32_1
                 try clear hcz32_2
                 try clear hfz12_0
                 try clear hfz12_1
                 try clear hfz12_2
                 try clear hfz13_0
                 try clear hfz13_1
                 try clear hfz13_2
                 try clear hfz23_0
                 try clear hfz23_1
                 try clear hfz23_2
                 try clear hfz28_0
                 try clear hfz28_1
                 try clear hfz28_2
                 try clear hfz32_0
                 try clear hfz32_1
                 try clear hfz32_2
                 try clear hx389_0
                 try clear hx54_0
                 try clear p2
                 try clear p3
                 try clear p38
                 try clear p389
                 try clear p5
                 try clear p54
                 try clear q3
                 try clear q38
                 try clear q389
                 try clear q4
                 try clear q45
                 try clear q5
                 try clear q54
                 obtain ⟨x21_6, rfl, HA, HK6, HO_0, HO_18, HO_20, BK362, HB⟩ := hrel
                 cases gk with
                 | zero => exact absurd HA.out (by simp [waybilllaw5_ContTells.l1])
                 | succ k6 =>
                  have H := HA.out
                  clear HA
                  simp only [waybilllaw5_ContTells.l1] at H
                  by_cases c57 : x21_6 < 4
                  ·
                   rw [if_pos c57] at H
                   have c57b0 : decide (x21_6 < 4) = true := decide_eq_true c57
                   clear c57
                   by_cases c58 : (x18_19.length : Int) = 0
                   ·
                    rw [if_pos c58] at H
                    exact absurd H (by simp)
                   ·
                    rw [if_neg c58] at H
                    have c58b0 : ((x18_19.length : Int) == 0) = false := beq_eq_false_iff_ne.mpr c58
                    have c58b1 : ((x18_19.length : Int) != 0) = true := bne_iff_ne.mpr c58
                    have c58b2 : ¬ (x18_19 = []) := fun h_ => c58 (by rw [h_]; rfl)
                    obtain ⟨ji59, hji59⟩ : ∃ j_ : Int, (wrap64 (1 + (Int.tmod (Go.bits .and .i64 a4 65535) (x18_19.length : Int)))) = j_ := ⟨_, rfl⟩
                    replace H : (if 1 ≤ (ji59) then (if (ji59) ≤ (x18_19.length : Int) then ((some (([] : List Int) : List Int)).bind fun y396 => (if 1 ≤ (x18_19.length : Int) then ((some (x18_19.drop 1 : List Int)).bind fun y399 => (if y396.length + y399.length < 140737488355328 then ((some (y396 ++ y399 : List Int)).bind fun y404 => ((some (([a3] : List Int) : List Int)).bind fun y407 => (if y404.length + y407.length < 140737488355328 then (if 0 ≤ x21_6 then ((some (([x0_2, x20_41, ((x18_19.take ((ji59) : Int).toNat).drop 1), (y404 ++ y407)] : List (List Int)).getD (x21_6).toNat [] : List Int)).bind fun y413 => ((cont_Parse.f k6 y413).bind fun bt416 => ((waybillref1_HeadOf.f k6 y413).bind fun bt421 => (if bt416.2.2.2 = bt421.2.2.2 then (if (!(bt416.1 == bt421.1) || (!(bt416.2.1 == bt421.2.1) || (!(bt416.2.2.1.toList == bt421.2.2.1.toList)))) = true then (none) else (waybilllaw5_ContTells.l1 k6 x0_2 a2 a3 a4 x5_2 l6 x15_2 x18_19 t375 x20_41 (wrap64 (x21_6 + 1)) a1_0 x363001_2 a1_2)) else (none))))) else (none)) else (none)))) else (none))) else (none))) else (none)) else (none)) = some r := by first | (rw [hji59] at H; exact H) | (simp only [hji59] at H ⊢; exact H)
                    have hji59w : (IntKind.i64.wrap (1 + (Int.tmod (Go.bits .and .i64 a4 65535) (x18_19.length : Int)))) = ji59 := (i64_w _).trans hji59
                    by_cases c60 : 1 ≤ (ji59)
                    ·
                     rw [if_pos c60] at H
                     have c60b0 := eq_true c60
                     have c60b1 : decide (1 ≤ (ji59)) = true := decide_eq_true c60
                     clear c60
                     by_cases c61 : (ji59) ≤ (x18_19.length : Int)
                     ·
                      rw [if_pos c61] at H
                      have c61b0 := eq_true c61
                      have c61b1 : decide ((ji59) ≤ (x18_19.length : Int)) = true := decide_eq_true c61
                      clear c61
                      obtain ⟨y391, hy391⟩ : ∃ y_ : List Int, y_ = ((x18_19.take ((ji59) : Int).toNat).drop 1) := ⟨_, rfl⟩
                      replace H : ((some (([] : List Int) : List Int)).bind fun y396 => (if 1 ≤ (x18_19.length : Int) then ((some (x18_19.drop 1 : List Int)).bind fun y399 => (if y396.length + y399.length < 140737488355328 then ((some (y396 ++ y399 : List Int)).bind fun y404 => ((some (([a3] : List Int) : List Int)).bind fun y407 => (if y404.length + y407.length < 140737488355328 then (if 0 ≤ x21_6 then ((some (([x0_2, x20_41, y391, (y404 ++ y407)] : List (List Int)).getD (x21_6).toNat [] : List Int)).bind fun y413 => ((cont_Parse.f k6 y413).bind fun bt416 => ((waybillref1_HeadOf.f k6 y413).bind fun bt421 => (if bt416.2.2.2 = bt421.2.2.2 then (if (!(bt416.1 == bt421.1) || (!(bt416.2.1 == bt421.2.1) || (!(bt416.2.2.1.toList == bt421.2.2.1.toList)))) = true then (none) else (waybilllaw5_ContTells.l1 k6 x0_2 a2 a3 a4 x5_2 l6 x15_2 x18_19 t375 x20_41 (wrap64 (x21_6 + 1)) a1_0 x363001_2 a1_2)) else (none))))) else (none)) else (none)))) else (none))) else (none))) = some r := by first | (rw [hy391]; with_reducible exact H) | (have H2_ := (Option.bind_some _ _).symm.trans H; rw [hy391]; with_reducible exact H2_) | (have H2_ := (Option.bind_some _ _).symm.trans H; with_reducible exact H2_) | with_reducible exact H | (rw [hy391]; exact H) | exact H
                      have Ny391 := Aside0.mk hy391
                      clear hy391
                      obtain ⟨y396, hy396⟩ : ∃ y_ : List Int, y_ = (([] : List Int)) := ⟨_, rfl⟩
                      replace H : (if 1 ≤ (x18_19.length : Int) then ((some (x18_19.drop 1 : List Int)).bind fun y399 => (if y396.length + y399.length < 140737488355328 then ((some (y396 ++ y399 : List Int)).bind fun y404 => ((some (([a3] : List Int) : List Int)).bind fun y407 => (if y404.length + y407.length < 140737488355328 then (if 0 ≤ x21_6 then ((some (([x0_2, x20_41, y391, (y404 ++ y407)] : List (List Int)).getD (x21_6).toNat [] : List Int)).bind fun y413 => ((cont_Parse.f k6 y413).bind fun bt416 => ((waybillref1_HeadOf.f k6 y413).bind fun bt421 => (if bt416.2.2.2 = bt421.2.2.2 then (if (!(bt416.1 == bt421.1) || (!(bt416.2.1 == bt421.2.1) || (!(bt416.2.2.1.toList == bt421.2.2.1.toList)))) = true then (none) else (waybilllaw5_ContTells.l1 k6 x0_2 a2 a3 a4 x5_2 l6 x15_2 x18_19 t375 x20_41 (wrap64 (x21_6 + 1)) a1_0 x363001_2 a1_2)) else (none))))) else (none)) else (none)))) else (none))) else (none)) = some r := by first | (rw [hy396]; with_reducible exact H) | (have H2_ := (Option.bind_some _ _).symm.trans H; rw [hy396]; with_reducible exact H2_) | (have H2_ := (Option.bind_some _ _).symm.trans H; with_reducible exact H2_) | with_reducible exact H | (rw [hy396]; exact H) | exact H
                      have Ny396 := Aside0.mk hy396
                      clear hy396
                      by_cases c62 : 1 ≤ (x18_19.length : Int)
                      ·
                       rw [if_pos c62] at H
                       have c62b0 := eq_true c62
                       have c62b1 : decide (1 ≤ (x18_19.length : Int)) = true := decide_eq_true c62
                       clear c62
                       obtain ⟨y399, hy399⟩ : ∃ y_ : List Int, y_ = (x18_19.drop 1) := ⟨_, rfl⟩
                       replace H : (if y396.length + y399.length < 140737488355328 then ((some (y396 ++ y399 : List Int)).bind fun y404 => ((some (([a3] : List Int) : List Int)).bind fun y407 => (if y404.length + y407.length < 140737488355328 then (if 0 ≤ x21_6 then ((some (([x0_2, x20_41, y391, (y404 ++ y407)] : List (List Int)).getD (x21_6).toNat [] : List Int)).bind fun y413 => ((cont_Parse.f k6 y413).bind fun bt416 => ((waybillref1_HeadOf.f k6 y413).bind fun bt421 => (if bt416.2.2.2 = bt421.2.2.2 then (if (!(bt416.1 == bt421.1) || (!(bt416.2.1 == bt421.2.1) || (!(bt416.2.2.1.toList == bt421.2.2.1.toList)))) = true then (none) else (waybilllaw5_ContTells.l1 k6 x0_2 a2 a3 a4 x5_2 l6 x15_2 x18_19 t375 x20_41 (wrap64 (x21_6 + 1)) a1_0 x363001_2 a1_2)) else (none))))) else (none)) else (none)))) else (none)) = some r := by first | (rw [hy399]; with_reducible exact H) | (have H2_ := (Option.bind_some _ _).symm.trans H; rw [hy399]; with_reducible exact H2_) | (have H2_ := (Option.bind_some _ _).symm.trans H; with_reducible exact H2_) | with_reducible exact H | (rw [hy399]; exact H) | exact H
                       have Ny399 := Aside0.mk hy399
                       clear hy399
                       by_cases c63 : y396.length + y399.length < 140737488355328
                       ·
                        rw [if_pos c63] at H
                        have LMc63 := Aside0.mk c63
                        clear c63
                        obtain ⟨y404, hy404⟩ : ∃ y_ : List Int, y_ = (y396 ++ y399) := ⟨_, rfl⟩
                        replace H : ((some (([a3] : List Int) : List Int)).bind fun y407 => (if y404.length + y407.length < 140737488355328 then (if 0 ≤ x21_6 then ((some (([x0_2, x20_41, y391, (y404 ++ y407)] : List (List Int)).getD (x21_6).toNat [] : List Int)).bind fun y413 => ((cont_Parse.f k6 y413).bind fun bt416 => ((waybillref1_HeadOf.f k6 y413).bind fun bt421 => (if bt416.2.2.2 = bt421.2.2.2 then (if (!(bt416.1 == bt421.1) || (!(bt416.2.1 == bt421.2.1) || (!(bt416.2.2.1.toList == bt421.2.2.1.toList)))) = true then (none) else (waybilllaw5_ContTells.l1 k6 x0_2 a2 a3 a4 x5_2 l6 x15_2 x18_19 t375 x20_41 (wrap64 (x21_6 + 1)) a1_0 x363001_2 a1_2)) else (none))))) else (none)) else (none))) = some r := by first | (rw [hy404]; with_reducible exact H) | (have H2_ := (Option.bind_some _ _).symm.trans H; rw [hy404]; with_reducible exact H2_) | (have H2_ := (Option.bind_some _ _).symm.trans H; with_reducible exact H2_) | with_reducible exact H | (rw [hy404]; exact H) | exact H
                        have Ny404 := Aside0.mk hy404
                        clear hy404
                        obtain ⟨y407, hy407⟩ : ∃ y_ : List Int, y_ = (([a3] : List Int)) := ⟨_, rfl⟩
                        replace H : (if y404.length + y407.length < 140737488355328 then (if 0 ≤ x21_6 then ((some (([x0_2, x20_41, y391, (y404 ++ y407)] : List (List Int)).getD (x21_6).toNat [] : List Int)).bind fun y413 => ((cont_Parse.f k6 y413).bind fun bt416 => ((waybillref1_HeadOf.f k6 y413).bind fun bt421 => (if bt416.2.2.2 = bt421.2.2.2 then (if (!(bt416.1 == bt421.1) || (!(bt416.2.1 == bt421.2.1) || (!(bt416.2.2.1.toList == bt421.2.2.1.toList)))) = true then (none) else (waybilllaw5_ContTells.l1 k6 x0_2 a2 a3 a4 x5_2 l6 x15_2 x18_19 t375 x20_41 (wrap64 (x21_6 + 1)) a1_0 x363001_2 a1_2)) else (none))))) else (none)) else (none)) = some r := by first | (rw [hy407]; with_reducible exact H) | (have H2_ := (Option.bind_some _ _).symm.trans H; rw [hy407]; with_reducible exact H2_) | (have H2_ := (Option.bind_some _ _).symm.trans H; with_reducible exact H2_) | with_reducible exact H | (rw [hy407]; exact H) | exact H
                        have Ny407 := Aside0.mk hy407
                        clear hy407
                        by_cases c64 : y404.length + y407.length < 140737488355328
                        ·
                         rw [if_pos c64] at H
                         have LMc64 := Aside0.mk c64
                         clear c64
                         obtain ⟨y410, hy410⟩ : ∃ y_ : List Int, y_ = (y404 ++ y407) := ⟨_, rfl⟩
                         replace H : (if 0 ≤ x21_6 then ((some (([x0_2, x20_41, y391, y410] : List (List Int)).getD (x21_6).toNat [] : List Int)).bind fun y413 => ((cont_Parse.f k6 y413).bind fun bt416 => ((waybillref1_HeadOf.f k6 y413).bind fun bt421 => (if bt416.2.2.2 = bt421.2.2.2 then (if (!(bt416.1 == bt421.1) || (!(bt416.2.1 == bt421.2.1) || (!(bt416.2.2.1.toList == bt421.2.2.1.toList)))) = true then (none) else (waybilllaw5_ContTells.l1 k6 x0_2 a2 a3 a4 x5_2 l6 x15_2 x18_19 t375 x20_41 (wrap64 (x21_6 + 1)) a1_0 x363001_2 a1_2)) else (none))))) else (none)) = some r := by first | (rw [hy410]; with_reducible exact H) | (have H2_ := (Option.bind_some _ _).symm.trans H; rw [hy410]; with_reducible exact H2_) | (have H2_ := (Option.bind_some _ _).symm.trans H; with_reducible exact H2_) | with_reducible exact H | (rw [hy410]; exact H) | exact H
                         have Ny410 := Aside0.mk hy410
                         clear hy410
                         by_cases c65 : 0 ≤ x21_6
                         ·
                          rw [if_pos c65] at H
                          have c65b0 : decide (0 ≤ x21_6) = true := decide_eq_true c65
                          clear c65
                          obtain ⟨y413, hy413⟩ : ∃ y_ : List Int, y_ = (([x0_2, x20_41, y391, y410] : List (List Int)).getD (x21_6).toNat []) := ⟨_, rfl⟩
                          replace H : ((cont_Parse.f k6 y413).bind fun bt416 => ((waybillref1_HeadOf.f k6 y413).bind fun bt421 => (if bt416.2.2.2 = bt421.2.2.2 then (if (!(bt416.1 == bt421.1) || (!(bt416.2.1 == bt421.2.1) || (!(bt416.2.2.1.toList == bt421.2.2.1.toList)))) = true then (none) else (waybilllaw5_ContTells.l1 k6 x0_2 a2 a3 a4 x5_2 l6 x15_2 x18_19 t375 x20_41 (wrap64 (x21_6 + 1)) a1_0 x363001_2 a1_2)) else (none)))) = some r := by first | (rw [hy413]; with_reducible exact H) | (have H2_ := (Option.bind_some _ _).symm.trans H; rw [hy413]; with_reducible exact H2_) | (have H2_ := (Option.bind_some _ _).symm.trans H; with_reducible exact H2_) | with_reducible exact H | (rw [hy413]; exact H) | exact H
                          have Ny413 := Aside0.mk hy413
                          clear hy413
                          replace H := Option.bind_eq_some_iff.mp H
                          obtain ⟨⟨t416, t417, t418, t419⟩, A660, H⟩ := H
                          replace H : ((waybillref1_HeadOf.f k6 y413).bind fun bt421 => (if t419 = bt421.2.2.2 then (if (!(t416 == bt421.1) || (!(t417 == bt421.2.1) || (!(t418.toList == bt421.2.2.1.toList)))) = true then (none) else (waybilllaw5_ContTells.l1 k6 x0_2 a2 a3 a4 x5_2 l6 x15_2 x18_19 t375 x20_41 (wrap64 (x21_6 + 1)) a1_0 x363001_2 a1_2)) else (none))) = some r := H
                          have A66 := Aside0.mk A660
                          clear A660
                          replace H := Option.bind_eq_some_iff.mp H
                          obtain ⟨⟨t421, t422, t423, t424⟩, A670, H⟩ := H
                          replace H : (if t419 = t424 then (if (!(t416 == t421) || (!(t417 == t422) || (!(t418.toList == t423.toList)))) = true then (none) else (waybilllaw5_ContTells.l1 k6 x0_2 a2 a3 a4 x5_2 l6 x15_2 x18_19 t375 x20_41 (wrap64 (x21_6 + 1)) a1_0 x363001_2 a1_2)) else (none)) = some r := H
                          have A67 := Aside0.mk A670
                          clear A670
                          by_cases c68 : t419 = t424
                          ·
                           rw [if_pos c68] at H
                           have c68b0 : (t419 == t424) = true := beq_iff_eq.mpr c68
                           have c68b1 : (t419 != t424) = false := bne_eq_false_iff_eq.mpr c68
                           clear c68
                           by_cases c69 : (!(t416 == t421) || (!(t417 == t422) || (!(t418.toList == t423.toList)))) = true
                           ·
                            rw [if_pos c69] at H
                            exact absurd H (by simp)
                           ·
                            rw [if_neg c69] at H
                            have c69b0 : (!(t416 == t421) || (!(t417 == t422) || (!(t418.toList == t423.toList)))) = false := by simpa using c69
                            clear c69
                            have H' := Aside0.mk H
                            clear H
                            try go_wp2
                            have n0_ := Aside0.mk (Kd.V_drew HO_0.out)
                            have n1_ := Aside0.mk (Kd.V_drew HO_18.out)
                            have n2_ := Aside0.mk (Kd.V_drew HO_20.out)
                            have n3_ := Aside0.mk (blk_drew BK362.out)
                            have n4_ := Aside0.mk (below_drew1 HB.out)
                            clear HO_0
                            clear HO_18
                            clear HO_20
                            clear BK362
                            clear HB
                            have HO_0 := n0_
                            have HO_18 := n1_
                            have HO_20 := n2_
                            have BK362 := n3_
                            have HB := n4_
                            clear n0_ n1_ n2_ n3_ n4_
                            have q71 : ((ji59) : Int) ≤ ((x18_19.length : Int) : Int) := of_decide_eq_true (by first | (with_reducible assumption) | assumption)
                            obtain ⟨i071, hi071, _, hsz71, _⟩ := info_parts info5
                            have hroom71 : x18_19.length ≤ co46 := (Kd.V_reads' HO_18.out).2.1
                            have hC71 : Kd.F (Kd.int .u8) _ _ Ao46 x18_19.length x18_19 := (Kd.V_at (base := w.heap.size) HO_18.out).2.2
                            have ql71 : (1 : Int) ≤ ((ji59) : Int) := of_decide_eq_true (by first | (with_reducible assumption) | assumption)
                            have hcut71 := cut_mid (P := Try.prog) 26 5 .i64 .i64 Try.underlying26 hi071 1 hsz71 Ao46 x18_19.length co46 1 (ji59) (by omega) ql71 q71 hroom71
                            have hr71 := Kd.F_mid (lo := (1 : Int).toNat) (hi := ((ji59) : Int).toNat) (c := co46) hC71 (by omega) (by omega) hroom71
                            obtain ⟨A71, hA71⟩ : ∃ A1, A1 = (if co46 = (1 : Int).toNat then Ao46 else (Ao46 : Option Addr).map (·.add ((1 : Int).toNat * 1))) := ⟨_, rfl⟩
                            obtain ⟨c71, hc71⟩ : ∃ c1, c1 = co46 - (1 : Int).toNat := ⟨_, rfl⟩
                            have hy71 : y391.length = ((ji59) : Int).toNat - (1 : Int).toNat := (by rw [Ny391.out, List.length_drop, List.length_take] <;> omega)
                            rw [show ((x18_19).take ((ji59) : Int).toNat).drop (1 : Int).toNat = y391 from Ny391.out.symm] at hr71
                            replace hr71 : Kd.F (Kd.int .u8) _ _ A71 y391.length y391 := (by rw [hA71]; exact hr71)
                            rw [← hy71, ← hA71, ← hc71] at hcut71
                            have HO395 := Aside0.mk (show Kd.V (Kd.int .u8) 5 _ w.heap.size _ (.slice A71 y391.length c71) y391 from Kd.V_mk (by rw [hy71, hc71]; exact Nat.sub_le_sub_right (Nat.le_trans (by omega) hroom71) _) hr71)
                            have HC395 := Aside0.mk (show y391.length ≤ c71 from by rw [hy71, hc71]; exact Nat.sub_le_sub_right (Nat.le_trans (by omega) hroom71) _)
                            clear hr71 hC71 hroom71 hi071 hsz71 hc71
                            have KY71 := Aside0.mk hy71
                            have KA71 := Aside0.mk hA71
                            clear hy71 hA71
                            replace q71 := eq_true q71
                            have q72 : (1 : Int) ≤ ((x18_19.length : Int) : Int) := of_decide_eq_true (by first | (with_reducible assumption) | assumption)
                            obtain ⟨i072, hi072, _, hsz72, _⟩ := info_parts info5
                            have hroom72 : x18_19.length ≤ co46 := (Kd.V_reads' HO_18.out).2.1
                            have hC72 : Kd.F (Kd.int .u8) _ _ Ao46 x18_19.length x18_19 := (Kd.V_at (base := w.heap.size) HO_18.out).2.2
                            have hcut72 := cut_from (P := Try.prog) 26 5 .i64 Try.underlying26 hi072 1 hsz72 Ao46 x18_19.length co46 1 (by omega) q72
                            have hr72 := Kd.F_cut (m := (1 : Int).toNat) (c := co46) hC72 (by omega) hroom72
                            obtain ⟨A72, hA72⟩ : ∃ A1, A1 = (if co46 = (1 : Int).toNat then Ao46 else (Ao46 : Option Addr).map (·.add ((1 : Int).toNat * 1))) := ⟨_, rfl⟩
                            obtain ⟨c72, hc72⟩ : ∃ c1, c1 = co46 - (1 : Int).toNat := ⟨_, rfl⟩
                            have hy72 : y399.length = x18_19.length - (1 : Int).toNat := (by rw [Ny399.out, List.length_drop] <;> omega)
                            rw [show (x18_19).drop (1 : Int).toNat = y399 from Ny399.out.symm] at hr72
                            replace hr72 : Kd.F (Kd.int .u8) _ _ A72 y399.length y399 := (by rw [hA72]; exact hr72)
                            rw [← hy72, ← hA72, ← hc72] at hcut72
                            have HO403 := Aside0.mk (show Kd.V (Kd.int .u8) 5 _ w.heap.size _ (.slice A72 y399.length c72) y399 from Kd.V_mk (by rw [hy72, hc72]; exact Nat.sub_le_sub_right hroom72 _) hr72)
                            have HC403 := Aside0.mk (show y399.length ≤ c72 from by rw [hy72, hc72]; exact Nat.sub_le_sub_right hroom72 _)
                            clear hr72 hC72 hroom72 hi072 hsz72 hc72
                            have KY72 := Aside0.mk hy72
                            have KA72 := Aside0.mk hA72
                            clear hy72 hA72
                            replace q72 := eq_true q72
                            have plq82 : (0 ≤ x21_6) = True := eq_true (of_decide_eq_true (by first | (with_reducible assumption) | assumption))
                            have qlq82 : (x21_6 < 4) = True := eq_true (of_decide_eq_true (by first | (with_reducible assumption) | assumption))
                            have jlq82 : (x21_6).toNat < 4 := by have h1_ := of_eq_true plq82; have h2_ := of_eq_true qlq82; omega
                            refine start_ (n := 22) (S := fun w' => True) (ds := [17, 20]) #[false, false, false, false, false, false, false, false, false, false, false, false, false, false, false, false, false, false, false, false, false, false] (by kernel_rfl) rfl rfl trivial (fun hHeld => ?_); refine with_tabW waybilllaw5_ContTells.tab19 waybilllaw5_ContTells.bits19 (fun HT_ HW_ => ?_)
                            generalize wr.drew = w70 at HO_0 HO_18 HO_20 BK362 HB HO395 HO403 hHeld ⊢
                            refine pure_ (i := 0) (N := some 94) (v := ?_) (a' := ?_) #[true, false, false, false, false, false, false, false, false, false, false, false, false, false, false, false, false, false, false, false, false, false] rfl rfl (any_of HT_.out (by kernel_rfl)) (fun _ _ _ h => h) (Or.inl ⟨by rfl, ?_⟩) ?_ ?_
                            rotate_left
                            ·
                             intro w'
                             go_simp
                             with_reducible rfl
                            rotate_left
                            ·
                             simp only [Act.put, List.setIfInBounds_toArray, List.set_cons_zero, List.set_cons_succ, i64_w, i32_w]
                             rfl
                            refine pure_ (i := 1) (N := some 95) (v := ?_) (a' := ?_) #[true, true, false, false, false, false, false, false, false, false, false, false, false, false, false, false, false, false, false, false, false, false] rfl rfl (any_of HT_.out (by kernel_rfl)) (fun _ _ _ h => h) (Or.inl ⟨by rfl, ?_⟩) ?_ ?_
                            rotate_left
                            ·
                             intro w'
                             go_simp
                             with_reducible rfl
                            rotate_left
                            ·
                             simp only [Act.put, List.setIfInBounds_toArray, List.set_cons_zero, List.set_cons_succ, i64_w, i32_w]
                             rfl
                            refine pure_ (i := 2) (N := some 96) (v := ?_) (a' := ?_) #[true, true, true, false, false, false, false, false, false, false, false, false, false, false, false, false, false, false, false, false, false, false] rfl rfl (any_of HT_.out (by kernel_rfl)) (fun _ _ _ h => h) (Or.inl ⟨by rfl, ?_⟩) ?_ ?_
                            rotate_left
                            ·
                             intro w'
                             go_simp
                             with_reducible rfl
                            rotate_left
                            ·
                             simp only [Act.put, List.setIfInBounds_toArray, List.set_cons_zero, List.set_cons_succ, i64_w, i32_w]
                             rfl
                            refine pure_ (i := 3) (N := some 97) (v := ?_) (a' := ?_) #[true, true, true, true, false, false, false, false, false, false, false, false, false, false, false, false, false, false, false, false, false, false] rfl rfl (any_of HT_.out (by kernel_rfl)) (fun _ _ _ h => h) (Or.inl ⟨by rfl, ?_⟩) ?_ ?_
                            rotate_left
                            ·
                             intro w'
                             go_simp
                             with_reducible rfl
                            rotate_left
                            ·
                             simp only [Act.put, List.setIfInBounds_toArray, List.set_cons_zero, List.set_cons_succ, i64_w, i32_w]
                             rfl
                            refine pure_ (i := 4) (N := some 98) (v := ?_) (a' := ?_) #[true, true, true, true, true, false, false, false, false, false, false, false, false, false, false, false, false, false, false, false, false, false] rfl rfl (any_of HT_.out (by kernel_rfl)) (fun _ _ _ h => h) (Or.inl ⟨by rfl, ?_⟩) ?_ ?_
                            rotate_left
                            ·
                             intro w'
                             go_simp
                             with_reducible rfl
                            rotate_left
                            ·
                             simp only [Act.put, List.setIfInBounds_toArray, List.set_cons_zero, List.set_cons_succ, i64_w, i32_w]
                             rfl
                            refine pure_ (i := 5) (N := some 99) (v := ?_) (a' := ?_) #[true, true, true, true, true, true, false, false, false, false, false, false, false, false, false, false, false, false, false, false, false, false] rfl rfl (any_of HT_.out (by kernel_rfl)) (fun _ _ _ h => h) (Or.inl ⟨by rfl, ?_⟩) ?_ ?_
                            rotate_left
                            ·
                             intro w'
                             go_simp
                             with_reducible rfl
                            rotate_left
                            ·
                             simp only [Act.put, List.setIfInBounds_toArray, List.set_cons_zero, List.set_cons_succ, i64_w, i32_w]
                             rfl
                            refine pure_ (i := 6) (N := some 100) (v := ?_) (a' := ?_) #[true, true, true, true, true, true, true, false, false, false, false, false, false, false, false, false, false, false, false, false, false, false] rfl rfl (any_of HT_.out (by kernel_rfl)) (fun _ _ _ h => h) (Or.inl ⟨by rfl, ?_⟩) ?_ ?_
                            rotate_left
                            ·
                             intro w'
                             go_simp
                             with_reducible rfl
                            rotate_left
                            ·
                             simp only [Act.put, List.setIfInBounds_toArray, List.set_cons_zero, List.set_cons_succ, i64_w, i32_w]
                             rfl
                            refine pure_ (i := 7) (N := some 101) (v := ?_) (a' := ?_) #[true, true, true, true, true, true, true, true, false, false, false, false, false, false, false, false, false, false, false, false, false, false] rfl rfl (any_of HT_.out (by kernel_rfl)) (fun _ _ _ h => h) (Or.inl ⟨by rfl, ?_⟩) ?_ ?_
                            rotate_left
                            ·
                             intro w'
                             go_simp
                             with_reducible rfl
                            rotate_left
                            ·
                             simp only [Act.put, List.setIfInBounds_toArray, List.set_cons_zero, List.set_cons_succ, i64_w, i32_w]
                             rfl
                            refine pure_ (i := 8) (N := some 102) (v := ?_) (a' := ?_) #[true, true, true, true, true, true, true, true, true, false, false, false, false, false, false, false, false, false, false, false, false, false] rfl rfl (any_of HT_.out (by kernel_rfl)) (fun _ _ _ h => h) (Or.inl ⟨by rfl, ?_⟩) ?_ ?_
                            rotate_left
                            ·
                             intro w'
                             go_simp
                             with_reducible rfl
                            rotate_left
                            ·
                             simp only [Act.put, List.setIfInBounds_toArray, List.set_cons_zero, List.set_cons_succ, i64_w, i32_w]
                             rfl
                            refine pure_ (i := 9) (N := some 103) (v := ?_) (a' := ?_) #[true, true, true, true, true, true, true, true, true, true, false, false, false, false, false, false, false, false, false, false, false, false] rfl rfl (any_of HT_.out (by kernel_rfl)) (fun _ _ _ h => h) (Or.inl ⟨by rfl, ?_⟩) ?_ ?_
                            rotate_left
                            ·
                             intro w'
                             go_simp
                             with_reducible rfl
                            rotate_left
                            ·
                             simp only [Act.put, List.setIfInBounds_toArray, List.set_cons_zero, List.set_cons_succ, i64_w, i32_w]
                             rfl
                            refine pure_ (i := 11) (N := some 105) (v := ?_) (a' := ?_) #[true, true, true, true, true, true, true, true, true, true, false, true, false, false, false, false, false, false, false, false, false, false] rfl rfl (any_of HT_.out (by kernel_rfl)) (fun _ _ _ h => h) (Or.inl ⟨by rfl, ?_⟩) ?_ ?_
                            rotate_left
                            ·
                             intro w'
                             go_simp
                             with_reducible rfl
                            rotate_left
                            ·
                             simp only [Act.put, List.setIfInBounds_toArray, List.set_cons_zero, List.set_cons_succ, i64_w, i32_w]
                             rfl
                            refine pure_ (i := 12) (N := some 106) (v := ?_) (a' := ?_) #[true, true, true, true, true, true, true, true, true, true, false, true, true, false, false, false, false, false, false, false, false, false] rfl rfl (any_of HT_.out (by kernel_rfl)) (fun _ _ _ h => h) (Or.inl ⟨by rfl, ?_⟩) ?_ ?_
                            rotate_left
                            ·
                             intro w'
                             go_simp
                             with_reducible rfl
                            rotate_left
                            ·
                             simp only [Act.put, List.setIfInBounds_toArray, List.set_cons_zero, List.set_cons_succ, i64_w, i32_w]
                             rfl
                            refine pure_ (i := 14) (N := some 108) (v := ?_) (a' := ?_) #[true, true, true, true, true, true, true, true, true, true, false, true, true, false, true, false, false, false, false, false, false, false] rfl rfl (any_of HT_.out (by kernel_rfl)) (fun _ _ _ h => h) (Or.inl ⟨by rfl, ?_⟩) ?_ ?_
                            rotate_left
                            ·
                             intro w'
                             go_simp
                             with_reducible rfl
                            rotate_left
                            ·
                             simp only [Act.put, List.setIfInBounds_toArray, List.set_cons_zero, List.set_cons_succ, i64_w, i32_w]
                             rfl
                            refine pure_ (i := 18) (N := some 112) (v := ?_) (a' := ?_) #[true, true, true, true, true, true, true, true, true, true, false, true, true, false, true, false, false, false, true, false, false, false] rfl rfl (any_of HT_.out (by kernel_rfl)) (fun _ _ _ h => h) (Or.inl ⟨by rfl, ?_⟩) ?_ ?_
                            rotate_left
                            ·
                             intro w'
                             go_simp
                             with_reducible rfl
                            rotate_left
                            ·
                             simp only [Act.put, List.setIfInBounds_toArray, List.set_cons_zero, List.set_cons_succ, i64_w, i32_w]
                             rfl
                            refine join_ (σ := Value × Value × Value) 5 #[true, true, true, true, true, true, true, true, true, true, true, true, true, true, true, true, false, false, true, false, false, false] (fun s_ => [(104, s_.1), (107, s_.2.1), (109, s_.2.2)]) (fun s_ w' => (Kd.V (Kd.int .u8) 5 w' w.heap.size (fun k_ => (P0_ k_ ∨ w.heap.size ≤ k_) ∧ some k_ ≠ (s_.2.1 : Value).ownBlock ∧ some k_ ≠ (s_.2.2 : Value).ownBlock ∧ k_ ≠ gb362) (.slice A71 y391.length c71) y391) ∧ (Kd.V (Kd.int .u8) 5 w' w.heap.size (fun k_ => (P0_ k_ ∨ w.heap.size ≤ k_) ∧ some k_ ≠ (s_.2.1 : Value).ownBlock ∧ some k_ ≠ (s_.2.2 : Value).ownBlock ∧ k_ ≠ gb362) (.slice A72 y399.length c72) y399) ∧ (Kd.R (Kd.int .u8) 5 w' w.heap.size (fun k_ => (w.heap.size ≤ k_) ∧ some k_ ≠ (s_.2.2 : Value).ownBlock) s_.2.1 y404) ∧ (Kd.R (Kd.int .u8) 5 w' w.heap.size (fun k_ => (w.heap.size ≤ k_) ∧ some k_ ≠ (s_.2.1 : Value).ownBlock) s_.2.2 y407) ∧ (Kd.V (Kd.int .u8) 5 w' w.heap.size (fun k_ => (P0_ k_ ∨ w.heap.size ≤ k_) ∧ some k_ ≠ (s_.2.1 : Value).ownBlock ∧ some k_ ≠ (s_.2.2 : Value).ownBlock ∧ k_ ≠ gb362) (.slice A0 x0_2.length c0) x0_2) ∧ (Kd.V (Kd.int .u8) 5 w' w.heap.size (fun k_ => (P0_ k_ ∨ w.heap.size ≤ k_) ∧ some k_ ≠ (s_.2.1 : Value).ownBlock ∧ some k_ ≠ (s_.2.2 : Value).ownBlock ∧ k_ ≠ gb362) (.slice Ao46 x18_19.length co46) x18_19) ∧ (Kd.V (Kd.int .u8) 5 w' w.heap.size (fun k_ => (P0_ k_ ∨ w.heap.size ≤ k_) ∧ some k_ ≠ (s_.2.1 : Value).ownBlock ∧ some k_ ≠ (s_.2.2 : Value).ownBlock ∧ k_ ≠ gb362) (.slice Ao48 x20_41.length co48) x20_41) ∧ (w'.heap[gb362]? = some (.cells #[.int .u64 a1_0, .int .i64 x363001_2, .string a1_2] 25 (0, 0))) ∧ (Below w.heap.size w w')) ?_ ?_
                            rotate_left
                            ·
                             intro hCont
                             refine two_ (i := 10) (j := 15) (Ni := some 104) (Nj := some 109) #[true, true, true, true, true, true, true, true, true, true, true, true, true, false, true, false, false, false, true, false, false, false] #[true, true, true, true, true, true, true, true, true, true, false, true, true, false, true, true, false, false, true, false, false, false] rfl rfl rfl rfl (two_of HT_.out (by kernel_rfl)) (by decide) (by decide) (fun K hK => ?_) (fun K hK => ?_)
                             ·
                              skip
                              refine Kd.R_lit_step (Kd.int .u8) _ 5 ?hg (N := 104) ?hd (xs := ([] : List Int)) (inner := []) (ok := fun _ => True) (okp := fun _ => True) ?hr ?hp (fun _ hk => hk) trivial (Below.refl _ _) (Nat.le_refl _) (by simp) ?_; (case hd => rfl); (case hg => rfl); (case hr => first | (go_simp; done) | (go_simp; rfl)); (case hp => exact (Reps.none _ _))
                              intro v397 w73 ho74 hb hg_ hnew_
                              clear hg_ hnew_
                              (first | rw [← Ny396.out] at ho74 | (simp only [Int.reduceToNat] at ho74; rw [← Ny396.out] at ho74))
                              have n0_ := Aside0.mk (Kd.V_elder' (by (with_reducible repeat (first | apply Kd.V_alloc | apply Kd.V_drewN | apply Kd.V_drew)); exact HO_0.out) (Kd.R_base ho74) hb)
                              have n1_ := Aside0.mk (Kd.V_elder' (by (with_reducible repeat (first | apply Kd.V_alloc | apply Kd.V_drewN | apply Kd.V_drew)); exact HO_18.out) (Kd.R_base ho74) hb)
                              have n2_ := Aside0.mk (Kd.V_elder' (by (with_reducible repeat (first | apply Kd.V_alloc | apply Kd.V_drewN | apply Kd.V_drew)); exact HO_20.out) (Kd.R_base ho74) hb)
                              have n3_ := Aside0.mk (Kd.V_elder' (by (with_reducible repeat (first | apply Kd.V_alloc | apply Kd.V_drewN | apply Kd.V_drew)); exact HO395.out) (Kd.R_base ho74) hb)
                              have n4_ := Aside0.mk (Kd.V_elder' (by (with_reducible repeat (first | apply Kd.V_alloc | apply Kd.V_drewN | apply Kd.V_drew)); exact HO403.out) (Kd.R_base ho74) hb)
                              have n5_ := Aside0.mk (Kd.R_lower (Kd.R_newM (M := fun k_ => (w.heap.size ≤ k_)) ho74 (below_size (by repeat (first | (with_reducible first | exact HB.out | apply below_alloc | apply pw_below_drewN | apply below_drew1 | refine below_set ?_ GE362.out) | exact HB.out))) (fun k_ h_ => h_)) (below_size (by repeat (first | (with_reducible first | exact HB.out | apply below_alloc | apply pw_below_drewN | apply below_drew1 | refine below_set ?_ GE362.out) | exact HB.out))))
                              have n6_ := Aside0.mk (blk_below (g := gb362) (o := .cells #[.int .u64 a1_0, .int .i64 x363001_2, .string a1_2] 25 (0, 0)) (by (with_reducible repeat (first | refine blk_drewN ?_ _ | refine blk_drew ?_ | refine blk_alloc ?_ _)); exact BK362.out) hb)
                              have n7_ := Aside0.mk (below_step (by repeat (first | (with_reducible first | exact HB.out | apply below_alloc | apply pw_below_drewN | apply below_drew1 | refine below_set ?_ GE362.out) | exact HB.out)) hb)
                              clear HO_0
                              clear HO_18
                              clear HO_20
                              clear HO395
                              clear HO403
                              clear BK362
                              clear HB
                              have HO_0 := n0_
                              have HO_18 := n1_
                              have HO_20 := n2_
                              have HO395 := n3_
                              have HO403 := n4_
                              have HO398 := n5_
                              have BK362 := n6_
                              have HB := n7_
                              clear n0_ n1_ n2_ n3_ n4_ n5_ n6_ n7_
                              clear hb ho74
                              refine hK.out _ _ trivial (fun hHeld => ?_)
                              clear hK K
                              refine norm_ (a' := ?_) ?_ ?_
                              rotate_left
                              ·
                               show Act.put _ (some 104) _ = _
                               simp only [Act.put, List.setIfInBounds_toArray, List.set_cons_zero, List.set_cons_succ, i64_w, i32_w]
                               rfl
                              refine two_ (i := 13) (j := 15) (Ni := some 107) (Nj := some 109) #[true, true, true, true, true, true, true, true, true, true, true, true, true, true, true, false, false, false, true, false, false, false] #[true, true, true, true, true, true, true, true, true, true, true, true, true, false, true, true, false, false, true, false, false, false] rfl rfl rfl rfl (two_of HT_.out (by kernel_rfl)) (by decide) (by decide) (fun K hK => ?_) (fun K hK => ?_)
                              ·
                               skip
                               refine Kd.R_append_rows_step (Kd.int .u8) (w0 := w) w.heap.size (by rfl) (.tmp 104) (.tmp 106) 26 5 (.int .u8 0) 1 rfl Try.underlying26 info5 rfl (by decide) (by omega) v397 y396 y399 _ _ _ (fun k_ => (w.heap.size ≤ k_)) (fun _ => False) rfl rfl ?aO ?aR (fun _ _ h => h) (fun _ h => h.elim) ?aF ?aB ?aS ?aL ?_
                               (case aR => repeat (first | exact (Kd.V_reads' HO403.out).2.2 | (with_reducible refine Kd.C_alloc ?_ _) | (with_reducible refine Kd.C_drewN ?_ _) | (with_reducible refine Kd.C_drew ?_)))
                               (case aB => exact (by repeat (first | (with_reducible first | exact HB.out | apply below_alloc | apply pw_below_drewN | apply below_drew1 | refine below_set ?_ GE362.out) | exact HB.out)))
                               (case aF => exact (fun k_ hk => (Nat.le_trans (below_size (by repeat (first | (with_reducible first | exact HB.out | apply below_alloc | apply pw_below_drewN | apply below_drew1 | refine below_set ?_ GE362.out) | exact HB.out))) hk)))
                               (case aO => exact (by (with_reducible repeat (first | apply Kd.R_alloc | apply Kd.R_drewN | apply Kd.R_drew)); exact Kd.R_mono HO398.out (fun _ hk => hk.1)))
                               (case aS => exact (below_size (by repeat (first | (with_reducible first | exact HB.out | apply below_alloc | apply pw_below_drewN | apply below_drew1 | refine below_set ?_ GE362.out) | exact HB.out))))
                               (case aL => have := LMc63.out; omega)
                               intro v405 w75 ho hb hg hat
                               rw [← Ny404.out] at ho
                               have n0_ := Aside0.mk (Kd.V_afterv (ok := (fun k_ => (P0_ k_ ∨ w.heap.size ≤ k_) ∧ k_ ≠ gb362)) (by (with_reducible repeat (first | apply Kd.V_alloc | apply Kd.V_drewN | apply Kd.V_drew)); exact HO_0.out) hg hat)
                               have n1_ := Aside0.mk (Kd.V_afterv (ok := (fun k_ => (P0_ k_ ∨ w.heap.size ≤ k_) ∧ k_ ≠ gb362)) (by (with_reducible repeat (first | apply Kd.V_alloc | apply Kd.V_drewN | apply Kd.V_drew)); exact HO_18.out) hg hat)
                               have n2_ := Aside0.mk (Kd.V_afterv (ok := (fun k_ => (P0_ k_ ∨ w.heap.size ≤ k_) ∧ k_ ≠ gb362)) (by (with_reducible repeat (first | apply Kd.V_alloc | apply Kd.V_drewN | apply Kd.V_drew)); exact HO_20.out) hg hat)
                               have n3_ := Aside0.mk (blk_grown (g := gb362) (o := .cells #[.int .u64 a1_0, .int .i64 x363001_2, .string a1_2] 25 (0, 0)) (by (with_reducible repeat (first | refine blk_drewN ?_ _ | refine blk_drew ?_ | refine blk_alloc ?_ _)); exact BK362.out) hg (Kd.R_ne HO398.out BK362.out (by decide)))
                               have n4_ := Aside0.mk (Kd.V_afterv (ok := (fun k_ => (P0_ k_ ∨ w.heap.size ≤ k_) ∧ k_ ≠ gb362)) (by (with_reducible repeat (first | apply Kd.V_alloc | apply Kd.V_drewN | apply Kd.V_drew)); exact HO395.out) hg hat)
                               have n5_ := Aside0.mk (Kd.V_afterv (ok := (fun k_ => (P0_ k_ ∨ w.heap.size ≤ k_) ∧ k_ ≠ gb362)) (by (with_reducible repeat (first | apply Kd.V_alloc | apply Kd.V_drewN | apply Kd.V_drew)); exact HO403.out) hg hat)
                               have n6_ := Aside0.mk (hb)
                               have n7_ := Aside0.mk (ho)
                               clear HO_0
                               clear HO_18
                               clear HO_20
                               clear BK362
                               clear HO395
                               clear HO403
                               clear HB
                               clear HO398
                               have HO_0 := n0_
                               have HO_18 := n1_
                               have HO_20 := n2_
                               have BK362 := n3_
                               have HO395 := n4_
                               have HO403 := n5_
                               have HB := n6_
                               have HO406 := n7_
                               clear n0_ n1_ n2_ n3_ n4_ n5_ n6_ n7_
                               clear ho hb hg hat
                               refine hK.out _ _ trivial (fun hHeld => ?_)
                               clear hK K
                               refine norm_ (a' := ?_) ?_ ?_
                               rotate_left
                               ·
                                show Act.put _ (some 107) _ = _
                                simp only [Act.put, List.setIfInBounds_toArray, List.set_cons_zero, List.set_cons_succ, i64_w, i32_w]
                                rfl
                               refine one_ (i := 15) (N := some 109) #[true, true, true, true, true, true, true, true, true, true, true, true, true, true, true, true, false, false, true, false, false, false] rfl rfl (one_of HT_.out (by kernel_rfl)) (by decide) (fun K hK => ?_)
                               refine Kd.R_lit_step (Kd.int .u8) _ 5 ?hg (N := 109) ?hd (xs := ([a3] : List Int)) (inner := [.int .u8 a3]) (ok := fun _ => True) (okp := fun _ => True) ?hr ?hp (fun _ hk => hk) trivial (Below.refl _ _) (Nat.le_refl _) (by simp) ?_; (case hd => rfl); (case hg => rfl); (case hr => first | (go_simp; done) | (go_simp; rfl)); (case hp => exact (Reps.one (show Kd.M (Kd.int .u8) _ _ _ a3 [.int .u8 a3] from rfl) (Reps.none _ _)))
                               intro v408 w76 ho77 hb hg_ hnew_
                               clear hg_ hnew_
                               (first | rw [← Ny407.out] at ho77 | (simp only [Int.reduceToNat] at ho77; rw [← Ny407.out] at ho77))
                               have n0_ := Aside0.mk (Kd.V_elder' (by (with_reducible repeat (first | apply Kd.V_alloc | apply Kd.V_drewN | apply Kd.V_drew)); exact HO_0.out) (Kd.R_base ho77) hb)
                               have n1_ := Aside0.mk (Kd.V_elder' (by (with_reducible repeat (first | apply Kd.V_alloc | apply Kd.V_drewN | apply Kd.V_drew)); exact HO_18.out) (Kd.R_base ho77) hb)
                               have n2_ := Aside0.mk (Kd.V_elder' (by (with_reducible repeat (first | apply Kd.V_alloc | apply Kd.V_drewN | apply Kd.V_drew)); exact HO_20.out) (Kd.R_base ho77) hb)
                               have n3_ := Aside0.mk (Kd.V_elder' (by (with_reducible repeat (first | apply Kd.V_alloc | apply Kd.V_drewN | apply Kd.V_drew)); exact HO395.out) (Kd.R_base ho77) hb)
                               have n4_ := Aside0.mk (Kd.V_elder' (by (with_reducible repeat (first | apply Kd.V_alloc | apply Kd.V_drewN | apply Kd.V_drew)); exact HO403.out) (Kd.R_base ho77) hb)
                               have n5_ := Aside0.mk (Kd.R_elder' (by (with_reducible repeat (first | apply Kd.R_alloc | apply Kd.R_drewN | apply Kd.R_drew)); exact HO406.out) (Kd.R_base ho77) hb)
                               have n6_ := Aside0.mk (Kd.R_lower (Kd.R_new' (Kd.R_newM (M := fun k_ => (w.heap.size ≤ k_)) ho77 (below_size (by repeat (first | (with_reducible first | exact HB.out | apply below_alloc | apply pw_below_drewN | apply below_drew1 | refine below_set ?_ GE362.out) | exact HB.out))) (fun k_ h_ => h_)) (Kd.R_lt (by (with_reducible repeat (first | apply Kd.R_alloc | apply Kd.R_drewN | apply Kd.R_drew)); exact HO406.out))) (below_size (by repeat (first | (with_reducible first | exact HB.out | apply below_alloc | apply pw_below_drewN | apply below_drew1 | refine below_set ?_ GE362.out) | exact HB.out))))
                               have n7_ := Aside0.mk (blk_below (g := gb362) (o := .cells #[.int .u64 a1_0, .int .i64 x363001_2, .string a1_2] 25 (0, 0)) (by (with_reducible repeat (first | refine blk_drewN ?_ _ | refine blk_drew ?_ | refine blk_alloc ?_ _)); exact BK362.out) hb)
                               have n8_ := Aside0.mk (below_step (by repeat (first | (with_reducible first | exact HB.out | apply below_alloc | apply pw_below_drewN | apply below_drew1 | refine below_set ?_ GE362.out) | exact HB.out)) hb)
                               clear HO_0
                               clear HO_18
                               clear HO_20
                               clear HO395
                               clear HO403
                               clear HO406
                               clear BK362
                               clear HB
                               have HO_0 := n0_
                               have HO_18 := n1_
                               have HO_20 := n2_
                               have HO395 := n3_
                               have HO403 := n4_
                               have HO406 := n5_
                               have HO409 := n6_
                               have BK362 := n7_
                               have HB := n8_
                               clear n0_ n1_ n2_ n3_ n4_ n5_ n6_ n7_ n8_
                               clear hb ho77
                               refine hK.out _ _ trivial (fun hHeld => ?_)
                               clear hK K
                               refine norm_ (a' := ?_) ?_ ?_
                               rotate_left
                               ·
                                show Act.put _ (some 109) _ = _
                                simp only [Act.put, List.setIfInBounds_toArray, List.set_cons_zero, List.set_cons_succ, i64_w, i32_w]
                                rfl
                               exact norm_ (by simp only [putAll, Act.put, List.setIfInBounds_toArray, List.set_cons_zero, List.set_cons_succ]) (hCont (v397, v405, v408) _ ⟨(by (with_reducible repeat (first | apply Kd.V_alloc | apply Kd.V_drewN | apply Kd.V_drew)); exact Kd.V_mono HO395.out (fun _ hk => ⟨hk.1.1.1, ⟨hk.1.2, ⟨hk.2, hk.1.1.2⟩⟩⟩)), (by (with_reducible repeat (first | apply Kd.V_alloc | apply Kd.V_drewN | apply Kd.V_drew)); exact Kd.V_mono HO403.out (fun _ hk => ⟨hk.1.1.1, ⟨hk.1.2, ⟨hk.2, hk.1.1.2⟩⟩⟩)), (by (with_reducible repeat (first | apply Kd.R_alloc | apply Kd.R_drewN | apply Kd.R_drew)); exact HO406.out), (by (with_reducible repeat (first | apply Kd.R_alloc | apply Kd.R_drewN | apply Kd.R_drew)); exact Kd.R_mono HO409.out (fun _ hk => ⟨hk.1.1, hk.2⟩)), (by (with_reducible repeat (first | apply Kd.V_alloc | apply Kd.V_drewN | apply Kd.V_drew)); exact Kd.V_mono HO_0.out (fun _ hk => ⟨hk.1.1.1, ⟨hk.1.2, ⟨hk.2, hk.1.1.2⟩⟩⟩)), (by (with_reducible repeat (first | apply Kd.V_alloc | apply Kd.V_drewN | apply Kd.V_drew)); exact Kd.V_mono HO_18.out (fun _ hk => ⟨hk.1.1.1, ⟨hk.1.2, ⟨hk.2, hk.1.1.2⟩⟩⟩)), (by (with_reducible repeat (first | apply Kd.V_alloc | apply Kd.V_drewN | apply Kd.V_drew)); exact Kd.V_mono HO_20.out (fun _ hk => ⟨hk.1.1.1, ⟨hk.1.2, ⟨hk.2, hk.1.1.2⟩⟩⟩)), (by (with_reducible repeat (first | refine blk_drewN ?_ _ | refine blk_drew ?_ | refine blk_alloc ?_ _)); exact BK362.out), (by repeat (first | (with_reducible first | exact HB.out | apply below_alloc | apply pw_below_drewN | apply below_drew1 | refine below_set ?_ GE362.out) | exact HB.out))⟩)
                              ·
                               skip
                               refine Kd.R_lit_step (Kd.int .u8) _ 5 ?hg (N := 109) ?hd (xs := ([a3] : List Int)) (inner := [.int .u8 a3]) (ok := fun _ => True) (okp := fun _ => True) ?hr ?hp (fun _ hk => hk) trivial (Below.refl _ _) (Nat.le_refl _) (by simp) ?_; (case hd => rfl); (case hg => rfl); (case hr => first | (go_simp; done) | (go_simp; rfl)); (case hp => exact (Reps.one (show Kd.M (Kd.int .u8) _ _ _ a3 [.int .u8 a3] from rfl) (Reps.none _ _)))
                               intro v408 w75 ho76 hb hg_ hnew_
                               clear hg_ hnew_
                               (first | rw [← Ny407.out] at ho76 | (simp only [Int.reduceToNat] at ho76; rw [← Ny407.out] at ho76))
                               have n0_ := Aside0.mk (Kd.V_elder' (by (with_reducible repeat (first | apply Kd.V_alloc | apply Kd.V_drewN | apply Kd.V_drew)); exact HO_0.out) (Kd.R_base ho76) hb)
                               have n1_ := Aside0.mk (Kd.V_elder' (by (with_reducible repeat (first | apply Kd.V_alloc | apply Kd.V_drewN | apply Kd.V_drew)); exact HO_18.out) (Kd.R_base ho76) hb)
                               have n2_ := Aside0.mk (Kd.V_elder' (by (with_reducible repeat (first | apply Kd.V_alloc | apply Kd.V_drewN | apply Kd.V_drew)); exact HO_20.out) (Kd.R_base ho76) hb)
                               have n3_ := Aside0.mk (Kd.V_elder' (by (with_reducible repeat (first | apply Kd.V_alloc | apply Kd.V_drewN | apply Kd.V_drew)); exact HO395.out) (Kd.R_base ho76) hb)
                               have n4_ := Aside0.mk (Kd.V_elder' (by (with_reducible repeat (first | apply Kd.V_alloc | apply Kd.V_drewN | apply Kd.V_drew)); exact HO403.out) (Kd.R_base ho76) hb)
                               have n5_ := Aside0.mk (Kd.R_elder' (by (with_reducible repeat (first | apply Kd.R_alloc | apply Kd.R_drewN | apply Kd.R_drew)); exact HO398.out) (Kd.R_base ho76) hb)
                               have n6_ := Aside0.mk (Kd.R_lower (Kd.R_new' (Kd.R_newM (M := fun k_ => (w.heap.size ≤ k_)) ho76 (below_size (by repeat (first | (with_reducible first | exact HB.out | apply below_alloc | apply pw_below_drewN | apply below_drew1 | refine below_set ?_ GE362.out) | exact HB.out))) (fun k_ h_ => h_)) (Kd.R_lt (by (with_reducible repeat (first | apply Kd.R_alloc | apply Kd.R_drewN | apply Kd.R_drew)); exact HO398.out))) (below_size (by repeat (first | (with_reducible first | exact HB.out | apply below_alloc | apply pw_below_drewN | apply below_drew1 | refine below_set ?_ GE362.out) | exact HB.out))))
                               have n7_ := Aside0.mk (blk_below (g := gb362) (o := .cells #[.int .u64 a1_0, .int .i64 x363001_2, .string a1_2] 25 (0, 0)) (by (with_reducible repeat (first | refine blk_drewN ?_ _ | refine blk_drew ?_ | refine blk_alloc ?_ _)); exact BK362.out) hb)
                               have n8_ := Aside0.mk (below_step (by repeat (first | (with_reducible first | exact HB.out | apply below_alloc | apply pw_below_drewN | apply below_drew1 | refine below_set ?_ GE362.out) | exact HB.out)) hb)
                               clear HO_0
                               clear HO_18
                               clear HO_20
                               clear HO395
                               clear HO403
                               clear HO398
                               clear BK362
                               clear HB
                               have HO_0 := n0_
                               have HO_18 := n1_
                               have HO_20 := n2_
                               have HO395 := n3_
                               have HO403 := n4_
                               have HO398 := n5_
                               have HO409 := n6_
                               have BK362 := n7_
                               have HB := n8_
                               clear n0_ n1_ n2_ n3_ n4_ n5_ n6_ n7_ n8_
                               clear hb ho76
                               refine hK.out _ _ trivial (fun hHeld => ?_)
                               clear hK K
                               refine norm_ (a' := ?_) ?_ ?_
                               rotate_left
                               ·
                                show Act.put _ (some 109) _ = _
                                simp only [Act.put, List.setIfInBounds_toArray, List.set_cons_zero, List.set_cons_succ, i64_w, i32_w]
                                rfl
                               refine one_ (i := 13) (N := some 107) #[true, true, true, true, true, true, true, true, true, true, true, true, true, true, true, true, false, false, true, false, false, false] rfl rfl (one_of HT_.out (by kernel_rfl)) (by decide) (fun K hK => ?_)
                               refine Kd.R_append_rows_step (Kd.int .u8) (w0 := w) w.heap.size (by rfl) (.tmp 104) (.tmp 106) 26 5 (.int .u8 0) 1 rfl Try.underlying26 info5 rfl (by decide) (by omega) v397 y396 y399 _ _ _ (fun k_ => (w.heap.size ≤ k_) ∧ some k_ ≠ (v408 : Value).ownBlock) (fun _ => False) rfl rfl ?aO ?aR (fun _ _ h => h) (fun _ h => h.elim) ?aF ?aB ?aS ?aL ?_
                               (case aR => repeat (first | exact (Kd.V_reads' HO403.out).2.2 | (with_reducible refine Kd.C_alloc ?_ _) | (with_reducible refine Kd.C_drewN ?_ _) | (with_reducible refine Kd.C_drew ?_)))
                               (case aB => exact (by repeat (first | (with_reducible first | exact HB.out | apply below_alloc | apply pw_below_drewN | apply below_drew1 | refine below_set ?_ GE362.out) | exact HB.out)))
                               (case aF => exact (fun k_ hk => ⟨(Nat.le_trans (below_size (by repeat (first | (with_reducible first | exact HB.out | apply below_alloc | apply pw_below_drewN | apply below_drew1 | refine below_set ?_ GE362.out) | exact HB.out))) hk), Kd.fresh' (Kd.R_lt (by (with_reducible repeat (first | apply Kd.R_alloc | apply Kd.R_drewN | apply Kd.R_drew)); exact HO409.out)) k_ hk⟩))
                               (case aO => exact (by (with_reducible repeat (first | apply Kd.R_alloc | apply Kd.R_drewN | apply Kd.R_drew)); exact Kd.R_mono HO398.out (fun _ hk => ⟨hk.1.1, hk.2⟩)))
                               (case aS => exact (below_size (by repeat (first | (with_reducible first | exact HB.out | apply below_alloc | apply pw_below_drewN | apply below_drew1 | refine below_set ?_ GE362.out) | exact HB.out))))
                               (case aL => have := LMc63.out; omega)
                               intro v405 w77 ho hb hg hat
                               rw [← Ny404.out] at ho
                               have n0_ := Aside0.mk (Kd.V_afterv (ok := (fun k_ => (P0_ k_ ∨ w.heap.size ≤ k_) ∧ some k_ ≠ (v408 : Value).ownBlock ∧ k_ ≠ gb362)) (by (with_reducible repeat (first | apply Kd.V_alloc | apply Kd.V_drewN | apply Kd.V_drew)); exact Kd.V_mono HO_0.out (fun _ hk => ⟨⟨hk.1.1.1, ⟨hk.2, hk.1.1.2⟩⟩, hk.1.2⟩)) hg hat)
                               have n1_ := Aside0.mk (Kd.V_afterv (ok := (fun k_ => (P0_ k_ ∨ w.heap.size ≤ k_) ∧ some k_ ≠ (v408 : Value).ownBlock ∧ k_ ≠ gb362)) (by (with_reducible repeat (first | apply Kd.V_alloc | apply Kd.V_drewN | apply Kd.V_drew)); exact Kd.V_mono HO_18.out (fun _ hk => ⟨⟨hk.1.1.1, ⟨hk.2, hk.1.1.2⟩⟩, hk.1.2⟩)) hg hat)
                               have n2_ := Aside0.mk (Kd.V_afterv (ok := (fun k_ => (P0_ k_ ∨ w.heap.size ≤ k_) ∧ some k_ ≠ (v408 : Value).ownBlock ∧ k_ ≠ gb362)) (by (with_reducible repeat (first | apply Kd.V_alloc | apply Kd.V_drewN | apply Kd.V_drew)); exact Kd.V_mono HO_20.out (fun _ hk => ⟨⟨hk.1.1.1, ⟨hk.2, hk.1.1.2⟩⟩, hk.1.2⟩)) hg hat)
                               have n3_ := Aside0.mk (blk_grown (g := gb362) (o := .cells #[.int .u64 a1_0, .int .i64 x363001_2, .string a1_2] 25 (0, 0)) (by (with_reducible repeat (first | refine blk_drewN ?_ _ | refine blk_drew ?_ | refine blk_alloc ?_ _)); exact BK362.out) hg (Kd.R_ne HO398.out BK362.out (by decide)))
                               have n4_ := Aside0.mk (Kd.V_afterv (ok := (fun k_ => (P0_ k_ ∨ w.heap.size ≤ k_) ∧ some k_ ≠ (v408 : Value).ownBlock ∧ k_ ≠ gb362)) (by (with_reducible repeat (first | apply Kd.V_alloc | apply Kd.V_drewN | apply Kd.V_drew)); exact Kd.V_mono HO395.out (fun _ hk => ⟨⟨hk.1.1.1, ⟨hk.2, hk.1.1.2⟩⟩, hk.1.2⟩)) hg hat)
                               have n5_ := Aside0.mk (Kd.V_afterv (ok := (fun k_ => (P0_ k_ ∨ w.heap.size ≤ k_) ∧ some k_ ≠ (v408 : Value).ownBlock ∧ k_ ≠ gb362)) (by (with_reducible repeat (first | apply Kd.V_alloc | apply Kd.V_drewN | apply Kd.V_drew)); exact Kd.V_mono HO403.out (fun _ hk => ⟨⟨hk.1.1.1, ⟨hk.2, hk.1.1.2⟩⟩, hk.1.2⟩)) hg hat)
                               have n6_ := Aside0.mk (Kd.R_after (ok := (fun k_ => (w.heap.size ≤ k_))) (by (with_reducible repeat (first | apply Kd.R_alloc | apply Kd.R_drewN | apply Kd.R_drew)); exact Kd.R_mono HO409.out (fun _ hk => ⟨hk.1.1, hk.2⟩)) hg hat)
                               have n7_ := Aside0.mk (hb)
                               have n8_ := Aside0.mk (ho)
                               clear HO_0
                               clear HO_18
                               clear HO_20
                               clear BK362
                               clear HO395
                               clear HO403
                               clear HO409
                               clear HB
                               clear HO398
                               have HO_0 := n0_
                               have HO_18 := n1_
                               have HO_20 := n2_
                               have BK362 := n3_
                               have HO395 := n4_
                               have HO403 := n5_
                               have HO409 := n6_
                               have HB := n7_
                               have HO406 := n8_
                               clear n0_ n1_ n2_ n3_ n4_ n5_ n6_ n7_ n8_
                               clear ho hb hg hat
                               refine hK.out _ _ trivial (fun hHeld => ?_)
                               clear hK K
                               refine norm_ (a' := ?_) ?_ ?_
                               rotate_left
                               ·
                                show Act.put _ (some 107) _ = _
                                simp only [Act.put, List.setIfInBounds_toArray, List.set_cons_zero, List.set_cons_succ, i64_w, i32_w]
                                rfl
                               exact norm_ (by simp only [putAll, Act.put, List.setIfInBounds_toArray, List.set_cons_zero, List.set_cons_succ]) (hCont (v397, v405, v408) _ ⟨(by (with_reducible repeat (first | apply Kd.V_alloc | apply Kd.V_drewN | apply Kd.V_drew)); exact Kd.V_mono HO395.out (fun _ hk => ⟨hk.1.1, ⟨hk.2, ⟨hk.1.2.1, hk.1.2.2⟩⟩⟩)), (by (with_reducible repeat (first | apply Kd.V_alloc | apply Kd.V_drewN | apply Kd.V_drew)); exact Kd.V_mono HO403.out (fun _ hk => ⟨hk.1.1, ⟨hk.2, ⟨hk.1.2.1, hk.1.2.2⟩⟩⟩)), (by (with_reducible repeat (first | apply Kd.R_alloc | apply Kd.R_drewN | apply Kd.R_drew)); exact HO406.out), (by (with_reducible repeat (first | apply Kd.R_alloc | apply Kd.R_drewN | apply Kd.R_drew)); exact HO409.out), (by (with_reducible repeat (first | apply Kd.V_alloc | apply Kd.V_drewN | apply Kd.V_drew)); exact Kd.V_mono HO_0.out (fun _ hk => ⟨hk.1.1, ⟨hk.2, ⟨hk.1.2.1, hk.1.2.2⟩⟩⟩)), (by (with_reducible repeat (first | apply Kd.V_alloc | apply Kd.V_drewN | apply Kd.V_drew)); exact Kd.V_mono HO_18.out (fun _ hk => ⟨hk.1.1, ⟨hk.2, ⟨hk.1.2.1, hk.1.2.2⟩⟩⟩)), (by (with_reducible repeat (first | apply Kd.V_alloc | apply Kd.V_drewN | apply Kd.V_drew)); exact Kd.V_mono HO_20.out (fun _ hk => ⟨hk.1.1, ⟨hk.2, ⟨hk.1.2.1, hk.1.2.2⟩⟩⟩)), (by (with_reducible repeat (first | refine blk_drewN ?_ _ | refine blk_drew ?_ | refine blk_alloc ?_ _)); exact BK362.out), (by repeat (first | (with_reducible first | exact HB.out | apply below_alloc | apply pw_below_drewN | apply below_drew1 | refine below_set ?_ GE362.out) | exact HB.out))⟩)
                             ·
                              skip
                              refine Kd.R_lit_step (Kd.int .u8) _ 5 ?hg (N := 109) ?hd (xs := ([a3] : List Int)) (inner := [.int .u8 a3]) (ok := fun _ => True) (okp := fun _ => True) ?hr ?hp (fun _ hk => hk) trivial (Below.refl _ _) (Nat.le_refl _) (by simp) ?_; (case hd => rfl); (case hg => rfl); (case hr => first | (go_simp; done) | (go_simp; rfl)); (case hp => exact (Reps.one (show Kd.M (Kd.int .u8) _ _ _ a3 [.int .u8 a3] from rfl) (Reps.none _ _)))
                              intro v408 w73 ho74 hb hg_ hnew_
                              clear hg_ hnew_
                              (first | rw [← Ny407.out] at ho74 | (simp only [Int.reduceToNat] at ho74; rw [← Ny407.out] at ho74))
                              have n0_ := Aside0.mk (Kd.V_elder' (by (with_reducible repeat (first | apply Kd.V_alloc | apply Kd.V_drewN | apply Kd.V_drew)); exact HO_0.out) (Kd.R_base ho74) hb)
                              have n1_ := Aside0.mk (Kd.V_elder' (by (with_reducible repeat (first | apply Kd.V_alloc | apply Kd.V_drewN | apply Kd.V_drew)); exact HO_18.out) (Kd.R_base ho74) hb)
                              have n2_ := Aside0.mk (Kd.V_elder' (by (with_reducible repeat (first | apply Kd.V_alloc | apply Kd.V_drewN | apply Kd.V_drew)); exact HO_20.out) (Kd.R_base ho74) hb)
                              have n3_ := Aside0.mk (Kd.V_elder' (by (with_reducible repeat (first | apply Kd.V_alloc | apply Kd.V_drewN | apply Kd.V_drew)); exact HO395.out) (Kd.R_base ho74) hb)
                              have n4_ := Aside0.mk (Kd.V_elder' (by (with_reducible repeat (first | apply Kd.V_alloc | apply Kd.V_drewN | apply Kd.V_drew)); exact HO403.out) (Kd.R_base ho74) hb)
                              have n5_ := Aside0.mk (Kd.R_lower (Kd.R_newM (M := fun k_ => (w.heap.size ≤ k_)) ho74 (below_size (by repeat (first | (with_reducible first | exact HB.out | apply below_alloc | apply pw_below_drewN | apply below_drew1 | refine below_set ?_ GE362.out) | exact HB.out))) (fun k_ h_ => h_)) (below_size (by repeat (first | (with_reducible first | exact HB.out | apply below_alloc | apply pw_below_drewN | apply below_drew1 | refine below_set ?_ GE362.out) | exact HB.out))))
                              have n6_ := Aside0.mk (blk_below (g := gb362) (o := .cells #[.int .u64 a1_0, .int .i64 x363001_2, .string a1_2] 25 (0, 0)) (by (with_reducible repeat (first | refine blk_drewN ?_ _ | refine blk_drew ?_ | refine blk_alloc ?_ _)); exact BK362.out) hb)
                              have n7_ := Aside0.mk (below_step (by repeat (first | (with_reducible first | exact HB.out | apply below_alloc | apply pw_below_drewN | apply below_drew1 | refine below_set ?_ GE362.out) | exact HB.out)) hb)
                              clear HO_0
                              clear HO_18
                              clear HO_20
                              clear HO395
                              clear HO403
                              clear BK362
                              clear HB
                              have HO_0 := n0_
                              have HO_18 := n1_
                              have HO_20 := n2_
                              have HO395 := n3_
                              have HO403 := n4_
                              have HO409 := n5_
                              have BK362 := n6_
                              have HB := n7_
                              clear n0_ n1_ n2_ n3_ n4_ n5_ n6_ n7_
                              clear hb ho74
                              refine hK.out _ _ trivial (fun hHeld => ?_)
                              clear hK K
                              refine norm_ (a' := ?_) ?_ ?_
                              rotate_left
                              ·
                               show Act.put _ (some 109) _ = _
                               simp only [Act.put, List.setIfInBounds_toArray, List.set_cons_zero, List.set_cons_succ, i64_w, i32_w]
                               rfl
                              refine one_ (i := 10) (N := some 104) #[true, true, true, true, true, true, true, true, true, true, true, true, true, false, true, true, false, false, true, false, false, false] rfl rfl (one_of HT_.out (by kernel_rfl)) (by decide) (fun K hK => ?_)
                              refine Kd.R_lit_step (Kd.int .u8) _ 5 ?hg (N := 104) ?hd (xs := ([] : List Int)) (inner := []) (ok := fun _ => True) (okp := fun _ => True) ?hr ?hp (fun _ hk => hk) trivial (Below.refl _ _) (Nat.le_refl _) (by simp) ?_; (case hd => rfl); (case hg => rfl); (case hr => first | (go_simp; done) | (go_simp; rfl)); (case hp => exact (Reps.none _ _))
                              intro v397 w75 ho76 hb hg_ hnew_
                              clear hg_ hnew_
                              (first | rw [← Ny396.out] at ho76 | (simp only [Int.reduceToNat] at ho76; rw [← Ny396.out] at ho76))
                              have n0_ := Aside0.mk (Kd.V_elder' (by (with_reducible repeat (first | apply Kd.V_alloc | apply Kd.V_drewN | apply Kd.V_drew)); exact HO_0.out) (Kd.R_base ho76) hb)
                              have n1_ := Aside0.mk (Kd.V_elder' (by (with_reducible repeat (first | apply Kd.V_alloc | apply Kd.V_drewN | apply Kd.V_drew)); exact HO_18.out) (Kd.R_base ho76) hb)
                              have n2_ := Aside0.mk (Kd.V_elder' (by (with_reducible repeat (first | apply Kd.V_alloc | apply Kd.V_drewN | apply Kd.V_drew)); exact HO_20.out) (Kd.R_base ho76) hb)
                              have n3_ := Aside0.mk (Kd.V_elder' (by (with_reducible repeat (first | apply Kd.V_alloc | apply Kd.V_drewN | apply Kd.V_drew)); exact HO395.out) (Kd.R_base ho76) hb)
                              have n4_ := Aside0.mk (Kd.V_elder' (by (with_reducible repeat (first | apply Kd.V_alloc | apply Kd.V_drewN | apply Kd.V_drew)); exact HO403.out) (Kd.R_base ho76) hb)
                              have n5_ := Aside0.mk (Kd.R_elder' (by (with_reducible repeat (first | apply Kd.R_alloc | apply Kd.R_drewN | apply Kd.R_drew)); exact HO409.out) (Kd.R_base ho76) hb)
                              have n6_ := Aside0.mk (Kd.R_lower (Kd.R_new' (Kd.R_newM (M := fun k_ => (w.heap.size ≤ k_)) ho76 (below_size (by repeat (first | (with_reducible first | exact HB.out | apply below_alloc | apply pw_below_drewN | apply below_drew1 | refine below_set ?_ GE362.out) | exact HB.out))) (fun k_ h_ => h_)) (Kd.R_lt (by (with_reducible repeat (first | apply Kd.R_alloc | apply Kd.R_drewN | apply Kd.R_drew)); exact HO409.out))) (below_size (by repeat (first | (with_reducible first | exact HB.out | apply below_alloc | apply pw_below_drewN | apply below_drew1 | refine below_set ?_ GE362.out) | exact HB.out))))
                              have n7_ := Aside0.mk (blk_below (g := gb362) (o := .cells #[.int .u64 a1_0, .int .i64 x363001_2, .string a1_2] 25 (0, 0)) (by (with_reducible repeat (first | refine blk_drewN ?_ _ | refine blk_drew ?_ | refine blk_alloc ?_ _)); exact BK362.out) hb)
                              have n8_ := Aside0.mk (below_step (by repeat (first | (with_reducible first | exact HB.out | apply below_alloc | apply pw_below_drewN | apply below_drew1 | refine below_set ?_ GE362.out) | exact HB.out)) hb)
                              clear HO_0
                              clear HO_18
                              clear HO_20
                              clear HO395
                              clear HO403
                              clear HO409
                              clear BK362
                              clear HB
                              have HO_0 := n0_
                              have HO_18 := n1_
                              have HO_20 := n2_
                              have HO395 := n3_
                              have HO403 := n4_
                              have HO409 := n5_
                              have HO398 := n6_
                              have BK362 := n7_
                              have HB := n8_
                              clear n0_ n1_ n2_ n3_ n4_ n5_ n6_ n7_ n8_
                              clear hb ho76
                              refine hK.out _ _ trivial (fun hHeld => ?_)
                              clear hK K
                              refine norm_ (a' := ?_) ?_ ?_
                              rotate_left
                              ·
                               show Act.put _ (some 104) _ = _
                               simp only [Act.put, List.setIfInBounds_toArray, List.set_cons_zero, List.set_cons_succ, i64_w, i32_w]
                               rfl
                              refine one_ (i := 13) (N := some 107) #[true, true, true, true, true, true, true, true, true, true, true, true, true, true, true, true, false, false, true, false, false, false] rfl rfl (one_of HT_.out (by kernel_rfl)) (by decide) (fun K hK => ?_)
                              refine Kd.R_append_rows_step (Kd.int .u8) (w0 := w) w.heap.size (by rfl) (.tmp 104) (.tmp 106) 26 5 (.int .u8 0) 1 rfl Try.underlying26 info5 rfl (by decide) (by omega) v397 y396 y399 _ _ _ (fun k_ => (w.heap.size ≤ k_) ∧ some k_ ≠ (v408 : Value).ownBlock) (fun _ => False) rfl rfl ?aO ?aR (fun _ _ h => h) (fun _ h => h.elim) ?aF ?aB ?aS ?aL ?_
                              (case aR => repeat (first | exact (Kd.V_reads' HO403.out).2.2 | (with_reducible refine Kd.C_alloc ?_ _) | (with_reducible refine Kd.C_drewN ?_ _) | (with_reducible refine Kd.C_drew ?_)))
                              (case aB => exact (by repeat (first | (with_reducible first | exact HB.out | apply below_alloc | apply pw_below_drewN | apply below_drew1 | refine below_set ?_ GE362.out) | exact HB.out)))
                              (case aF => exact (fun k_ hk => ⟨(Nat.le_trans (below_size (by repeat (first | (with_reducible first | exact HB.out | apply below_alloc | apply pw_below_drewN | apply below_drew1 | refine below_set ?_ GE362.out) | exact HB.out))) hk), Kd.fresh' (Kd.R_lt (by (with_reducible repeat (first | apply Kd.R_alloc | apply Kd.R_drewN | apply Kd.R_drew)); exact HO409.out)) k_ hk⟩))
                              (case aO => exact (by (with_reducible repeat (first | apply Kd.R_alloc | apply Kd.R_drewN | apply Kd.R_drew)); exact Kd.R_mono HO398.out (fun _ hk => ⟨hk.1.1, hk.2⟩)))
                              (case aS => exact (below_size (by repeat (first | (with_reducible first | exact HB.out | apply below_alloc | apply pw_below_drewN | apply below_drew1 | refine below_set ?_ GE362.out) | exact HB.out))))
                              (case aL => have := LMc63.out; omega)
                              intro v405 w77 ho hb hg hat
                              rw [← Ny404.out] at ho
                              have n0_ := Aside0.mk (Kd.V_afterv (ok := (fun k_ => (P0_ k_ ∨ w.heap.size ≤ k_) ∧ some k_ ≠ (v408 : Value).ownBlock ∧ k_ ≠ gb362)) (by (with_reducible repeat (first | apply Kd.V_alloc | apply Kd.V_drewN | apply Kd.V_drew)); exact Kd.V_mono HO_0.out (fun _ hk => ⟨⟨hk.1.1.1, ⟨hk.1.2, hk.1.1.2⟩⟩, hk.2⟩)) hg hat)
                              have n1_ := Aside0.mk (Kd.V_afterv (ok := (fun k_ => (P0_ k_ ∨ w.heap.size ≤ k_) ∧ some k_ ≠ (v408 : Value).ownBlock ∧ k_ ≠ gb362)) (by (with_reducible repeat (first | apply Kd.V_alloc | apply Kd.V_drewN | apply Kd.V_drew)); exact Kd.V_mono HO_18.out (fun _ hk => ⟨⟨hk.1.1.1, ⟨hk.1.2, hk.1.1.2⟩⟩, hk.2⟩)) hg hat)
                              have n2_ := Aside0.mk (Kd.V_afterv (ok := (fun k_ => (P0_ k_ ∨ w.heap.size ≤ k_) ∧ some k_ ≠ (v408 : Value).ownBlock ∧ k_ ≠ gb362)) (by (with_reducible repeat (first | apply Kd.V_alloc | apply Kd.V_drewN | apply Kd.V_drew)); exact Kd.V_mono HO_20.out (fun _ hk => ⟨⟨hk.1.1.1, ⟨hk.1.2, hk.1.1.2⟩⟩, hk.2⟩)) hg hat)
                              have n3_ := Aside0.mk (blk_grown (g := gb362) (o := .cells #[.int .u64 a1_0, .int .i64 x363001_2, .string a1_2] 25 (0, 0)) (by (with_reducible repeat (first | refine blk_drewN ?_ _ | refine blk_drew ?_ | refine blk_alloc ?_ _)); exact BK362.out) hg (Kd.R_ne HO398.out BK362.out (by decide)))
                              have n4_ := Aside0.mk (Kd.V_afterv (ok := (fun k_ => (P0_ k_ ∨ w.heap.size ≤ k_) ∧ some k_ ≠ (v408 : Value).ownBlock ∧ k_ ≠ gb362)) (by (with_reducible repeat (first | apply Kd.V_alloc | apply Kd.V_drewN | apply Kd.V_drew)); exact Kd.V_mono HO395.out (fun _ hk => ⟨⟨hk.1.1.1, ⟨hk.1.2, hk.1.1.2⟩⟩, hk.2⟩)) hg hat)
                              have n5_ := Aside0.mk (Kd.V_afterv (ok := (fun k_ => (P0_ k_ ∨ w.heap.size ≤ k_) ∧ some k_ ≠ (v408 : Value).ownBlock ∧ k_ ≠ gb362)) (by (with_reducible repeat (first | apply Kd.V_alloc | apply Kd.V_drewN | apply Kd.V_drew)); exact Kd.V_mono HO403.out (fun _ hk => ⟨⟨hk.1.1.1, ⟨hk.1.2, hk.1.1.2⟩⟩, hk.2⟩)) hg hat)
                              have n6_ := Aside0.mk (Kd.R_after (ok := (fun k_ => (w.heap.size ≤ k_))) (by (with_reducible repeat (first | apply Kd.R_alloc | apply Kd.R_drewN | apply Kd.R_drew)); exact Kd.R_mono HO409.out (fun _ hk => ⟨hk.1.1, hk.2⟩)) hg hat)
                              have n7_ := Aside0.mk (hb)
                              have n8_ := Aside0.mk (ho)
                              clear HO_0
                              clear HO_18
                              clear HO_20
                              clear BK362
                              clear HO395
                              clear HO403
                              clear HO409
                              clear HB
                              clear HO398
                              have HO_0 := n0_
                              have HO_18 := n1_
                              have HO_20 := n2_
                              have BK362 := n3_
                              have HO395 := n4_
                              have HO403 := n5_
                              have HO409 := n6_
                              have HB := n7_
                              have HO406 := n8_
                              clear n0_ n1_ n2_ n3_ n4_ n5_ n6_ n7_ n8_
                              clear ho hb hg hat
                              refine hK.out _ _ trivial (fun hHeld => ?_)
                              clear hK K
                              refine norm_ (a' := ?_) ?_ ?_
                              rotate_left
                              ·
                               show Act.put _ (some 107) _ = _
                               simp only [Act.put, List.setIfInBounds_toArray, List.set_cons_zero, List.set_cons_succ, i64_w, i32_w]
                               rfl
                              exact norm_ (by simp only [putAll, Act.put, List.setIfInBounds_toArray, List.set_cons_zero, List.set_cons_succ]) (hCont (v397, v405, v408) _ ⟨(by (with_reducible repeat (first | apply Kd.V_alloc | apply Kd.V_drewN | apply Kd.V_drew)); exact Kd.V_mono HO395.out (fun _ hk => ⟨hk.1.1, ⟨hk.2, ⟨hk.1.2.1, hk.1.2.2⟩⟩⟩)), (by (with_reducible repeat (first | apply Kd.V_alloc | apply Kd.V_drewN | apply Kd.V_drew)); exact Kd.V_mono HO403.out (fun _ hk => ⟨hk.1.1, ⟨hk.2, ⟨hk.1.2.1, hk.1.2.2⟩⟩⟩)), (by (with_reducible repeat (first | apply Kd.R_alloc | apply Kd.R_drewN | apply Kd.R_drew)); exact HO406.out), (by (with_reducible repeat (first | apply Kd.R_alloc | apply Kd.R_drewN | apply Kd.R_drew)); exact HO409.out), (by (with_reducible repeat (first | apply Kd.V_alloc | apply Kd.V_drewN | apply Kd.V_drew)); exact Kd.V_mono HO_0.out (fun _ hk => ⟨hk.1.1, ⟨hk.2, ⟨hk.1.2.1, hk.1.2.2⟩⟩⟩)), (by (with_reducible repeat (first | apply Kd.V_alloc | apply Kd.V_drewN | apply Kd.V_drew)); exact Kd.V_mono HO_18.out (fun _ hk => ⟨hk.1.1, ⟨hk.2, ⟨hk.1.2.1, hk.1.2.2⟩⟩⟩)), (by (with_reducible repeat (first | apply Kd.V_alloc | apply Kd.V_drewN | apply Kd.V_drew)); exact Kd.V_mono HO_20.out (fun _ hk => ⟨hk.1.1, ⟨hk.2, ⟨hk.1.2.1, hk.1.2.2⟩⟩⟩)), (by (with_reducible repeat (first | refine blk_drewN ?_ _ | refine blk_drew ?_ | refine blk_alloc ?_ _)); exact BK362.out), (by repeat (first | (with_reducible first | exact HB.out | apply below_alloc | apply pw_below_drewN | apply below_drew1 | refine below_set ?_ GE362.out) | exact HB.out))⟩)
                            rintro ⟨v397, v405, v408⟩ w78 ⟨h0_, h1_, h2_, h3_, h4_, h5_, h6_, h7_, h8_⟩
                            have n0_ : Aside0 (Kd.V (Kd.int .u8) 5 w78 w.heap.size (fun k_ => (P0_ k_ ∨ w.heap.size ≤ k_) ∧ some k_ ≠ (v405 : Value).ownBlock ∧ some k_ ≠ (v408 : Value).ownBlock ∧ k_ ≠ gb362) (.slice A71 y391.length c71) y391) := ⟨h0_⟩
                            have n1_ : Aside0 (Kd.V (Kd.int .u8) 5 w78 w.heap.size (fun k_ => (P0_ k_ ∨ w.heap.size ≤ k_) ∧ some k_ ≠ (v405 : Value).ownBlock ∧ some k_ ≠ (v408 : Value).ownBlock ∧ k_ ≠ gb362) (.slice A72 y399.length c72) y399) := ⟨h1_⟩
                            have n2_ : Aside0 (Kd.R (Kd.int .u8) 5 w78 w.heap.size (fun k_ => (w.heap.size ≤ k_) ∧ some k_ ≠ (v408 : Value).ownBlock) v405 y404) := ⟨h2_⟩
                            have n3_ : Aside0 (Kd.R (Kd.int .u8) 5 w78 w.heap.size (fun k_ => (w.heap.size ≤ k_) ∧ some k_ ≠ (v405 : Value).ownBlock) v408 y407) := ⟨h3_⟩
                            have n4_ : Aside0 (Kd.V (Kd.int .u8) 5 w78 w.heap.size (fun k_ => (P0_ k_ ∨ w.heap.size ≤ k_) ∧ some k_ ≠ (v405 : Value).ownBlock ∧ some k_ ≠ (v408 : Value).ownBlock ∧ k_ ≠ gb362) (.slice A0 x0_2.length c0) x0_2) := ⟨h4_⟩
                            have n5_ : Aside0 (Kd.V (Kd.int .u8) 5 w78 w.heap.size (fun k_ => (P0_ k_ ∨ w.heap.size ≤ k_) ∧ some k_ ≠ (v405 : Value).ownBlock ∧ some k_ ≠ (v408 : Value).ownBlock ∧ k_ ≠ gb362) (.slice Ao46 x18_19.length co46) x18_19) := ⟨h5_⟩
                            have n6_ : Aside0 (Kd.V (Kd.int .u8) 5 w78 w.heap.size (fun k_ => (P0_ k_ ∨ w.heap.size ≤ k_) ∧ some k_ ≠ (v405 : Value).ownBlock ∧ some k_ ≠ (v408 : Value).ownBlock ∧ k_ ≠ gb362) (.slice Ao48 x20_41.length co48) x20_41) := ⟨h6_⟩
                            have n7_ : Aside0 (w78.heap[gb362]? = some (.cells #[.int .u64 a1_0, .int .i64 x363001_2, .string a1_2] 25 (0, 0))) := ⟨h7_⟩
                            have n8_ : Aside0 (Below w.heap.size w w78) := ⟨h8_⟩
                            clear HO_0
                            clear HO_18
                            clear HO_20
                            clear BK362
                            clear HB
                            clear h0_ h1_ h2_ h3_ h4_ h5_ h6_ h7_ h8_
                            have HO395 := n0_
                            have HO403 := n1_
                            have HO406 := n2_
                            have HO409 := n3_
                            have HO_0 := n4_
                            have HO_18 := n5_
                            have HO_20 := n6_
                            have BK362 := n7_
                            have HB := n8_
                            clear n0_ n1_ n2_ n3_ n4_ n5_ n6_ n7_ n8_
                            have hHeld := trivial
                            obtain ⟨Ao80, co80, eo80⟩ := Kd.R_slice HO409.out
                            (first | subst eo80 | (injection eo80 with f1_ f2_ f3_; have f4_ := f1_.symm; have f5_ := f3_.symm; clear f1_ f2_ f3_; subst f4_; subst f5_))
                            refine norm_ (a' := ?_) ?_ ?_
                            rotate_left
                            ·
                             simp only [putAll, Act.put, List.setIfInBounds_toArray, List.set_cons_zero, List.set_cons_succ]
                             rfl
                            refine one_ (i := 16) (N := some 110) #[true, true, true, true, true, true, true, true, true, true, true, true, true, true, true, true, true, false, true, false, false, false] rfl rfl (one_of HT_.out (by kernel_rfl)) (by decide) (fun K hK => ?_)
                            refine Kd.R_append_rows_step (Kd.int .u8) (w0 := w) w.heap.size (by rfl) (.tmp 107) (.tmp 109) 26 5 (.int .u8 0) 1 rfl Try.underlying26 info5 rfl (by decide) (by omega) v405 y404 y407 _ _ _ (fun k_ => (w.heap.size ≤ k_) ∧ some k_ ≠ (.slice Ao80 y407.length co80 : Value).ownBlock) (fun _ => False) rfl rfl ?aO ?aR (fun _ _ h => h) (fun _ h => h.elim) ?aF ?aB ?aS ?aL ?_
                            (case aR => repeat (first | exact (Kd.R_reads' HO409.out).2.2 | (with_reducible refine Kd.C_alloc ?_ _) | (with_reducible refine Kd.C_drewN ?_ _) | (with_reducible refine Kd.C_drew ?_)))
                            (case aB => exact (by repeat (first | (with_reducible first | exact HB.out | apply below_alloc | apply pw_below_drewN | apply below_drew1 | refine below_set ?_ GE362.out) | exact HB.out)))
                            (case aF => exact (fun k_ hk => ⟨(Nat.le_trans (below_size (by repeat (first | (with_reducible first | exact HB.out | apply below_alloc | apply pw_below_drewN | apply below_drew1 | refine below_set ?_ GE362.out) | exact HB.out))) hk), Kd.fresh' (Kd.R_lt (by (with_reducible repeat (first | apply Kd.R_alloc | apply Kd.R_drewN | apply Kd.R_drew)); exact HO409.out)) k_ hk⟩))
                            (case aO => exact (by (with_reducible repeat (first | apply Kd.R_alloc | apply Kd.R_drewN | apply Kd.R_drew)); exact HO406.out))
                            (case aS => exact (below_size (by repeat (first | (with_reducible first | exact HB.out | apply below_alloc | apply pw_below_drewN | apply below_drew1 | refine below_set ?_ GE362.out) | exact HB.out))))
                            (case aL => have := LMc64.out; omega)
                            intro v411 w79 ho hb hg hat
                            rw [← Ny410.out] at ho
                            have n0_ := Aside0.mk (Kd.V_afterv (ok := (fun k_ => (P0_ k_ ∨ w.heap.size ≤ k_) ∧ some k_ ≠ (.slice Ao80 y407.length co80 : Value).ownBlock ∧ k_ ≠ gb362)) (by (with_reducible repeat (first | apply Kd.V_alloc | apply Kd.V_drewN | apply Kd.V_drew)); exact Kd.V_mono HO_0.out (fun _ hk => ⟨⟨hk.1, ⟨hk.2.2.1, hk.2.2.2⟩⟩, hk.2.1⟩)) hg hat)
                            have n1_ := Aside0.mk (Kd.V_afterv (ok := (fun k_ => (P0_ k_ ∨ w.heap.size ≤ k_) ∧ some k_ ≠ (.slice Ao80 y407.length co80 : Value).ownBlock ∧ k_ ≠ gb362)) (by (with_reducible repeat (first | apply Kd.V_alloc | apply Kd.V_drewN | apply Kd.V_drew)); exact Kd.V_mono HO_18.out (fun _ hk => ⟨⟨hk.1, ⟨hk.2.2.1, hk.2.2.2⟩⟩, hk.2.1⟩)) hg hat)
                            have n2_ := Aside0.mk (Kd.V_afterv (ok := (fun k_ => (P0_ k_ ∨ w.heap.size ≤ k_) ∧ some k_ ≠ (.slice Ao80 y407.length co80 : Value).ownBlock ∧ k_ ≠ gb362)) (by (with_reducible repeat (first | apply Kd.V_alloc | apply Kd.V_drewN | apply Kd.V_drew)); exact Kd.V_mono HO_20.out (fun _ hk => ⟨⟨hk.1, ⟨hk.2.2.1, hk.2.2.2⟩⟩, hk.2.1⟩)) hg hat)
                            have n3_ := Aside0.mk (blk_grown (g := gb362) (o := .cells #[.int .u64 a1_0, .int .i64 x363001_2, .string a1_2] 25 (0, 0)) (by (with_reducible repeat (first | refine blk_drewN ?_ _ | refine blk_drew ?_ | refine blk_alloc ?_ _)); exact BK362.out) hg (Kd.R_ne HO406.out BK362.out (by decide)))
                            have n4_ := Aside0.mk (Kd.V_afterv (ok := (fun k_ => (P0_ k_ ∨ w.heap.size ≤ k_) ∧ some k_ ≠ (.slice Ao80 y407.length co80 : Value).ownBlock ∧ k_ ≠ gb362)) (by (with_reducible repeat (first | apply Kd.V_alloc | apply Kd.V_drewN | apply Kd.V_drew)); exact Kd.V_mono HO395.out (fun _ hk => ⟨⟨hk.1, ⟨hk.2.2.1, hk.2.2.2⟩⟩, hk.2.1⟩)) hg hat)
                            have n5_ := Aside0.mk (Kd.V_afterv (ok := (fun k_ => (P0_ k_ ∨ w.heap.size ≤ k_) ∧ some k_ ≠ (.slice Ao80 y407.length co80 : Value).ownBlock ∧ k_ ≠ gb362)) (by (with_reducible repeat (first | apply Kd.V_alloc | apply Kd.V_drewN | apply Kd.V_drew)); exact Kd.V_mono HO403.out (fun _ hk => ⟨⟨hk.1, ⟨hk.2.2.1, hk.2.2.2⟩⟩, hk.2.1⟩)) hg hat)
                            have n6_ := Aside0.mk (Kd.R_after (ok := (fun k_ => (w.heap.size ≤ k_))) (by (with_reducible repeat (first | apply Kd.R_alloc | apply Kd.R_drewN | apply Kd.R_drew)); exact HO409.out) hg hat)
                            have n7_ := Aside0.mk (hb)
                            have n8_ := Aside0.mk (ho)
                            clear HO_0
                            clear HO_18
                            clear HO_20
                            clear BK362
                            clear HO395
                            clear HO403
                            clear HO409
                            clear HB
                            clear HO406
                            have HO_0 := n0_
                            have HO_18 := n1_
                            have HO_20 := n2_
                            have BK362 := n3_
                            have HO395 := n4_
                            have HO403 := n5_
                            have HO409 := n6_
                            have HB := n7_
                            have HO412 := n8_
                            clear n0_ n1_ n2_ n3_ n4_ n5_ n6_ n7_ n8_
                            clear ho hb hg hat
                            obtain ⟨Ao81, co81, eo81⟩ := Kd.R_slice HO412.out
                            (first | subst eo81 | (injection eo81 with f1_ f2_ f3_; have f4_ := f1_.symm; have f5_ := f3_.symm; clear f1_ f2_ f3_; subst f4_; subst f5_))
                            refine hK.out _ _ trivial (fun hHeld => ?_)
                            clear hK K
                            refine norm_ (a' := ?_) ?_ ?_
                            rotate_left
                            ·
                             show Act.put _ (some 110) _ = _
                             simp only [Act.put, List.setIfInBounds_toArray, List.set_cons_zero, List.set_cons_succ, i64_w, i32_w]
                             rfl
                            refine last_ (i := 17) (N := some 111) #[true, true, true, true, true, true, true, true, true, true, true, true, true, true, true, true, true, true, true, false, false, false] rfl rfl (one_of HT_.out (by kernel_rfl)) (by decide) (fun K hK => ?_)
                            refine value_ (w1 := ?_) (v := ?_) (by rfl) rfl ?_ ?_
                            rotate_left 2
                            ·
                             go_simp
                             constructor
                             ·
                              rfl
                             ·
                              rfl
                            refine hK.out _ _ ?_
                            clear hK K
                            refine norm_ (a' := ?_) ?_ ?_
                            rotate_left
                            ·
                             show Act.put _ (some 111) _ = _
                             simp only [Act.put, List.setIfInBounds_toArray, List.set_cons_zero, List.set_cons_succ, i64_w, i32_w]
                             rfl
                            refine pure_ (i := 19) (N := some 113) (v := ?_) (a' := ?_) #[true, true, true, true, true, true, true, true, true, true, true, true, true, true, true, true, true, true, true, true, false, false] rfl rfl (any_of HT_.out (by kernel_rfl)) (fun _ _ _ h => h) (Or.inl ⟨by rfl, ?_⟩) ?_ ?_
                            rotate_left
                            ·
                             intro w'
                             go_simp
                             with_reducible rfl
                            rotate_left
                            ·
                             simp only [Act.put, List.setIfInBounds_toArray, List.set_cons_zero, List.set_cons_succ, i64_w, i32_w]
                             rfl
                            refine last_ (i := 20) (N := some 114) #[true, true, true, true, true, true, true, true, true, true, true, true, true, true, true, true, true, true, true, true, true, false] rfl rfl (one_of HT_.out (by kernel_rfl)) (by decide) (fun K hK => ?_)
                            have hvq82 : Kd.AllV (Kd.int .u8) 5 w79 w.heap.size (fun k_ => ((P0_ k_ ∨ w.heap.size ≤ k_) ∧ k_ ≠ gb362)) [.slice A0 x0_2.length c0, .slice Ao48 x20_41.length co48, .slice A71 y391.length c71, .slice Ao81 y410.length co81] ([x0_2, x20_41, y391, y410] : List (List Int)) := ⟨by (with_reducible repeat (first | apply Kd.V_alloc | apply Kd.V_drewN | apply Kd.V_drew)); exact Kd.V_mono HO_0.out (fun _ hk => ⟨hk.1.1, hk.1.2.2⟩), by (with_reducible repeat (first | apply Kd.V_alloc | apply Kd.V_drewN | apply Kd.V_drew)); exact Kd.V_mono HO_20.out (fun _ hk => ⟨hk.1.1, hk.1.2.2⟩), by (with_reducible repeat (first | apply Kd.V_alloc | apply Kd.V_drewN | apply Kd.V_drew)); exact Kd.V_mono HO395.out (fun _ hk => ⟨hk.1.1, hk.1.2.2⟩), Kd.V_mono (Kd.R_V (ok := fun k_ => ((w.heap.size ≤ k_) ∧ k_ ≠ gb362)) (by (with_reducible repeat (first | apply Kd.R_alloc | apply Kd.R_drewN | apply Kd.R_drew)); exact Kd.R_mono (Kd.R_types HO412.out BK362.out (by decide)) (fun _ hk => by first | exact ⟨hk.1.1, hk.2⟩ | exact ⟨.inr hk.1.1, hk.2⟩))) (fun k_ hk => ⟨(.inr (hk.1)), hk.2⟩), trivial⟩
                            obtain ⟨v414, hqq82⟩ : ∃ v_, ([.slice A0 x0_2.length c0, .slice Ao48 x20_41.length co48, .slice A71 y391.length c71, .slice Ao81 y410.length co81] : List Value).getD (x21_6).toNat undef = v_ := ⟨_, rfl⟩
                            have hoq82 : Kd.V (Kd.int .u8) 5 w79 w.heap.size (fun k_ => ((P0_ k_ ∨ w.heap.size ≤ k_) ∧ k_ ≠ gb362)) v414 y413 := by rw [← hqq82, Ny413.out]; exact Kd.AllV_get _ _ _ hvq82 jlq82
                            refine value_ (w1 := _) (v := v414) (by rfl) rfl (by rw [← hqq82]; first | done | exact pick_run (by rfl) (by rfl) Try.underlying26 jlq82) ?_
                            clear hvq82 hqq82
                            have HO415 := Aside0.mk hoq82
                            clear hoq82
                            refine hK.out _ _ ?_
                            clear hK K
                            refine norm_ (a' := ?_) ?_ ?_
                            rotate_left
                            ·
                             show Act.put _ (some 114) _ = _
                             simp only [Act.put, List.setIfInBounds_toArray, List.set_cons_zero, List.set_cons_succ, i64_w, i32_w]
                             rfl
                            refine pure_ (i := 21) (N := some 22) (v := ?_) (a' := ?_) #[true, true, true, true, true, true, true, true, true, true, true, true, true, true, true, true, true, true, true, true, true, true] rfl rfl (any_of HT_.out (by kernel_rfl)) (fun _ _ _ h => h) (Or.inl ⟨by rfl, ?_⟩) ?_ ?_
                            rotate_left
                            ·
                             intro w'
                             go_simp
                             with_reducible rfl
                            rotate_left
                            ·
                             simp only [Act.put, List.setIfInBounds_toArray, List.set_cons_zero, List.set_cons_succ, i64_w, i32_w]
                             rfl
                            refine done_ (done_of HT_.out (by kernel_rfl)) ?_
                            obtain ⟨Ao83, co83, eo83⟩ := Kd.V_slice HO415.out
                            subst eo83
                            try go_wp2_with (first | ((with_reducible refine gate_callee (f := 17) rfl ?_); refine goesL_ (some 117) rfl rfl Try.func17 (by kernel_rfl) rfl #[.slice Ao83 y413.length co83] rfl (by (try simp only [List.map_toArray, List.map_cons, List.map_nil]); first | done | rfl | (simp only [List.length_drop, List.length_take]; rfl)) ?_; (with_reducible refine (cont_Parse.calls k6 _ _ y413 t416 t417 t418 t419 _ ?side1 ?side2 A66.out).mono ?_); (case side1 => repeat (first | exact (Kd.V_reads' HO415.out).2.2 | (with_reducible refine Kd.C_alloc ?_ _) | (with_reducible refine Kd.C_drewN ?_ _) | (with_reducible refine Kd.C_drew ?_))); (case side2 => exact (Kd.V_reads' HO415.out).2.1); rintro e w84 ⟨rfl, hb⟩; refine ⟨_, rfl, ?_⟩; have n0_ := Aside0.mk (Kd.V_below (by (with_reducible repeat (first | apply Kd.V_alloc | apply Kd.V_drewN | apply Kd.V_drew)); exact HO_0.out) hb); have n1_ := Aside0.mk (Kd.V_below (by (with_reducible repeat (first | apply Kd.V_alloc | apply Kd.V_drewN | apply Kd.V_drew)); exact HO_18.out) hb); have n2_ := Aside0.mk (Kd.V_below (by (with_reducible repeat (first | apply Kd.V_alloc | apply Kd.V_drewN | apply Kd.V_drew)); exact HO_20.out) hb); have n3_ := Aside0.mk (Kd.V_below (by (with_reducible repeat (first | apply Kd.V_alloc | apply Kd.V_drewN | apply Kd.V_drew)); exact HO395.out) hb); have n4_ := Aside0.mk (Kd.V_below (by (with_reducible repeat (first | apply Kd.V_alloc | apply Kd.V_drewN | apply Kd.V_drew)); exact HO403.out) hb); have n5_ := Aside0.mk (Kd.R_below (by (with_reducible repeat (first | apply Kd.R_alloc | apply Kd.R_drewN | apply Kd.R_drew)); exact HO409.out) hb); have n6_ := Aside0.mk (Kd.R_below (by (with_reducible repeat (first | apply Kd.R_alloc | apply Kd.R_drewN | apply Kd.R_drew)); exact HO412.out) hb); have n7_ := Aside0.mk (Kd.V_below (by (with_reducible repeat (first | apply Kd.V_alloc | apply Kd.V_drewN | apply Kd.V_drew)); exact HO415.out) hb); have n8_ := Aside0.mk (blk_below (g := gb362) (o := .cells #[.int .u64 a1_0, .int .i64 x363001_2, .string a1_2] 25 (0, 0)) (by (with_reducible repeat (first | refine blk_drewN ?_ _ | refine blk_drew ?_ | refine blk_alloc ?_ _)); exact BK362.out) hb); have n9_ := Aside0.mk (below_step (by repeat (first | (with_reducible first | exact HB.out | apply below_alloc | apply pw_below_drewN | apply below_drew1 | refine below_set ?_ GE362.out) | exact HB.out)) hb); clear HO_0; clear HO_18; clear HO_20; clear HO395; clear HO403; clear HO409; clear HO412; clear HO415; clear BK362; clear HB; have HO_0 := n0_; have HO_18 := n1_; have HO_20 := n2_; have HO395 := n3_; have HO403 := n4_; have HO409 := n5_; have HO412 := n6_; have HO415 := n7_; have BK362 := n8_; have HB := n9_; clear n0_ n1_ n2_ n3_ n4_ n5_ n6_ n7_ n8_ n9_; (try clear hb); (try clear hb2); (try clear hk); (try clear hi); (try clear hge)) | ((with_reducible refine gate_dst (N := 23) rfl ?_); (try (refine gate_guard (by rfl) ?_; dsimp only)); refine box_event ?hg (N := 23) ?hd (cs := #[.int .u64 0, .int .i64 0, .string (⟨#[]⟩ : ByteArray)]) (t := 25) ?hr ?_; (case hd => rfl); (case hg => rfl); (case hr => first | (go_simp; done) | (go_simp; rfl)); intro gb420 hg w85 hbox hb; have n0_ := Aside0.mk (Kd.V_below (Kd.V_elderB (by (with_reducible repeat (first | apply Kd.V_alloc | apply Kd.V_drewN | apply Kd.V_drew)); exact HO_0.out) gb420 (Nat.le_of_eq hg.symm)) hb); have n1_ := Aside0.mk (Kd.V_below (Kd.V_elderB (by (with_reducible repeat (first | apply Kd.V_alloc | apply Kd.V_drewN | apply Kd.V_drew)); exact HO_18.out) gb420 (Nat.le_of_eq hg.symm)) hb); have n2_ := Aside0.mk (Kd.V_below (Kd.V_elderB (by (with_reducible repeat (first | apply Kd.V_alloc | apply Kd.V_drewN | apply Kd.V_drew)); exact HO_20.out) gb420 (Nat.le_of_eq hg.symm)) hb); have n3_ := Aside0.mk (Kd.V_below (Kd.V_elderB (by (with_reducible repeat (first | apply Kd.V_alloc | apply Kd.V_drewN | apply Kd.V_drew)); exact HO395.out) gb420 (Nat.le_of_eq hg.symm)) hb); have n4_ := Aside0.mk (Kd.V_below (Kd.V_elderB (by (with_reducible repeat (first | apply Kd.V_alloc | apply Kd.V_drewN | apply Kd.V_drew)); exact HO403.out) gb420 (Nat.le_of_eq hg.symm)) hb); have n5_ := Aside0.mk (Kd.R_below (by (with_reducible repeat (first | apply Kd.R_alloc | apply Kd.R_drewN | apply Kd.R_drew)); exact HO409.out) hb); have n6_ := Aside0.mk (Kd.R_below (by (with_reducible repeat (first | apply Kd.R_alloc | apply Kd.R_drewN | apply Kd.R_drew)); exact HO412.out) hb); have n7_ := Aside0.mk (Kd.V_below (Kd.V_elderB (by (with_reducible repeat (first | apply Kd.V_alloc | apply Kd.V_drewN | apply Kd.V_drew)); exact HO415.out) gb420 (Nat.le_of_eq hg.symm)) hb); have n8_ := Aside0.mk (blk_below (g := gb362) (o := .cells #[.int .u64 a1_0, .int .i64 x363001_2, .string a1_2] 25 (0, 0)) (by (with_reducible repeat (first | refine blk_drewN ?_ _ | refine blk_drew ?_ | refine blk_alloc ?_ _)); exact BK362.out) hb); have n9_ := Aside0.mk (below_step (by repeat (first | (with_reducible first | exact HB.out | apply below_alloc | apply pw_below_drewN | apply below_drew1 | refine below_set ?_ GE362.out) | exact HB.out)) hb); have n10_ := Aside0.mk (hbox); have n11_ := Aside0.mk ((by rw [hg]; exact (below_size (by repeat (first | (with_reducible first | exact HB.out | apply below_alloc | apply pw_below_drewN | apply below_drew1 | refine below_set ?_ GE362.out) | exact HB.out))) : w.heap.size ≤ gb420)); have n12_ := Aside0.mk ((by rw [hg]; exact (below_size (by repeat (first | (with_reducible first | exact HB.out | apply below_alloc | apply pw_below_drewN | apply below_drew1 | refine below_set ?_ GE362.out) | exact HB.out))) : w.heap.size ≤ gb420)); have n13_ := Aside0.mk ((by rw [hg]; exact Nat.ne_of_lt (blk_lt (g := gb362) (o := .cells #[.int .u64 a1_0, .int .i64 x363001_2, .string a1_2] 25 (0, 0)) (by (with_reducible repeat (first | refine blk_drewN ?_ _ | refine blk_drew ?_ | refine blk_alloc ?_ _)); exact BK362.out)) : gb362 ≠ gb420)); have n14_ := Aside0.mk ((by rw [hg]; exact Nat.ne_of_gt (blk_lt (g := gb362) (o := .cells #[.int .u64 a1_0, .int .i64 x363001_2, .string a1_2] 25 (0, 0)) (by (with_reducible repeat (first | refine blk_drewN ?_ _ | refine blk_drew ?_ | refine blk_alloc ?_ _)); exact BK362.out)) : gb420 ≠ gb362)); clear HO_0; clear HO_18; clear HO_20; clear HO395; clear HO403; clear HO409; clear HO412; clear HO415; clear BK362; clear HB; have HO_0 := n0_; have HO_18 := n1_; have HO_20 := n2_; have HO395 := n3_; have HO403 := n4_; have HO409 := n5_; have HO412 := n6_; have HO415 := n7_; have BK362 := n8_; have HB := n9_; have BK420 := n10_; have GW420 := n11_; have GE420 := n12_; have NB362_420 := n13_; have NB420_362 := n14_; clear n0_ n1_ n2_ n3_ n4_ n5_ n6_ n7_ n8_ n9_ n10_ n11_ n12_ n13_ n14_; clear hb hbox hg; have hnb86 := NB420_362.out; have hnc86 := NB362_420.out; have hcz87_0 : w85.cell? ⟨gb420, 0, none⟩ = some (.int .u64 0) := (blk_cell BK420.out 0).trans rfl; have hcz87_1 : w85.cell? ⟨gb420, 1, none⟩ = some (.int .i64 0) := (blk_cell BK420.out 1).trans rfl; have hcz87_2 : w85.cell? ⟨gb420, 2, none⟩ = some (.string (⟨#[]⟩ : ByteArray)) := (blk_cell BK420.out 2).trans rfl; have hfz87_0 := blk_frozen BK420.out 0; have hfz87_1 := blk_frozen BK420.out 1; have hfz87_2 := blk_frozen BK420.out 2) | ((with_reducible refine gate_callee (f := 32) rfl ?_); refine goesL_ (some 122) rfl rfl Try.func32 (by kernel_rfl) rfl #[.slice Ao83 y413.length co83] rfl (by (try simp only [List.map_toArray, List.map_cons, List.map_nil]); first | done | rfl | (simp only [List.length_drop, List.length_take]; rfl)) ?_; (with_reducible refine (waybillref1_HeadOf.calls k6 _ _ y413 t421 t422 t423 t424 _ ?side1 ?side2 A67.out).mono ?_); (case side1 => refine (Kd.V_reads' (e := 5) (base := w.heap.size) (ok := fun k_ => (((P0_ k_ ∨ w.heap.size ≤ k_) ∧ k_ ≠ gb362) ∧ k_ ≠ gb420)) (n := y413.length) (c := co83) ?_).2.2; exact (by (with_reducible repeat (first | apply Kd.V_alloc | apply Kd.V_drewN | apply Kd.V_drew)); exact (Kd.V_mono (Kd.V_far (p := ⟨gb420, 2, none⟩) (Kd.V_far (p := ⟨gb420, 1, none⟩) (Kd.V_far (p := ⟨gb420, 0, none⟩) (Kd.V_mono HO415.out (fun k_ hk => (⟨hk, hk.2⟩ : _ ∧ k_ ≠ gb420))) (fun _ hk => hk.2) (.int .u64 t416)) (fun _ hk => hk.2) (.int .i64 t417)) (fun _ hk => hk.2) (.string t418)) (fun _ h_ => h_.1)))); (case side2 => exact (Kd.V_reads' HO415.out).2.1); rintro e w88 ⟨rfl, hb⟩; refine ⟨_, rfl, ?_⟩; have n0_ := Aside0.mk (Kd.V_below (by (with_reducible repeat (first | apply Kd.V_alloc | apply Kd.V_drewN | apply Kd.V_drew)); exact (Kd.V_mono (Kd.V_far (p := ⟨gb420, 2, none⟩) (Kd.V_far (p := ⟨gb420, 1, none⟩) (Kd.V_far (p := ⟨gb420, 0, none⟩) (Kd.V_mono HO_0.out (fun k_ hk => (⟨hk, hk.2⟩ : _ ∧ k_ ≠ gb420))) (fun _ hk => hk.2) (.int .u64 t416)) (fun _ hk => hk.2) (.int .i64 t417)) (fun _ hk => hk.2) (.string t418)) (fun _ h_ => h_.1))) hb); have n1_ := Aside0.mk (Kd.V_below (by (with_reducible repeat (first | apply Kd.V_alloc | apply Kd.V_drewN | apply Kd.V_drew)); exact (Kd.V_mono (Kd.V_far (p := ⟨gb420, 2, none⟩) (Kd.V_far (p := ⟨gb420, 1, none⟩) (Kd.V_far (p := ⟨gb420, 0, none⟩) (Kd.V_mono HO_18.out (fun k_ hk => (⟨hk, hk.2⟩ : _ ∧ k_ ≠ gb420))) (fun _ hk => hk.2) (.int .u64 t416)) (fun _ hk => hk.2) (.int .i64 t417)) (fun _ hk => hk.2) (.string t418)) (fun _ h_ => h_.1))) hb); have n2_ := Aside0.mk (Kd.V_below (by (with_reducible repeat (first | apply Kd.V_alloc | apply Kd.V_drewN | apply Kd.V_drew)); exact (Kd.V_mono (Kd.V_far (p := ⟨gb420, 2, none⟩) (Kd.V_far (p := ⟨gb420, 1, none⟩) (Kd.V_far (p := ⟨gb420, 0, none⟩) (Kd.V_mono HO_20.out (fun k_ hk => (⟨hk, hk.2⟩ : _ ∧ k_ ≠ gb420))) (fun _ hk => hk.2) (.int .u64 t416)) (fun _ hk => hk.2) (.int .i64 t417)) (fun _ hk => hk.2) (.string t418)) (fun _ h_ => h_.1))) hb); have n3_ := Aside0.mk (Kd.V_below (by (with_reducible repeat (first | apply Kd.V_alloc | apply Kd.V_drewN | apply Kd.V_drew)); exact (Kd.V_mono (Kd.V_far (p := ⟨gb420, 2, none⟩) (Kd.V_far (p := ⟨gb420, 1, none⟩) (Kd.V_far (p := ⟨gb420, 0, none⟩) (Kd.V_mono HO395.out (fun k_ hk => (⟨hk, hk.2⟩ : _ ∧ k_ ≠ gb420))) (fun _ hk => hk.2) (.int .u64 t416)) (fun _ hk => hk.2) (.int .i64 t417)) (fun _ hk => hk.2) (.string t418)) (fun _ h_ => h_.1))) hb); have n4_ := Aside0.mk (Kd.V_below (by (with_reducible repeat (first | apply Kd.V_alloc | apply Kd.V_drewN | apply Kd.V_drew)); exact (Kd.V_mono (Kd.V_far (p := ⟨gb420, 2, none⟩) (Kd.V_far (p := ⟨gb420, 1, none⟩) (Kd.V_far (p := ⟨gb420, 0, none⟩) (Kd.V_mono HO403.out (fun k_ hk => (⟨hk, hk.2⟩ : _ ∧ k_ ≠ gb420))) (fun _ hk => hk.2) (.int .u64 t416)) (fun _ hk => hk.2) (.int .i64 t417)) (fun _ hk => hk.2) (.string t418)) (fun _ h_ => h_.1))) hb); have n5_ := Aside0.mk (Kd.R_below (by (with_reducible repeat (first | apply Kd.R_alloc | apply Kd.R_drewN | apply Kd.R_drew)); exact (Kd.R_mono (Kd.R_far (p := ⟨gb420, 2, none⟩) (Kd.R_far (p := ⟨gb420, 1, none⟩) (Kd.R_far (p := ⟨gb420, 0, none⟩) (Kd.R_types HO409.out BK420.out (by decide)) (fun _ hk => hk.2) (.int .u64 t416)) (fun _ hk => hk.2) (.int .i64 t417)) (fun _ hk => hk.2) (.string t418)) (fun _ h_ => h_.1))) hb); have n6_ := Aside0.mk (Kd.R_below (by (with_reducible repeat (first | apply Kd.R_alloc | apply Kd.R_drewN | apply Kd.R_drew)); exact (Kd.R_mono (Kd.R_far (p := ⟨gb420, 2, none⟩) (Kd.R_far (p := ⟨gb420, 1, none⟩) (Kd.R_far (p := ⟨gb420, 0, none⟩) (Kd.R_types HO412.out BK420.out (by decide)) (fun _ hk => hk.2) (.int .u64 t416)) (fun _ hk => hk.2) (.int .i64 t417)) (fun _ hk => hk.2) (.string t418)) (fun _ h_ => h_.1))) hb); have n7_ := Aside0.mk (Kd.V_below (by (with_reducible repeat (first | apply Kd.V_alloc | apply Kd.V_drewN | apply Kd.V_drew)); exact (Kd.V_mono (Kd.V_far (p := ⟨gb420, 2, none⟩) (Kd.V_far (p := ⟨gb420, 1, none⟩) (Kd.V_far (p := ⟨gb420, 0, none⟩) (Kd.V_mono HO415.out (fun k_ hk => (⟨hk, hk.2⟩ : _ ∧ k_ ≠ gb420))) (fun _ hk => hk.2) (.int .u64 t416)) (fun _ hk => hk.2) (.int .i64 t417)) (fun _ hk => hk.2) (.string t418)) (fun _ h_ => h_.1))) hb); have n8_ := Aside0.mk (blk_below (g := gb362) (o := .cells #[.int .u64 a1_0, .int .i64 x363001_2, .string a1_2] 25 (0, 0)) (by (with_reducible repeat (first | refine blk_drewN ?_ _ | refine blk_drew ?_ | refine blk_alloc ?_ _)); refine blk_far ?_ NB362_420.out _; (with_reducible repeat (first | refine blk_drewN ?_ _ | refine blk_drew ?_ | refine blk_alloc ?_ _)); refine blk_far ?_ NB362_420.out _; (with_reducible repeat (first | refine blk_drewN ?_ _ | refine blk_drew ?_ | refine blk_alloc ?_ _)); refine blk_far ?_ NB362_420.out _; (with_reducible repeat (first | refine blk_drewN ?_ _ | refine blk_drew ?_ | refine blk_alloc ?_ _)); exact BK362.out) hb); have n9_ := Aside0.mk (blk_below (g := gb420) (o := .cells #[.int .u64 t416, .int .i64 t417, .string t418] 25 (0, 0)) (by (with_reducible repeat (first | refine blk_drewN ?_ _ | refine blk_drew ?_ | refine blk_alloc ?_ _)); refine blk_put (cs := #[.int .u64 t416, .int .i64 t417, .string (⟨#[]⟩ : ByteArray)]) ?_ 2 _ rfl; (with_reducible repeat (first | refine blk_drewN ?_ _ | refine blk_drew ?_ | refine blk_alloc ?_ _)); refine blk_put (cs := #[.int .u64 t416, .int .i64 0, .string (⟨#[]⟩ : ByteArray)]) ?_ 1 _ rfl; (with_reducible repeat (first | refine blk_drewN ?_ _ | refine blk_drew ?_ | refine blk_alloc ?_ _)); refine blk_put (cs := #[.int .u64 0, .int .i64 0, .string (⟨#[]⟩ : ByteArray)]) ?_ 0 _ rfl; (with_reducible repeat (first | refine blk_drewN ?_ _ | refine blk_drew ?_ | refine blk_alloc ?_ _)); exact BK420.out) hb); have n10_ := Aside0.mk (below_step (by repeat (first | (with_reducible first | exact HB.out | apply below_alloc | apply pw_below_drewN | apply below_drew1 | refine below_set ?_ GE362.out | refine below_set ?_ GE420.out) | exact HB.out)) hb); clear HO_0; clear HO_18; clear HO_20; clear HO395; clear HO403; clear HO409; clear HO412; clear HO415; clear BK362; clear BK420; clear HB; have HO_0 := n0_; have HO_18 := n1_; have HO_20 := n2_; have HO395 := n3_; have HO403 := n4_; have HO409 := n5_; have HO412 := n6_; have HO415 := n7_; have BK362 := n8_; have BK420 := n9_; have HB := n10_; clear n0_ n1_ n2_ n3_ n4_ n5_ n6_ n7_ n8_ n9_ n10_; (try clear hb); (try clear hb2); (try clear hk); (try clear hi); (try clear hge)) | ((with_reducible refine gate_dst (N := 25) rfl ?_); (try (refine gate_guard (by rfl) ?_; dsimp only)); refine box_event ?hg (N := 25) ?hd (cs := #[.int .u64 0, .int .i64 0, .string (⟨#[]⟩ : ByteArray)]) (t := 25) ?hr ?_; (case hd => rfl); (case hg => rfl); (case hr => first | (go_simp; done) | (go_simp; rfl)); intro gb425 hg w89 hbox hb; have n0_ := Aside0.mk (Kd.V_below (Kd.V_elderB (by (with_reducible repeat (first | apply Kd.V_alloc | apply Kd.V_drewN | apply Kd.V_drew)); exact HO_0.out) gb425 (Nat.le_of_eq hg.symm)) hb); have n1_ := Aside0.mk (Kd.V_below (Kd.V_elderB (by (with_reducible repeat (first | apply Kd.V_alloc | apply Kd.V_drewN | apply Kd.V_drew)); exact HO_18.out) gb425 (Nat.le_of_eq hg.symm)) hb); have n2_ := Aside0.mk (Kd.V_below (Kd.V_elderB (by (with_reducible repeat (first | apply Kd.V_alloc | apply Kd.V_drewN | apply Kd.V_drew)); exact HO_20.out) gb425 (Nat.le_of_eq hg.symm)) hb); have n3_ := Aside0.mk (Kd.V_below (Kd.V_elderB (by (with_reducible repeat (first | apply Kd.V_alloc | apply Kd.V_drewN | apply Kd.V_drew)); exact HO395.out) gb425 (Nat.le_of_eq hg.symm)) hb); have n4_ := Aside0.mk (Kd.V_below (Kd.V_elderB (by (with_reducible repeat (first | apply Kd.V_alloc | apply Kd.V_drewN | apply Kd.V_drew)); exact HO403.out) gb425 (Nat.le_of_eq hg.symm)) hb); have n5_ := Aside0.mk (Kd.R_below (by (with_reducible repeat (first | apply Kd.R_alloc | apply Kd.R_drewN | apply Kd.R_drew)); exact HO409.out) hb); have n6_ := Aside0.mk (Kd.R_below (by (with_reducible repeat (first | apply Kd.R_alloc | apply Kd.R_drewN | apply Kd.R_drew)); exact HO412.out) hb); have n7_ := Aside0.mk (Kd.V_below (Kd.V_elderB (by (with_reducible repeat (first | apply Kd.V_alloc | apply Kd.V_drewN | apply Kd.V_drew)); exact HO415.out) gb425 (Nat.le_of_eq hg.symm)) hb); have n8_ := Aside0.mk (blk_below (g := gb362) (o := .cells #[.int .u64 a1_0, .int .i64 x363001_2, .string a1_2] 25 (0, 0)) (by (with_reducible repeat (first | refine blk_drewN ?_ _ | refine blk_drew ?_ | refine blk_alloc ?_ _)); exact BK362.out) hb); have n9_ := Aside0.mk (blk_below (g := gb420) (o := .cells #[.int .u64 t416, .int .i64 t417, .string t418] 25 (0, 0)) (by (with_reducible repeat (first | refine blk_drewN ?_ _ | refine blk_drew ?_ | refine blk_alloc ?_ _)); exact BK420.out) hb); have n10_ := Aside0.mk (below_step (by repeat (first | (with_reducible first | exact HB.out | apply below_alloc | apply pw_below_drewN | apply below_drew1 | refine below_set ?_ GE362.out | refine below_set ?_ GE420.out) | exact HB.out)) hb); have n11_ := Aside0.mk (hbox); have n12_ := Aside0.mk ((by rw [hg]; exact (below_size (by repeat (first | (with_reducible first | exact HB.out | apply below_alloc | apply pw_below_drewN | apply below_drew1 | refine below_set ?_ GE362.out | refine below_set ?_ GE420.out) | exact HB.out))) : w.heap.size ≤ gb425)); have n13_ := Aside0.mk ((by rw [hg]; exact (below_size (by repeat (first | (with_reducible first | exact HB.out | apply below_alloc | apply pw_below_drewN | apply below_drew1 | refine below_set ?_ GE362.out | refine below_set ?_ GE420.out) | exact HB.out))) : w.heap.size ≤ gb425)); have n14_ := Aside0.mk ((by rw [hg]; exact Nat.ne_of_lt (blk_lt (g := gb362) (o := .cells #[.int .u64 a1_0, .int .i64 x363001_2, .string a1_2] 25 (0, 0)) (by (with_reducible repeat (first | refine blk_drewN ?_ _ | refine blk_drew ?_ | refine blk_alloc ?_ _)); exact BK362.out)) : gb362 ≠ gb425)); have n15_ := Aside0.mk ((by rw [hg]; exact Nat.ne_of_gt (blk_lt (g := gb362) (o := .cells #[.int .u64 a1_0, .int .i64 x363001_2, .string a1_2] 25 (0, 0)) (by (with_reducible repeat (first | refine blk_drewN ?_ _ | refine blk_drew ?_ | refine blk_alloc ?_ _)); exact BK362.out)) : gb425 ≠ gb362)); have n16_ := Aside0.mk ((by rw [hg]; exact Nat.ne_of_lt (blk_lt (g := gb420) (o := .cells #[.int .u64 t416, .int .i64 t417, .string t418] 25 (0, 0)) (by (with_reducible repeat (first | refine blk_drewN ?_ _ | refine blk_drew ?_ | refine blk_alloc ?_ _)); exact BK420.out)) : gb420 ≠ gb425)); have n17_ := Aside0.mk ((by rw [hg]; exact Nat.ne_of_gt (blk_lt (g := gb420) (o := .cells #[.int .u64 t416, .int .i64 t417, .string t418] 25 (0, 0)) (by (with_reducible repeat (first | refine blk_drewN ?_ _ | refine blk_drew ?_ | refine blk_alloc ?_ _)); exact BK420.out)) : gb425 ≠ gb420)); clear HO_0; clear HO_18; clear HO_20; clear HO395; clear HO403; clear HO409; clear HO412; clear HO415; clear BK362; clear BK420; clear HB; have HO_0 := n0_; have HO_18 := n1_; have HO_20 := n2_; have HO395 := n3_; have HO403 := n4_; have HO409 := n5_; have HO412 := n6_; have HO415 := n7_; have BK362 := n8_; have BK420 := n9_; have HB := n10_; have BK425 := n11_; have GW425 := n12_; have GE425 := n13_; have NB362_425 := n14_; have NB425_362 := n15_; have NB420_425 := n16_; have NB425_420 := n17_; clear n0_ n1_ n2_ n3_ n4_ n5_ n6_ n7_ n8_ n9_ n10_ n11_ n12_ n13_ n14_ n15_ n16_ n17_; clear hb hbox hg; have hnb90 := NB425_362.out; have hnc90 := NB362_425.out; have hnb91 := NB425_420.out; have hnc91 := NB420_425.out; have hcz92_0 : w89.cell? ⟨gb425, 0, none⟩ = some (.int .u64 0) := (blk_cell BK425.out 0).trans rfl; have hcz92_1 : w89.cell? ⟨gb425, 1, none⟩ = some (.int .i64 0) := (blk_cell BK425.out 1).trans rfl; have hcz92_2 : w89.cell? ⟨gb425, 2, none⟩ = some (.string (⟨#[]⟩ : ByteArray)) := (blk_cell BK425.out 2).trans rfl; have hfz92_0 := blk_frozen BK425.out 0; have hfz92_1 := blk_frozen BK425.out 1; have hfz92_2 := blk_frozen BK425.out 2; have hcz93_0 : w89.cell? ⟨gb420, 0, none⟩ = some (.int .u64 t416) := (blk_cell BK420.out 0).trans rfl; have hcz93_1 : w89.cell? ⟨gb420, 1, none⟩ = some (.int .i64 t417) := (blk_cell BK420.out 1).trans rfl; have hcz93_2 : w89.cell? ⟨gb420, 2, none⟩ = some (.string t418) := (blk_cell BK420.out 2).trans rfl; have hfz93_0 := blk_frozen BK420.out 0; have hfz93_1 := blk_frozen BK420.out 1; have hfz93_2 := blk_frozen BK420.out 2))
                            go_roundg k6
                            case measure => have := HJ7.out; have := HK2.out; have := HJ19.out; have := HJ34.out; have := HJ41.out; have := HK6.out; omega
                            case rel => exact ⟨(wrap64 (x21_6 + 1)), (by first | rfl | (simp; done) | (simp [*]; done)), H', ⟨by have := HJ7.out; have := HK2.out; have := HJ19.out; have := HJ34.out; have := HJ41.out; have := HK6.out; omega⟩, ⟨by (try simp only [hl0_2]); (try simp only [hl20_41]); (with_reducible repeat (first | apply Kd.V_alloc | apply Kd.V_drewN | apply Kd.V_drew)); exact Kd.V_mono (Kd.V_far (p := ⟨gb425, 2, none⟩) (Kd.V_far (p := ⟨gb425, 1, none⟩) (Kd.V_far (p := ⟨gb425, 0, none⟩) (Kd.V_mono HO_0.out (fun k_ hk => (⟨hk, hk.2⟩ : _ ∧ k_ ≠ gb425))) (fun _ hk => hk.2) (.int .u64 t421)) (fun _ hk => hk.2) (.int .i64 t422)) (fun _ hk => hk.2) (.string t423)) (fun _ hk => ⟨hk.1.1.1.1.1, hk.1.1.1.1.2.2⟩)⟩, ⟨by (try simp only [hl0_2]); (try simp only [hl20_41]); (with_reducible repeat (first | apply Kd.V_alloc | apply Kd.V_drewN | apply Kd.V_drew)); exact Kd.V_mono (Kd.V_far (p := ⟨gb425, 2, none⟩) (Kd.V_far (p := ⟨gb425, 1, none⟩) (Kd.V_far (p := ⟨gb425, 0, none⟩) (Kd.V_mono HO_18.out (fun k_ hk => (⟨hk, hk.2⟩ : _ ∧ k_ ≠ gb425))) (fun _ hk => hk.2) (.int .u64 t421)) (fun _ hk => hk.2) (.int .i64 t422)) (fun _ hk => hk.2) (.string t423)) (fun _ hk => ⟨hk.1.1.1.1.1, hk.1.1.1.1.2.2⟩)⟩, ⟨by (try simp only [hl0_2]); (try simp only [hl20_41]); (with_reducible repeat (first | apply Kd.V_alloc | apply Kd.V_drewN | apply Kd.V_drew)); exact Kd.V_mono (Kd.V_far (p := ⟨gb425, 2, none⟩) (Kd.V_far (p := ⟨gb425, 1, none⟩) (Kd.V_far (p := ⟨gb425, 0, none⟩) (Kd.V_mono HO_20.out (fun k_ hk => (⟨hk, hk.2⟩ : _ ∧ k_ ≠ gb425))) (fun _ hk => hk.2) (.int .u64 t421)) (fun _ hk => hk.2) (.int .i64 t422)) (fun _ hk => hk.2) (.string t423)) (fun _ hk => ⟨hk.1.1.1.1.1, hk.1.1.1.1.2.2⟩)⟩, ⟨by (try simp only [hl0_2]); (try simp only [hl20_41]); (with_reducible repeat (first | refine blk_drewN ?_ _ | refine blk_drew ?_ | refine blk_alloc ?_ _)); refine blk_far ?_ NB362_425.out _; (with_reducible repeat (first | refine blk_drewN ?_ _ | refine blk_drew ?_ | refine blk_alloc ?_ _)); refine blk_far ?_ NB362_425.out _; (with_reducible repeat (first | refine blk_drewN ?_ _ | refine blk_drew ?_ | refine blk_alloc ?_ _)); refine blk_far ?_ NB362_425.out _; (with_reducible repeat (first | refine blk_drewN ?_ _ | refine blk_drew ?_ | refine blk_alloc ?_ _)); exact BK362.out⟩, ⟨by repeat (first | (with_reducible first | exact HB.out | apply below_alloc | apply pw_below_drewN | apply below_drew1 | refine below_set ?_ GE362.out | refine below_set ?_ GE420.out | refine below_set ?_ GE425.out) | exact HB.out)⟩⟩
                          ·
                           rw [if_neg c68] at H
                           exact absurd H (by simp)
                         ·
                          rw [if_neg c65] at H
                          exact absurd H (by simp)
                        ·
                         rw [if_neg c64] at H
                         exact absurd H (by simp)
                       ·
                        rw [if_neg c63] at H
                        exact absurd H (by simp)
                      ·
                       rw [if_neg c62] at H
                       exact absurd H (by simp)
                     ·
                      rw [if_neg c61] at H
                      exact absurd H (by simp)
                    ·
                     rw [if_neg c60] at H
                     exact absurd H (by simp)
                  ·
                   rw [if_neg c57] at H
                   have c57b0 : decide (x21_6 < 4) = false := decide_eq_false c57
                   clear c57
                   obtain ⟨y426, hy426⟩ : ∃ y_ : List Int, y_ = (([4] : List Int)) := ⟨_, rfl⟩
                   replace H : ((cont_Frames.f k6 y426 x5_2 a1_0 x363001_2 a1_2 l6).bind fun bt429 => ((some (([4] : List Int) : List Int)).bind fun y433 => (if t375 = true then (if x5_2 ≥ 0 then (waybilllaw5_ContTells.j6 k6 x0_2 a2 a3 a4 x5_2 l6 x15_2 t375 bt429.1 bt429.2 y433 (decide (x5_2 ≤ 65535)) a1_0 x363001_2 a1_2) else (waybilllaw5_ContTells.j6 k6 x0_2 a2 a3 a4 x5_2 l6 x15_2 t375 bt429.1 bt429.2 y433 false a1_0 x363001_2 a1_2)) else (waybilllaw5_ContTells.j6 k6 x0_2 a2 a3 a4 x5_2 l6 x15_2 t375 bt429.1 bt429.2 y433 false a1_0 x363001_2 a1_2)))) = some r := by first | (rw [hy426]; with_reducible exact H) | (have H2_ := (Option.bind_some _ _).symm.trans H; rw [hy426]; with_reducible exact H2_) | (have H2_ := (Option.bind_some _ _).symm.trans H; with_reducible exact H2_) | with_reducible exact H | (rw [hy426]; exact H) | exact H
                   have Ny426 := Aside0.mk hy426
                   clear hy426
                   replace H := Option.bind_eq_some_iff.mp H
                   obtain ⟨⟨t429, t432⟩, A940, H⟩ := H
                   replace H : ((some (([4] : List Int) : List Int)).bind fun y433 => (if t375 = true then (if x5_2 ≥ 0 then (waybilllaw5_ContTells.j6 k6 x0_2 a2 a3 a4 x5_2 l6 x15_2 t375 t429 t432 y433 (decide (x5_2 ≤ 65535)) a1_0 x363001_2 a1_2) else (waybilllaw5_ContTells.j6 k6 x0_2 a2 a3 a4 x5_2 l6 x15_2 t375 t429 t432 y433 false a1_0 x363001_2 a1_2)) else (waybilllaw5_ContTells.j6 k6 x0_2 a2 a3 a4 x5_2 l6 x15_2 t375 t429 t432 y433 false a1_0 x363001_2 a1_2))) = some r := H
                   have A94 := Aside0.mk A940
                   clear A940
                   obtain ⟨y433, hy433⟩ : ∃ y_ : List Int, y_ = (([4] : List Int)) := ⟨_, rfl⟩
                   replace H : (if t375 = true then (if x5_2 ≥ 0 then (waybilllaw5_ContTells.j6 k6 x0_2 a2 a3 a4 x5_2 l6 x15_2 t375 t429 t432 y433 (decide (x5_2 ≤ 65535)) a1_0 x363001_2 a1_2) else (waybilllaw5_ContTells.j6 k6 x0_2 a2 a3 a4 x5_2 l6 x15_2 t375 t429 t432 y433 false a1_0 x363001_2 a1_2)) else (waybilllaw5_ContTells.j6 k6 x0_2 a2 a3 a4 x5_2 l6 x15_2 t375 t429 t432 y433 false a1_0 x363001_2 a1_2)) = some r := by first | (rw [hy433]; with_reducible exact H) | (have H2_ := (Option.bind_some _ _).symm.trans H; rw [hy433]; with_reducible exact H2_) | (have H2_ := (Option.bind_some _ _).symm.trans H; with_reducible exact H2_) | with_reducible exact H | (rw [hy433]; exact H) | exact H
                   have Ny433 := Aside0.mk hy433
                   clear hy433
                   have HC95 := Aside0.mk H
                   clear H
                   go_upto_region 26 with (first | ((with_reducible refine gate_dst (N := 134) rfl ?_); (try (refine gate_guard (by rfl) ?_; dsimp only)); refine Kd.R_lit (Kd.int .u8) _ 5 ?hg (N := 134) ?hd (xs := ([4] : List Int)) (inner := [.int .u8 4]) (ok := fun _ => True) (okp := fun _ => True) ?hr ?hp (fun _ hk => hk) trivial (Below.refl _ _) (Nat.le_refl _) (by simp) ?_; (case hd => rfl); (case hg => rfl); (case hr => first | (go_simp; done) | (go_simp; rfl)); (case hp => exact (Reps.one (show Kd.M (Kd.int .u8) _ _ _ 4 [.int .u8 4] from rfl) (Reps.none _ _))); intro v427 w96 ho97 hb hg_ hnew_; clear hg_ hnew_; (first | rw [← Ny426.out] at ho97 | (simp only [Int.reduceToNat] at ho97; rw [← Ny426.out] at ho97)); have n0_ := Aside0.mk (Kd.V_elder' (by (with_reducible repeat (first | apply Kd.V_alloc | apply Kd.V_drewN | apply Kd.V_drew)); exact HO_0.out) (Kd.R_base ho97) hb); have n1_ := Aside0.mk (Kd.V_elder' (by (with_reducible repeat (first | apply Kd.V_alloc | apply Kd.V_drewN | apply Kd.V_drew)); exact HO_18.out) (Kd.R_base ho97) hb); have n2_ := Aside0.mk (Kd.V_elder' (by (with_reducible repeat (first | apply Kd.V_alloc | apply Kd.V_drewN | apply Kd.V_drew)); exact HO_20.out) (Kd.R_base ho97) hb); have n3_ := Aside0.mk (Kd.R_lower (Kd.R_newM (M := fun k_ => (w.heap.size ≤ k_)) ho97 (below_size (by repeat (first | (with_reducible first | exact HB.out | apply below_alloc | apply pw_below_drewN | apply below_drew1 | refine below_set ?_ GE362.out) | exact HB.out))) (fun k_ h_ => h_)) (below_size (by repeat (first | (with_reducible first | exact HB.out | apply below_alloc | apply pw_below_drewN | apply below_drew1 | refine below_set ?_ GE362.out) | exact HB.out)))); have n4_ := Aside0.mk (blk_below (g := gb362) (o := .cells #[.int .u64 a1_0, .int .i64 x363001_2, .string a1_2] 25 (0, 0)) (by (with_reducible repeat (first | refine blk_drewN ?_ _ | refine blk_drew ?_ | refine blk_alloc ?_ _)); exact BK362.out) hb); have n5_ := Aside0.mk (below_step (by repeat (first | (with_reducible first | exact HB.out | apply below_alloc | apply pw_below_drewN | apply below_drew1 | refine below_set ?_ GE362.out) | exact HB.out)) hb); clear HO_0; clear HO_18; clear HO_20; clear BK362; clear HB; have HO_0 := n0_; have HO_18 := n1_; have HO_20 := n2_; have HO428 := n3_; have BK362 := n4_; have HB := n5_; clear n0_ n1_ n2_ n3_ n4_ n5_; clear hb ho97; have hcz98_0 : w96.cell? ⟨gb362, 0, none⟩ = some (.int .u64 a1_0) := (blk_cell BK362.out 0).trans rfl; have hcz98_1 : w96.cell? ⟨gb362, 1, none⟩ = some (.int .i64 x363001_2) := (blk_cell BK362.out 1).trans rfl; have hcz98_2 : w96.cell? ⟨gb362, 2, none⟩ = some (.string a1_2) := (blk_cell BK362.out 2).trans rfl; have hfz98_0 := blk_frozen BK362.out 0; have hfz98_1 := blk_frozen BK362.out 1; have hfz98_2 := blk_frozen BK362.out 2; obtain ⟨Ao99, co99, eo99⟩ := Kd.R_slice HO428.out; subst eo99) | ((with_reducible refine gate_callee (f := 33) rfl ?_); refine goesL_ (some 138) rfl rfl Try.func33 (by kernel_rfl) rfl #[.slice Ao99 y426.length co99, .int .i64 x5_2, .agg #[.int .u64 a1_0, .int .i64 x363001_2, .string a1_2], .slice A6 l6.length c6] rfl (by (try simp only [List.map_toArray, List.map_cons, List.map_nil]); first | done | rfl | (simp only [List.length_drop, List.length_take]; rfl)) ?_; (with_reducible refine (cont_Frames.calls k6 _ _ y426 x5_2 a1_0 x363001_2 a1_2 (fun k_ => k_ < w.heap.size) _ _ l6 t429 t432 _ ?side1 ?side2 ?side3 A94.out).mono ?_); (case side1 => repeat (first | exact (Kd.R_reads' HO428.out).2.2 | (with_reducible refine Kd.C_alloc ?_ _) | (with_reducible refine Kd.C_drewN ?_ _) | (with_reducible refine Kd.C_drew ?_))); (case side2 => exact (Kd.R_reads' HO428.out).2.1); (case side3 => exact Kd.V_mk HC6.out (Kd.F_below (Kd.C_F (Kd.heap_int .u8) HR6.out) (by repeat (first | (with_reducible first | exact HB.out | apply below_alloc | apply pw_below_drewN | apply below_drew1 | refine below_set ?_ GE362.out) | exact HB.out)))); rintro e w100 ⟨v430, rfl, ho0, hb⟩; refine ⟨_, rfl, ?_⟩; have n0_ := Aside0.mk (Kd.V_elder' (by (with_reducible repeat (first | apply Kd.V_alloc | apply Kd.V_drewN | apply Kd.V_drew)); exact HO_0.out) (Kd.R_base ho0) hb); have n1_ := Aside0.mk (Kd.V_elder' (by (with_reducible repeat (first | apply Kd.V_alloc | apply Kd.V_drewN | apply Kd.V_drew)); exact HO_18.out) (Kd.R_base ho0) hb); have n2_ := Aside0.mk (Kd.V_elder' (by (with_reducible repeat (first | apply Kd.V_alloc | apply Kd.V_drewN | apply Kd.V_drew)); exact HO_20.out) (Kd.R_base ho0) hb); have n3_ := Aside0.mk (Kd.R_elder' (by (with_reducible repeat (first | apply Kd.R_alloc | apply Kd.R_drewN | apply Kd.R_drew)); exact HO428.out) (Kd.R_base ho0) hb); have n4_ := Aside0.mk (Kd.R_lower (Kd.R_new' (Kd.R_newM (M := fun k_ => (w.heap.size ≤ k_)) (Kd.R_mono (ok' := fun k_ => True) ho0 (fun _ hk_ => trivial)) (below_size (by repeat (first | (with_reducible first | exact HB.out | apply below_alloc | apply pw_below_drewN | apply below_drew1 | refine below_set ?_ GE362.out) | exact HB.out))) (fun k_ h_ => h_)) (Kd.R_lt (by (with_reducible repeat (first | apply Kd.R_alloc | apply Kd.R_drewN | apply Kd.R_drew)); exact HO428.out))) (below_size (by repeat (first | (with_reducible first | exact HB.out | apply below_alloc | apply pw_below_drewN | apply below_drew1 | refine below_set ?_ GE362.out) | exact HB.out)))); have n5_ := Aside0.mk (blk_below (g := gb362) (o := .cells #[.int .u64 a1_0, .int .i64 x363001_2, .string a1_2] 25 (0, 0)) (by (with_reducible repeat (first | refine blk_drewN ?_ _ | refine blk_drew ?_ | refine blk_alloc ?_ _)); exact BK362.out) hb); have n6_ := Aside0.mk (below_step (by repeat (first | (with_reducible first | exact HB.out | apply below_alloc | apply pw_below_drewN | apply below_drew1 | refine below_set ?_ GE362.out) | exact HB.out)) hb); clear HO_0; clear HO_18; clear HO_20; clear HO428; clear BK362; clear HB; have HO_0 := n0_; have HO_18 := n1_; have HO_20 := n2_; have HO428 := n3_; have HO431 := n4_; have BK362 := n5_; have HB := n6_; clear n0_ n1_ n2_ n3_ n4_ n5_ n6_; (try clear hb); (try clear hb2); (try clear hk); (try clear hi); (try clear hge); (try clear ho0)) | ((with_reducible refine gate_dst (N := 141) rfl ?_); (try (refine gate_guard (by rfl) ?_; dsimp only)); refine Kd.R_lit (Kd.int .u8) _ 5 ?hg (N := 141) ?hd (xs := ([4] : List Int)) (inner := [.int .u8 4]) (ok := fun _ => True) (okp := fun _ => True) ?hr ?hp (fun _ hk => hk) trivial (Below.refl _ _) (Nat.le_refl _) (by simp) ?_; (case hd => rfl); (case hg => rfl); (case hr => first | (go_simp; done) | (go_simp; rfl)); (case hp => exact (Reps.one (show Kd.M (Kd.int .u8) _ _ _ 4 [.int .u8 4] from rfl) (Reps.none _ _))); intro v434 w101 ho102 hb hg_ hnew_; clear hg_ hnew_; (first | rw [← Ny433.out] at ho102 | (simp only [Int.reduceToNat] at ho102; rw [← Ny433.out] at ho102)); have n0_ := Aside0.mk (Kd.V_elder' (by (with_reducible repeat (first | apply Kd.V_alloc | apply Kd.V_drewN | apply Kd.V_drew)); exact HO_0.out) (Kd.R_base ho102) hb); have n1_ := Aside0.mk (Kd.V_elder' (by (with_reducible repeat (first | apply Kd.V_alloc | apply Kd.V_drewN | apply Kd.V_drew)); exact HO_18.out) (Kd.R_base ho102) hb); have n2_ := Aside0.mk (Kd.V_elder' (by (with_reducible repeat (first | apply Kd.V_alloc | apply Kd.V_drewN | apply Kd.V_drew)); exact HO_20.out) (Kd.R_base ho102) hb); have n3_ := Aside0.mk (Kd.R_elder' (by (with_reducible repeat (first | apply Kd.R_alloc | apply Kd.R_drewN | apply Kd.R_drew)); exact HO428.out) (Kd.R_base ho102) hb); have n4_ := Aside0.mk (Kd.R_elder' (by (with_reducible repeat (first | apply Kd.R_alloc | apply Kd.R_drewN | apply Kd.R_drew)); exact HO431.out) (Kd.R_base ho102) hb); have n5_ := Aside0.mk (Kd.R_lower (Kd.R_new' (Kd.R_new' (Kd.R_newM (M := fun k_ => (w.heap.size ≤ k_)) ho102 (below_size (by repeat (first | (with_reducible first | exact HB.out | apply below_alloc | apply pw_below_drewN | apply below_drew1 | refine below_set ?_ GE362.out) | exact HB.out))) (fun k_ h_ => h_)) (Kd.R_lt (by (with_reducible repeat (first | apply Kd.R_alloc | apply Kd.R_drewN | apply Kd.R_drew)); exact HO428.out))) (Kd.R_lt (by (with_reducible repeat (first | apply Kd.R_alloc | apply Kd.R_drewN | apply Kd.R_drew)); exact HO431.out))) (below_size (by repeat (first | (with_reducible first | exact HB.out | apply below_alloc | apply pw_below_drewN | apply below_drew1 | refine below_set ?_ GE362.out) | exact HB.out)))); have n6_ := Aside0.mk (blk_below (g := gb362) (o := .cells #[.int .u64 a1_0, .int .i64 x363001_2, .string a1_2] 25 (0, 0)) (by (with_reducible repeat (first | refine blk_drewN ?_ _ | refine blk_drew ?_ | refine blk_alloc ?_ _)); exact BK362.out) hb); have n7_ := Aside0.mk (below_step (by repeat (first | (with_reducible first | exact HB.out | apply below_alloc | apply pw_below_drewN | apply below_drew1 | refine below_set ?_ GE362.out) | exact HB.out)) hb); clear HO_0; clear HO_18; clear HO_20; clear HO428; clear HO431; clear BK362; clear HB; have HO_0 := n0_; have HO_18 := n1_; have HO_20 := n2_; have HO428 := n3_; have HO431 := n4_; have HO435 := n5_; have BK362 := n6_; have HB := n7_; clear n0_ n1_ n2_ n3_ n4_ n5_ n6_ n7_; clear hb ho102))
                   (try simp only [Act.put, List.setIfInBounds_toArray, List.set_cons_zero, List.set_cons_succ])
                   go_cut [150] (fun v150 wc => ∃ (kq : Nat) (x150_94 : Bool), v150 = .bool x150_94 ∧ Aside0 (waybilllaw5_ContTells.j6 kq x0_2 a2 a3 a4 x5_2 l6 x15_2 t375 t429 t432 y433 x150_94 a1_0 x363001_2 a1_2 = some r) ∧ Aside0 (kq ≤ k6) ∧ Aside0 (Kd.V (Kd.int .u8) 5 wc w.heap.size (fun k_ => (P0_ k_ ∨ w.heap.size ≤ k_) ∧ some k_ ≠ (v430 : Value).ownBlock ∧ some k_ ≠ (v434 : Value).ownBlock ∧ k_ ≠ gb362) (.slice A0 x0_2.length c0) x0_2) ∧ Aside0 (Kd.R (Kd.int .u8) 5 wc w.heap.size (fun k_ => (w.heap.size ≤ k_) ∧ some k_ ≠ (v434 : Value).ownBlock) v430 t429) ∧ Aside0 (Kd.R (Kd.int .u8) 5 wc w.heap.size (fun k_ => (w.heap.size ≤ k_) ∧ some k_ ≠ (v430 : Value).ownBlock) v434 y433) ∧ Aside0 (wc.heap[gb362]? = some (.cells #[.int .u64 a1_0, .int .i64 x363001_2, .string a1_2] 25 (0, 0))) ∧ Aside0 (Below w.heap.size w wc))
                   case first => as_aux_lemma =>
                    have H := HC95.out
                    clear HC95
                    by_cases c103 : t375 = true
                    ·
                     subst c103
                     have H1 : (if x5_2 ≥ 0 then (waybilllaw5_ContTells.j6 k6 x0_2 a2 a3 a4 x5_2 l6 x15_2 true t429 t432 y433 (decide (x5_2 ≤ 65535)) a1_0 x363001_2 a1_2) else (waybilllaw5_ContTells.j6 k6 x0_2 a2 a3 a4 x5_2 l6 x15_2 true t429 t432 y433 false a1_0 x363001_2 a1_2)) = some r := by rw [if_pos rfl] at H; exact H
                     clear H
                     have H := H1
                     clear H1
                     by_cases c104 : x5_2 ≥ 0
                     ·
                      rw [if_pos c104] at H
                      have c104b0 : decide (0 ≤ x5_2) = true := decide_eq_true c104
                      clear c104
                      (first | rw [c104b0] | rw [c104b2] | rw [c104b1] | (simp only [i64_w, i32_w]; rw [c104b0]) | skip)
                      have H' := Aside0.mk H
                      clear H
                      go_wp2
                      go_meet
                      case rel => exact ⟨_, (decide (x5_2 ≤ 65535)), (by first | rfl | (simp; done) | (simp [*]; done)), H', ⟨by have := HJ7.out; have := HK2.out; have := HJ19.out; have := HJ34.out; have := HJ41.out; have := HK6.out; first | omega | exact Nat.le_refl _⟩, ⟨by (try simp only [hl0_2]); (try simp only [hl20_41]); (with_reducible repeat (first | apply Kd.V_alloc | apply Kd.V_drewN | apply Kd.V_drew)); exact Kd.V_mono HO_0.out (fun _ hk => ⟨hk.1.1.1.1, ⟨hk.1.2, ⟨hk.2, hk.1.1.1.2⟩⟩⟩)⟩, ⟨by (try simp only [hl0_2]); (try simp only [hl20_41]); (with_reducible repeat (first | apply Kd.R_alloc | apply Kd.R_drewN | apply Kd.R_drew)); exact Kd.R_mono HO431.out (fun _ hk => ⟨hk.1.1.1, hk.2⟩)⟩, ⟨by (try simp only [hl0_2]); (try simp only [hl20_41]); (with_reducible repeat (first | apply Kd.R_alloc | apply Kd.R_drewN | apply Kd.R_drew)); exact Kd.R_mono HO435.out (fun _ hk => ⟨hk.1.1.1, hk.2⟩)⟩, ⟨by (try simp only [hl0_2]); (try simp only [hl20_41]); (with_reducible repeat (first | refine blk_drewN ?_ _ | refine blk_drew ?_ | refine blk_alloc ?_ _)); exact BK362.out⟩, ⟨by repeat (first | (with_reducible first | exact HB.out | apply below_alloc | apply pw_below_drewN | apply below_drew1 | refine below_set ?_ GE362.out) | exact HB.out)⟩⟩
                     ·
                      rw [if_neg c104] at H
                      have c104b0 : decide (0 ≤ x5_2) = false := decide_eq_false c104
                      clear c104
                      (first | rw [c104b0] | rw [c104b2] | rw [c104b1] | (simp only [i64_w, i32_w]; rw [c104b0]) | skip)
                      have H' := Aside0.mk H
                      clear H
                      go_wp2
                      go_meet
                      case rel => exact ⟨_, (false), (by first | rfl | (simp; done) | (simp [*]; done)), H', ⟨by have := HJ7.out; have := HK2.out; have := HJ19.out; have := HJ34.out; have := HJ41.out; have := HK6.out; first | omega | exact Nat.le_refl _⟩, ⟨by (try simp only [hl0_2]); (try simp only [hl20_41]); (with_reducible repeat (first | apply Kd.V_alloc | apply Kd.V_drewN | apply Kd.V_drew)); exact Kd.V_mono HO_0.out (fun _ hk => ⟨hk.1.1.1.1, ⟨hk.1.2, ⟨hk.2, hk.1.1.1.2⟩⟩⟩)⟩, ⟨by (try simp only [hl0_2]); (try simp only [hl20_41]); (with_reducible repeat (first | apply Kd.R_alloc | apply Kd.R_drewN | apply Kd.R_drew)); exact Kd.R_mono HO431.out (fun _ hk => ⟨hk.1.1.1, hk.2⟩)⟩, ⟨by (try simp only [hl0_2]); (try simp only [hl20_41]); (with_reducible repeat (first | apply Kd.R_alloc | apply Kd.R_drewN | apply Kd.R_drew)); exact Kd.R_mono HO435.out (fun _ hk => ⟨hk.1.1.1, hk.2⟩)⟩, ⟨by (try simp only [hl0_2]); (try simp only [hl20_41]); (with_reducible repeat (first | refine blk_drewN ?_ _ | refine blk_drew ?_ | refine blk_alloc ?_ _)); exact BK362.out⟩, ⟨by repeat (first | (with_reducible first | exact HB.out | apply below_alloc | apply pw_below_drewN | apply below_drew1 | refine below_set ?_ GE362.out) | exact HB.out)⟩⟩
                    ·
                     replace c103 := Bool.eq_false_iff.mpr c103
                     subst c103
                     have H1 : (waybilllaw5_ContTells.j6 k6 x0_2 a2 a3 a4 x5_2 l6 x15_2 false t429 t432 y433 false a1_0 x363001_2 a1_2) = some r := by rw [if_neg (show ¬ (false = true) by decide)] at H; exact H
                     clear H
                     have H := H1
                     clear H1
                     have H' := Aside0.mk H
                     clear H
                     go_wp2
                     go_meet
                     case rel => exact ⟨_, (false), (by first | rfl | (simp; done) | (simp [*]; done)), H', ⟨by have := HJ7.out; have := HK2.out; have := HJ19.out; have := HJ34.out; have := HJ41.out; have := HK6.out; first | omega | exact Nat.le_refl _⟩, ⟨by (try simp only [hl0_2]); (try simp only [hl20_41]); (with_reducible repeat (first | apply Kd.V_alloc | apply Kd.V_drewN | apply Kd.V_drew)); exact Kd.V_mono HO_0.out (fun _ hk => ⟨hk.1.1.1.1, ⟨hk.1.2, ⟨hk.2, hk.1.1.1.2⟩⟩⟩)⟩, ⟨by (try simp only [hl0_2]); (try simp only [hl20_41]); (with_reducible repeat (first | apply Kd.R_alloc | apply Kd.R_drewN | apply Kd.R_drew)); exact Kd.R_mono HO431.out (fun _ hk => ⟨hk.1.1.1, hk.2⟩)⟩, ⟨by (try simp only [hl0_2]); (try simp only [hl20_41]); (with_reducible repeat (first | apply Kd.R_alloc | apply Kd.R_drewN | apply Kd.R_drew)); exact Kd.R_mono HO435.out (fun _ hk => ⟨hk.1.1.1, hk.2⟩)⟩, ⟨by (try simp only [hl0_2]); (try simp only [hl20_41]); (with_reducible repeat (first | refine blk_drewN ?_ _ | refine blk_drew ?_ | refine blk_alloc ?_ _)); exact BK362.out⟩, ⟨by repeat (first | (with_reducible first | exact HB.out | apply below_alloc | apply pw_below_drewN | apply below_drew1 | refine below_set ?_ GE362.out) | exact HB.out)⟩⟩
                   case rest => as_aux_lemma =>
                    clear HC95
                    try clear c1
                    try clear p2
                    try clear c3
                    try clear c5
                    try clear c6
                    try clear p6
                    try clear c7
                    try clear c8
                    try clear q8
                    try clear c9
                    try clear c10
                    try clear c17
                    try clear c32
                    try clear c33
                    try clear c57
                    try clear c57b0
                    try clear c60
                    try clear c61
                    try clear c62
                    try clear c63
                    try clear c64
                    try clear p64
                    try clear c65
                    try clear c68
                    try clear c71
                    try clear c72
                    try clear q82
                    try clear c86
                    try clear c90
                    try clear c91
                    try clear c103
                    try clear c104
                    try clear c104b0
                    try clear hcz87_0
                    try clear hcz87_1
                    try clear hcz87_2
                    try clear hcz92_0
                    try clear hcz92_1
                    try clear hcz92_2
                    try clear hcz93_0
                    try clear hcz93_1
                    try clear hcz93_2
                    try clear hcz98_0
                    try clear hcz98_1
                    try clear hcz98_2
                    try clear hfz87_0
                    try clear hfz87_1
                    try clear hfz87_2
                    try clear hfz92_0
                    try clear hfz92_1
                    try clear hfz92_2
                    try clear hfz93_0
                    try clear hfz93_1
                    try clear hfz93_2
                    try clear hfz98_0
                    try clear hfz98_1
                    try clear hfz98_2
                    obtain ⟨kq, x150_94, rfl, HA, HJ94, HO_0, HO_27, HO_29, BK362, HB⟩ := hcut
                    cases kq with
                    | zero => exact absurd HA.out (by simp [waybilllaw5_ContTells.j6])
                    | succ kj94 =>
                     have H := HA.out
                     clear HA
                     simp only [waybilllaw5_ContTells.j6] at H
                     by_cases c105 : x150_94 = true
                     ·
                      subst c105
                      have H1 : ((waybillref1_Content.f kj94 y433 x5_2 a1_0 x363001_2 a1_2 l6).bind fun t436 => (if t375 = true then (if x5_2 ≥ 0 then (if (t432 != (decide (x5_2 ≤ 65535))) = true then (none) else (if (strOfNums t429).toList = (strOfNums t436).toList then (waybilllaw5_ContTells.l0 kj94 x0_2 a2 a3 a4 (Go.bits .and .i64 x5_2 65535) l6 (wrap64 (x15_2 + 1)) a1_0 (Go.bits .and .i64 x363001_2 3) a1_2) else (none))) else (if (t432 != false) = true then (none) else (if (strOfNums t429).toList = (strOfNums t436).toList then (waybilllaw5_ContTells.l0 kj94 x0_2 a2 a3 a4 (Go.bits .and .i64 x5_2 65535) l6 (wrap64 (x15_2 + 1)) a1_0 (Go.bits .and .i64 x363001_2 3) a1_2) else (none)))) else (if (t432 != false) = true then (none) else (if (strOfNums t429).toList = (strOfNums t436).toList then (waybilllaw5_ContTells.l0 kj94 x0_2 a2 a3 a4 (Go.bits .and .i64 x5_2 65535) l6 (wrap64 (x15_2 + 1)) a1_0 (Go.bits .and .i64 x363001_2 3) a1_2) else (none))))) = some r := by rw [if_pos rfl] at H; exact H
                      clear H
                      have H := H1
                      clear H1
                      replace H := Option.bind_eq_some_iff.mp H
                      obtain ⟨t436, A1060, H⟩ := H
                      replace H : (if t375 = true then (if x5_2 ≥ 0 then (if (t432 != (decide (x5_2 ≤ 65535))) = true then (none) else (if (strOfNums t429).toList = (strOfNums t436).toList then (waybilllaw5_ContTells.l0 kj94 x0_2 a2 a3 a4 (Go.bits .and .i64 x5_2 65535) l6 (wrap64 (x15_2 + 1)) a1_0 (Go.bits .and .i64 x363001_2 3) a1_2) else (none))) else (if (t432 != false) = true then (none) else (if (strOfNums t429).toList = (strOfNums t436).toList then (waybilllaw5_ContTells.l0 kj94 x0_2 a2 a3 a4 (Go.bits .and .i64 x5_2 65535) l6 (wrap64 (x15_2 + 1)) a1_0 (Go.bits .and .i64 x363001_2 3) a1_2) else (none)))) else (if (t432 != false) = true then (none) else (if (strOfNums t429).toList = (strOfNums t436).toList then (waybilllaw5_ContTells.l0 kj94 x0_2 a2 a3 a4 (Go.bits .and .i64 x5_2 65535) l6 (wrap64 (x15_2 + 1)) a1_0 (Go.bits .and .i64 x363001_2 3) a1_2) else (none)))) = some r := H
                      have A106 := Aside0.mk A1060
                      clear A1060
                      by_cases c107 : t375 = true
                      ·
                       subst c107
                       have H1 : (if x5_2 ≥ 0 then (if (t432 != (decide (x5_2 ≤ 65535))) = true then (none) else (if (strOfNums t429).toList = (strOfNums t436).toList then (waybilllaw5_ContTells.l0 kj94 x0_2 a2 a3 a4 (Go.bits .and .i64 x5_2 65535) l6 (wrap64 (x15_2 + 1)) a1_0 (Go.bits .and .i64 x363001_2 3) a1_2) else (none))) else (if (t432 != false) = true then (none) else (if (strOfNums t429).toList = (strOfNums t436).toList then (waybilllaw5_ContTells.l0 kj94 x0_2 a2 a3 a4 (Go.bits .and .i64 x5_2 65535) l6 (wrap64 (x15_2 + 1)) a1_0 (Go.bits .and .i64 x363001_2 3) a1_2) else (none)))) = some r := by rw [if_pos rfl] at H; exact H
                       clear H
                       have H := H1
                       clear H1
                       by_cases c108 : x5_2 ≥ 0
                       ·
                        rw [if_pos c108] at H
                        have c108b0 : decide (0 ≤ x5_2) = true := decide_eq_true c108
                        clear c108
                        by_cases c109 : (t432 != (decide (x5_2 ≤ 65535))) = true
                        ·
                         rw [if_pos c109] at H
                         exact absurd H (by simp)
                        ·
                         rw [if_neg c109] at H
                         have c109b0 : (t432 != (decide (x5_2 ≤ 65535))) = false := by simpa using c109
                         (try (have c109b1 : decide (t432 = (decide (x5_2 ≤ 65535))) = true := by simpa using c109))
                         (try (have c109b2 : (t432 == (decide (x5_2 ≤ 65535))) = true := by simpa using c109))
                         clear c109
                         by_cases c110 : (strOfNums t429).toList = (strOfNums t436).toList
                         ·
                          rw [if_pos c110] at H
                          have c110b0 : ((strOfNums t429).toList == (strOfNums t436).toList) = true := beq_iff_eq.mpr c110
                          have c110b1 : ((strOfNums t429).toList != (strOfNums t436).toList) = false := bne_eq_false_iff_eq.mpr c110
                          clear c110
                          have H' := Aside0.mk H
                          clear H
                          have hcz111_0 : wc.cell? ⟨gb362, 0, none⟩ = some (.int .u64 a1_0) := (blk_cell BK362.out 0).trans rfl
                          have hcz111_1 : wc.cell? ⟨gb362, 1, none⟩ = some (.int .i64 x363001_2) := (blk_cell BK362.out 1).trans rfl
                          have hcz111_2 : wc.cell? ⟨gb362, 2, none⟩ = some (.string a1_2) := (blk_cell BK362.out 2).trans rfl
                          have hfz111_0 := blk_frozen BK362.out 0
                          have hfz111_1 := blk_frozen BK362.out 1
                          have hfz111_2 := blk_frozen BK362.out 2
                          obtain ⟨Ao112, co112, eo112⟩ := Kd.R_slice HO_29.out
                          subst eo112
                          go_wp2_with (first | ((with_reducible refine gate_callee (f := 34) rfl ?_); refine goesL_ (some 155) rfl rfl Try.func34 (by kernel_rfl) rfl #[.slice Ao112 y433.length co112, .int .i64 x5_2, .agg #[.int .u64 a1_0, .int .i64 x363001_2, .string a1_2], .slice A6 l6.length c6] rfl (by (try simp only [List.map_toArray, List.map_cons, List.map_nil]); first | done | rfl | (simp only [List.length_drop, List.length_take]; rfl)) ?_; (with_reducible refine (waybillref1_Content.calls kj94 _ _ y433 x5_2 a1_0 x363001_2 a1_2 (fun k_ => k_ < w.heap.size) _ _ l6 t436 _ ?side1 ?side2 ?side3 A106.out).mono ?_); (case side1 => repeat (first | exact (Kd.R_reads' HO_29.out).2.2 | (with_reducible refine Kd.C_alloc ?_ _) | (with_reducible refine Kd.C_drewN ?_ _) | (with_reducible refine Kd.C_drew ?_))); (case side2 => exact (Kd.R_reads' HO_29.out).2.1); (case side3 => exact Kd.V_mk HC6.out (Kd.F_below (Kd.C_F (Kd.heap_int .u8) HR6.out) (by repeat (first | (with_reducible first | exact HB.out | apply below_alloc | apply pw_below_drewN | apply below_drew1 | refine below_set ?_ GE362.out) | exact HB.out)))); rintro e w113 ⟨v437, rfl, ho0, hb⟩; refine ⟨_, rfl, ?_⟩; have n0_ := Aside0.mk (Kd.V_elder' (by (with_reducible repeat (first | apply Kd.V_alloc | apply Kd.V_drewN | apply Kd.V_drew)); exact HO_0.out) (Kd.R_base ho0) hb); have n1_ := Aside0.mk (Kd.R_elder' (by (with_reducible repeat (first | apply Kd.R_alloc | apply Kd.R_drewN | apply Kd.R_drew)); exact HO_27.out) (Kd.R_base ho0) hb); have n2_ := Aside0.mk (Kd.R_elder' (by (with_reducible repeat (first | apply Kd.R_alloc | apply Kd.R_drewN | apply Kd.R_drew)); exact HO_29.out) (Kd.R_base ho0) hb); have n3_ := Aside0.mk (Kd.R_lower (Kd.R_new' (Kd.R_new' (Kd.R_newM (M := fun k_ => (w.heap.size ≤ k_)) (Kd.R_mono (ok' := fun k_ => True) ho0 (fun _ hk_ => trivial)) (below_size (by repeat (first | (with_reducible first | exact HB.out | apply below_alloc | apply pw_below_drewN | apply below_drew1 | refine below_set ?_ GE362.out) | exact HB.out))) (fun k_ h_ => h_)) (Kd.R_lt (by (with_reducible repeat (first | apply Kd.R_alloc | apply Kd.R_drewN | apply Kd.R_drew)); exact HO_27.out))) (Kd.R_lt (by (with_reducible repeat (first | apply Kd.R_alloc | apply Kd.R_drewN | apply Kd.R_drew)); exact HO_29.out))) (below_size (by repeat (first | (with_reducible first | exact HB.out | apply below_alloc | apply pw_below_drewN | apply below_drew1 | refine below_set ?_ GE362.out) | exact HB.out)))); have n4_ := Aside0.mk (blk_below (g := gb362) (o := .cells #[.int .u64 a1_0, .int .i64 x363001_2, .string a1_2] 25 (0, 0)) (by (with_reducible repeat (first | refine blk_drewN ?_ _ | refine blk_drew ?_ | refine blk_alloc ?_ _)); exact BK362.out) hb); have n5_ := Aside0.mk (below_step (by repeat (first | (with_reducible first | exact HB.out | apply below_alloc | apply pw_below_drewN | apply below_drew1 | refine below_set ?_ GE362.out) | exact HB.out)) hb); clear HO_0; clear HO_27; clear HO_29; clear BK362; clear HB; have HO_0 := n0_; have HO_27 := n1_; have HO_29 := n2_; have HO438 := n3_; have BK362 := n4_; have HB := n5_; clear n0_ n1_ n2_ n3_ n4_ n5_; (try clear hb); (try clear hb2); (try clear hk); (try clear hi); (try clear hge); (try clear ho0); have hcv114 := own_string (P := Try.prog) Try.underlying26 Try.underlying5 Try.underlying9 (Kd.own_of_R HO_27.out); have hcv115 := own_string (P := Try.prog) Try.underlying26 Try.underlying5 Try.underlying9 (Kd.own_of_R HO438.out); have hcz116_0 : w113.cell? ⟨gb362, 0, none⟩ = some (.int .u64 a1_0) := (blk_cell BK362.out 0).trans rfl; have hcz116_1 : w113.cell? ⟨gb362, 1, none⟩ = some (.int .i64 x363001_2) := (blk_cell BK362.out 1).trans rfl; have hcz116_2 : w113.cell? ⟨gb362, 2, none⟩ = some (.string a1_2) := (blk_cell BK362.out 2).trans rfl; have hfz116_0 := blk_frozen BK362.out 0; have hfz116_1 := blk_frozen BK362.out 1; have hfz116_2 := blk_frozen BK362.out 2))
                          (try simp only [← hl0_2, ← hl20_41])
                          go_roundg kj94
                          case measure => have := HJ7.out; have := HK2.out; have := HJ19.out; have := HJ34.out; have := HJ41.out; have := HK6.out; have := HJ94.out; omega
                          case rel => exact ⟨(x0_2), (Go.bits .and .i64 x5_2 65535), (wrap64 (x15_2 + 1)), (Go.bits .and .i64 x363001_2 3), (by first | rfl | (simp; done) | (simp [*]; done)), (by first | rfl | (simp; done) | (simp [*]; done)), H', ⟨by have := HJ7.out; have := HK2.out; have := HJ19.out; have := HJ34.out; have := HJ41.out; have := HK6.out; have := HJ94.out; omega⟩, ⟨by (try simp only [hl0_2]); (try simp only [hl20_41]); (with_reducible repeat (first | apply Kd.V_alloc | apply Kd.V_drewN | apply Kd.V_drew)); exact Kd.V_mono (Kd.V_far (p := ⟨gb362, 1, none⟩) (Kd.V_mono HO_0.out (fun k_ hk => (⟨hk, hk.1.2.2.2⟩ : _ ∧ k_ ≠ gb362))) (fun _ hk => hk.2) (.int .i64 (Go.bits .and .i64 x363001_2 3))) (fun _ hk => ⟨hk.1.1.1, hk.1.1.2.2.2⟩)⟩, ⟨by (try simp only [hl0_2]); (try simp only [hl20_41]); (with_reducible repeat (first | refine blk_drewN ?_ _ | refine blk_drew ?_ | refine blk_alloc ?_ _)); refine blk_put (cs := #[.int .u64 a1_0, .int .i64 x363001_2, .string a1_2]) ?_ 1 _ rfl; (with_reducible repeat (first | refine blk_drewN ?_ _ | refine blk_drew ?_ | refine blk_alloc ?_ _)); exact BK362.out⟩, ⟨by repeat (first | (with_reducible first | exact HB.out | apply below_alloc | apply pw_below_drewN | apply below_drew1 | refine below_set ?_ GE362.out) | exact HB.out)⟩⟩
                         ·
                          rw [if_neg c110] at H
                          exact absurd H (by simp)
                       ·
                        rw [if_neg c108] at H
                        have c108b0 : decide (0 ≤ x5_2) = false := decide_eq_false c108
                        clear c108
                        by_cases c117 : (t432 != false) = true
                        ·
                         rw [if_pos c117] at H
                         exact absurd H (by simp)
                        ·
                         rw [if_neg c117] at H
                         have c117b0 : (t432 != false) = false := by simpa using c117
                         (try (have c117b1 : decide (t432 = false) = true := by simpa using c117))
                         (try (have c117b2 : (t432 == false) = true := by simpa using c117))
                         clear c117
                         by_cases c118 : (strOfNums t429).toList = (strOfNums t436).toList
                         ·
                          rw [if_pos c118] at H
                          have c118b0 : ((strOfNums t429).toList == (strOfNums t436).toList) = true := beq_iff_eq.mpr c118
                          have c118b1 : ((strOfNums t429).toList != (strOfNums t436).toList) = false := bne_eq_false_iff_eq.mpr c118
                          clear c118
                          have H' := Aside0.mk H
                          clear H
                          have hcz119_0 : wc.cell? ⟨gb362, 0, none⟩ = some (.int .u64 a1_0) := (blk_cell BK362.out 0).trans rfl
                          have hcz119_1 : wc.cell? ⟨gb362, 1, none⟩ = some (.int .i64 x363001_2) := (blk_cell BK362.out 1).trans rfl
                          have hcz119_2 : wc.cell? ⟨gb362, 2, none⟩ = some (.string a1_2) := (blk_cell BK362.out 2).trans rfl
                          have hfz119_0 := blk_frozen BK362.out 0
                          have hfz119_1 := blk_frozen BK362.out 1
                          have hfz119_2 := blk_frozen BK362.out 2
                          obtain ⟨Ao120, co120, eo120⟩ := Kd.R_slice HO_29.out
                          subst eo120
                          go_wp2_with (first | ((with_reducible refine gate_callee (f := 34) rfl ?_); refine goesL_ (some 155) rfl rfl Try.func34 (by kernel_rfl) rfl #[.slice Ao120 y433.length co120, .int .i64 x5_2, .agg #[.int .u64 a1_0, .int .i64 x363001_2, .string a1_2], .slice A6 l6.length c6] rfl (by (try simp only [List.map_toArray, List.map_cons, List.map_nil]); first | done | rfl | (simp only [List.length_drop, List.length_take]; rfl)) ?_; (with_reducible refine (waybillref1_Content.calls kj94 _ _ y433 x5_2 a1_0 x363001_2 a1_2 (fun k_ => k_ < w.heap.size) _ _ l6 t436 _ ?side1 ?side2 ?side3 A106.out).mono ?_); (case side1 => repeat (first | exact (Kd.R_reads' HO_29.out).2.2 | (with_reducible refine Kd.C_alloc ?_ _) | (with_reducible refine Kd.C_drewN ?_ _) | (with_reducible refine Kd.C_drew ?_))); (case side2 => exact (Kd.R_reads' HO_29.out).2.1); (case side3 => exact Kd.V_mk HC6.out (Kd.F_below (Kd.C_F (Kd.heap_int .u8) HR6.out) (by repeat (first | (with_reducible first | exact HB.out | apply below_alloc | apply pw_below_drewN | apply below_drew1 | refine below_set ?_ GE362.out) | exact HB.out)))); rintro e w121 ⟨v437, rfl, ho0, hb⟩; refine ⟨_, rfl, ?_⟩; have n0_ := Aside0.mk (Kd.V_elder' (by (with_reducible repeat (first | apply Kd.V_alloc | apply Kd.V_drewN | apply Kd.V_drew)); exact HO_0.out) (Kd.R_base ho0) hb); have n1_ := Aside0.mk (Kd.R_elder' (by (with_reducible repeat (first | apply Kd.R_alloc | apply Kd.R_drewN | apply Kd.R_drew)); exact HO_27.out) (Kd.R_base ho0) hb); have n2_ := Aside0.mk (Kd.R_elder' (by (with_reducible repeat (first | apply Kd.R_alloc | apply Kd.R_drewN | apply Kd.R_drew)); exact HO_29.out) (Kd.R_base ho0) hb); have n3_ := Aside0.mk (Kd.R_lower (Kd.R_new' (Kd.R_new' (Kd.R_newM (M := fun k_ => (w.heap.size ≤ k_)) (Kd.R_mono (ok' := fun k_ => True) ho0 (fun _ hk_ => trivial)) (below_size (by repeat (first | (with_reducible first | exact HB.out | apply below_alloc | apply pw_below_drewN | apply below_drew1 | refine below_set ?_ GE362.out) | exact HB.out))) (fun k_ h_ => h_)) (Kd.R_lt (by (with_reducible repeat (first | apply Kd.R_alloc | apply Kd.R_drewN | apply Kd.R_drew)); exact HO_27.out))) (Kd.R_lt (by (with_reducible repeat (first | apply Kd.R_alloc | apply Kd.R_drewN | apply Kd.R_drew)); exact HO_29.out))) (below_size (by repeat (first | (with_reducible first | exact HB.out | apply below_alloc | apply pw_below_drewN | apply below_drew1 | refine below_set ?_ GE362.out) | exact HB.out)))); have n4_ := Aside0.mk (blk_below (g := gb362) (o := .cells #[.int .u64 a1_0, .int .i64 x363001_2, .string a1_2] 25 (0, 0)) (by (with_reducible repeat (first | refine blk_drewN ?_ _ | refine blk_drew ?_ | refine blk_alloc ?_ _)); exact BK362.out) hb); have n5_ := Aside0.mk (below_step (by repeat (first | (with_reducible first | exact HB.out | apply below_alloc | apply pw_below_drewN | apply below_drew1 | refine below_set ?_ GE362.out) | exact HB.out)) hb); clear HO_0; clear HO_27; clear HO_29; clear BK362; clear HB; have HO_0 := n0_; have HO_27 := n1_; have HO_29 := n2_; have HO438 := n3_; have BK362 := n4_; have HB := n5_; clear n0_ n1_ n2_ n3_ n4_ n5_; (try clear hb); (try clear hb2); (try clear hk); (try clear hi); (try clear hge); (try clear ho0); have hcv122 := own_string (P := Try.prog) Try.underlying26 Try.underlying5 Try.underlying9 (Kd.own_of_R HO_27.out); have hcv123 := own_string (P := Try.prog) Try.underlying26 Try.underlying5 Try.underlying9 (Kd.own_of_R HO438.out); have hcz124_0 : w121.cell? ⟨gb362, 0, none⟩ = some (.int .u64 a1_0) := (blk_cell BK362.out 0).trans rfl; have hcz124_1 : w121.cell? ⟨gb362, 1, none⟩ = some (.int .i64 x363001_2) := (blk_cell BK362.out 1).trans rfl; have hcz124_2 : w121.cell? ⟨gb362, 2, none⟩ = some (.string a1_2) := (blk_cell BK362.out 2).trans rfl; have hfz124_0 := blk_frozen BK362.out 0; have hfz124_1 := blk_frozen BK362.out 1; have hfz124_2 := blk_frozen BK362.out 2))
                          (try simp only [← hl0_2, ← hl20_41])
                          go_roundg kj94
                          case measure => have := HJ7.out; have := HK2.out; have := HJ19.out; have := HJ34.out; have := HJ41.out; have := HK6.out; have := HJ94.out; omega
                          case rel => exact ⟨(x0_2), (Go.bits .and .i64 x5_2 65535), (wrap64 (x15_2 + 1)), (Go.bits .and .i64 x363001_2 3), (by first | rfl | (simp; done) | (simp [*]; done)), (by first | rfl | (simp; done) | (simp [*]; done)), H', ⟨by have := HJ7.out; have := HK2.out; have := HJ19.out; have := HJ34.out; have := HJ41.out; have := HK6.out; have := HJ94.out; omega⟩, ⟨by (try simp only [hl0_2]); (try simp only [hl20_41]); (with_reducible repeat (first | apply Kd.V_alloc | apply Kd.V_drewN | apply Kd.V_drew)); exact Kd.V_mono (Kd.V_far (p := ⟨gb362, 1, none⟩) (Kd.V_mono HO_0.out (fun k_ hk => (⟨hk, hk.1.2.2.2⟩ : _ ∧ k_ ≠ gb362))) (fun _ hk => hk.2) (.int .i64 (Go.bits .and .i64 x363001_2 3))) (fun _ hk => ⟨hk.1.1.1, hk.1.1.2.2.2⟩)⟩, ⟨by (try simp only [hl0_2]); (try simp only [hl20_41]); (with_reducible repeat (first | refine blk_drewN ?_ _ | refine blk_drew ?_ | refine blk_alloc ?_ _)); refine blk_put (cs := #[.int .u64 a1_0, .int .i64 x363001_2, .string a1_2]) ?_ 1 _ rfl; (with_reducible repeat (first | refine blk_drewN ?_ _ | refine blk_drew ?_ | refine blk_alloc ?_ _)); exact BK362.out⟩, ⟨by repeat (first | (with_reducible first | exact HB.out | apply below_alloc | apply pw_below_drewN | apply below_drew1 | refine below_set ?_ GE362.out) | exact HB.out)⟩⟩
                         ·
                          rw [if_neg c118] at H
                          exact absurd H (by simp)
                      ·
                       replace c107 := Bool.eq_false_iff.mpr c107
                       subst c107
                       have H1 : (if (t432 != false) = true then (none) else (if (strOfNums t429).toList = (strOfNums t436).toList then (waybilllaw5_ContTells.l0 kj94 x0_2 a2 a3 a4 (Go.bits .and .i64 x5_2 65535) l6 (wrap64 (x15_2 + 1)) a1_0 (Go.bits .and .i64 x363001_2 3) a1_2) else (none))) = some r := by rw [if_neg (show ¬ (false = true) by decide)] at H; exact H
                       clear H
                       have H := H1
                       clear H1
                       by_cases c125 : (t432 != false) = true
                       ·
                        rw [if_pos c125] at H
                        exact absurd H (by simp)
                       ·
                        rw [if_neg c125] at H
                        have c125b0 : (t432 != false) = false := by simpa using c125
                        (try (have c125b1 : decide (t432 = false) = true := by simpa using c125))
                        (try (have c125b2 : (t432 == false) = true := by simpa using c125))
                        clear c125
                        by_cases c126 : (strOfNums t429).toList = (strOfNums t436).toList
                        ·
                         rw [if_pos c126] at H
                         have c126b0 : ((strOfNums t429).toList == (strOfNums t436).toList) = true := beq_iff_eq.mpr c126
                         have c126b1 : ((strOfNums t429).toList != (strOfNums t436).toList) = false := bne_eq_false_iff_eq.mpr c126
                         clear c126
                         have H' := Aside0.mk H
                         clear H
                         have hcz127_0 : wc.cell? ⟨gb362, 0, none⟩ = some (.int .u64 a1_0) := (blk_cell BK362.out 0).trans rfl
                         have hcz127_1 : wc.cell? ⟨gb362, 1, none⟩ = some (.int .i64 x363001_2) := (blk_cell BK362.out 1).trans rfl
                         have hcz127_2 : wc.cell? ⟨gb362, 2, none⟩ = some (.string a1_2) := (blk_cell BK362.out 2).trans rfl
                         have hfz127_0 := blk_frozen BK362.out 0
                         have hfz127_1 := blk_frozen BK362.out 1
                         have hfz127_2 := blk_frozen BK362.out 2
                         obtain ⟨Ao128, co128, eo128⟩ := Kd.R_slice HO_29.out
                         subst eo128
                         go_wp2_with (first | ((with_reducible refine gate_callee (f := 34) rfl ?_); refine goesL_ (some 155) rfl rfl Try.func34 (by kernel_rfl) rfl #[.slice Ao128 y433.length co128, .int .i64 x5_2, .agg #[.int .u64 a1_0, .int .i64 x363001_2, .string a1_2], .slice A6 l6.length c6] rfl (by (try simp only [List.map_toArray, List.map_cons, List.map_nil]); first | done | rfl | (simp only [List.length_drop, List.length_take]; rfl)) ?_; (with_reducible refine (waybillref1_Content.calls kj94 _ _ y433 x5_2 a1_0 x363001_2 a1_2 (fun k_ => k_ < w.heap.size) _ _ l6 t436 _ ?side1 ?side2 ?side3 A106.out).mono ?_); (case side1 => repeat (first | exact (Kd.R_reads' HO_29.out).2.2 | (with_reducible refine Kd.C_alloc ?_ _) | (with_reducible refine Kd.C_drewN ?_ _) | (with_reducible refine Kd.C_drew ?_))); (case side2 => exact (Kd.R_reads' HO_29.out).2.1); (case side3 => exact Kd.V_mk HC6.out (Kd.F_below (Kd.C_F (Kd.heap_int .u8) HR6.out) (by repeat (first | (with_reducible first | exact HB.out | apply below_alloc | apply pw_below_drewN | apply below_drew1 | refine below_set ?_ GE362.out) | exact HB.out)))); rintro e w129 ⟨v437, rfl, ho0, hb⟩; refine ⟨_, rfl, ?_⟩; have n0_ := Aside0.mk (Kd.V_elder' (by (with_reducible repeat (first | apply Kd.V_alloc | apply Kd.V_drewN | apply Kd.V_drew)); exact HO_0.out) (Kd.R_base ho0) hb); have n1_ := Aside0.mk (Kd.R_elder' (by (with_reducible repeat (first | apply Kd.R_alloc | apply Kd.R_drewN | apply Kd.R_drew)); exact HO_27.out) (Kd.R_base ho0) hb); have n2_ := Aside0.mk (Kd.R_elder' (by (with_reducible repeat (first | apply Kd.R_alloc | apply Kd.R_drewN | apply Kd.R_drew)); exact HO_29.out) (Kd.R_base ho0) hb); have n3_ := Aside0.mk (Kd.R_lower (Kd.R_new' (Kd.R_new' (Kd.R_newM (M := fun k_ => (w.heap.size ≤ k_)) (Kd.R_mono (ok' := fun k_ => True) ho0 (fun _ hk_ => trivial)) (below_size (by repeat (first | (with_reducible first | exact HB.out | apply below_alloc | apply pw_below_drewN | apply below_drew1 | refine below_set ?_ GE362.out) | exact HB.out))) (fun k_ h_ => h_)) (Kd.R_lt (by (with_reducible repeat (first | apply Kd.R_alloc | apply Kd.R_drewN | apply Kd.R_drew)); exact HO_27.out))) (Kd.R_lt (by (with_reducible repeat (first | apply Kd.R_alloc | apply Kd.R_drewN | apply Kd.R_drew)); exact HO_29.out))) (below_size (by repeat (first | (with_reducible first | exact HB.out | apply below_alloc | apply pw_below_drewN | apply below_drew1 | refine below_set ?_ GE362.out) | exact HB.out)))); have n4_ := Aside0.mk (blk_below (g := gb362) (o := .cells #[.int .u64 a1_0, .int .i64 x363001_2, .string a1_2] 25 (0, 0)) (by (with_reducible repeat (first | refine blk_drewN ?_ _ | refine blk_drew ?_ | refine blk_alloc ?_ _)); exact BK362.out) hb); have n5_ := Aside0.mk (below_step (by repeat (first | (with_reducible first | exact HB.out | apply below_alloc | apply pw_below_drewN | apply below_drew1 | refine below_set ?_ GE362.out) | exact HB.out)) hb); clear HO_0; clear HO_27; clear HO_29; clear BK362; clear HB; have HO_0 := n0_; have HO_27 := n1_; have HO_29 := n2_; have HO438 := n3_; have BK362 := n4_; have HB := n5_; clear n0_ n1_ n2_ n3_ n4_ n5_; (try clear hb); (try clear hb2); (try clear hk); (try clear hi); (try clear hge); (try clear ho0); have hcv130 := own_string (P := Try.prog) Try.underlying26 Try.underlying5 Try.underlying9 (Kd.own_of_R HO_27.out); have hcv131 := own_string (P := Try.prog) Try.underlying26 Try.underlying5 Try.underlying9 (Kd.own_of_R HO438.out); have hcz132_0 : w129.cell? ⟨gb362, 0, none⟩ = some (.int .u64 a1_0) := (blk_cell BK362.out 0).trans rfl; have hcz132_1 : w129.cell? ⟨gb362, 1, none⟩ = some (.int .i64 x363001_2) := (blk_cell BK362.out 1).trans rfl; have hcz132_2 : w129.cell? ⟨gb362, 2, none⟩ = some (.string a1_2) := (blk_cell BK362.out 2).trans rfl; have hfz132_0 := blk_frozen BK362.out 0; have hfz132_1 := blk_frozen BK362.out 1; have hfz132_2 := blk_frozen BK362.out 2))
                         (try simp only [← hl0_2, ← hl20_41])
                         go_roundg kj94
                         case measure => have := HJ7.out; have := HK2.out; have := HJ19.out; have := HJ34.out; have := HJ41.out; have := HK6.out; have := HJ94.out; omega
                         case rel => exact ⟨(x0_2), (Go.bits .and .i64 x5_2 65535), (wrap64 (x15_2 + 1)), (Go.bits .and .i64 x363001_2 3), (by first | rfl | (simp; done) | (simp [*]; done)), (by first | rfl | (simp; done) | (simp [*]; done)), H', ⟨by have := HJ7.out; have := HK2.out; have := HJ19.out; have := HJ34.out; have := HJ41.out; have := HK6.out; have := HJ94.out; omega⟩, ⟨by (try simp only [hl0_2]); (try simp only [hl20_41]); (with_reducible repeat (first | apply Kd.V_alloc | apply Kd.V_drewN | apply Kd.V_drew)); exact Kd.V_mono (Kd.V_far (p := ⟨gb362, 1, none⟩) (Kd.V_mono HO_0.out (fun k_ hk => (⟨hk, hk.1.2.2.2⟩ : _ ∧ k_ ≠ gb362))) (fun _ hk => hk.2) (.int .i64 (Go.bits .and .i64 x363001_2 3))) (fun _ hk => ⟨hk.1.1.1, hk.1.1.2.2.2⟩)⟩, ⟨by (try simp only [hl0_2]); (try simp only [hl20_41]); (with_reducible repeat (first | refine blk_drewN ?_ _ | refine blk_drew ?_ | refine blk_alloc ?_ _)); refine blk_put (cs := #[.int .u64 a1_0, .int .i64 x363001_2, .string a1_2]) ?_ 1 _ rfl; (with_reducible repeat (first | refine blk_drewN ?_ _ | refine blk_drew ?_ | refine blk_alloc ?_ _)); exact BK362.out⟩, ⟨by repeat (first | (with_reducible first | exact HB.out | apply below_alloc | apply pw_below_drewN | apply below_drew1 | refine below_set ?_ GE362.out) | exact HB.out)⟩⟩
                        ·
                         rw [if_neg c126] at H
                         exact absurd H (by simp)
                     ·
                      replace c105 := Bool.eq_false_iff.mpr c105
                      subst c105
                      have H1 : (if t375 = true then (if x5_2 ≥ 0 then (if (t432 != (decide (x5_2 ≤ 65535))) = true then (none) else (if (strOfNums t429).toList = (strOfNums y433).toList then (waybilllaw5_ContTells.l0 kj94 x0_2 a2 a3 a4 (Go.bits .and .i64 x5_2 65535) l6 (wrap64 (x15_2 + 1)) a1_0 (Go.bits .and .i64 x363001_2 3) a1_2) else (none))) else (if (t432 != false) = true then (none) else (if (strOfNums t429).toList = (strOfNums y433).toList then (waybilllaw5_ContTells.l0 kj94 x0_2 a2 a3 a4 (Go.bits .and .i64 x5_2 65535) l6 (wrap64 (x15_2 + 1)) a1_0 (Go.bits .and .i64 x363001_2 3) a1_2) else (none)))) else (if (t432 != false) = true then (none) else (if (strOfNums t429).toList = (strOfNums y433).toList then (waybilllaw5_ContTells.l0 kj94 x0_2 a2 a3 a4 (Go.bits .and .i64 x5_2 65535) l6 (wrap64 (x15_2 + 1)) a1_0 (Go.bits .and .i64 x363001_2 3) a1_2) else (none)))) = some r := by rw [if_neg (show ¬ (false = true) by decide)] at H; exact H
                      clear H
                      have H := H1
                      clear H1
                      by_cases c133 : t375 = true
                      ·
                       subst c133
                       have H1 : (if x5_2 ≥ 0 then (if (t432 != (decide (x5_2 ≤ 65535))) = true then (none) else (if (strOfNums t429).toList = (strOfNums y433).toList then (waybilllaw5_ContTells.l0 kj94 x0_2 a2 a3 a4 (Go.bits .and .i64 x5_2 65535) l6 (wrap64 (x15_2 + 1)) a1_0 (Go.bits .and .i64 x363001_2 3) a1_2) else (none))) else (if (t432 != false) = true then (none) else (if (strOfNums t429).toList = (strOfNums y433).toList then (waybilllaw5_ContTells.l0 kj94 x0_2 a2 a3 a4 (Go.bits .and .i64 x5_2 65535) l6 (wrap64 (x15_2 + 1)) a1_0 (Go.bits .and .i64 x363001_2 3) a1_2) else (none)))) = some r := by rw [if_pos rfl] at H; exact H
                       clear H
                       have H := H1
                       clear H1
                       by_cases c134 : x5_2 ≥ 0
                       ·
                        rw [if_pos c134] at H
                        have c134b0 : decide (0 ≤ x5_2) = true := decide_eq_true c134
                        clear c134
                        by_cases c135 : (t432 != (decide (x5_2 ≤ 65535))) = true
                        ·
                         rw [if_pos c135] at H
                         exact absurd H (by simp)
                        ·
                         rw [if_neg c135] at H
                         have c135b0 : (t432 != (decide (x5_2 ≤ 65535))) = false := by simpa using c135
                         (try (have c135b1 : decide (t432 = (decide (x5_2 ≤ 65535))) = true := by simpa using c135))
                         (try (have c135b2 : (t432 == (decide (x5_2 ≤ 65535))) = true := by simpa using c135))
                         clear c135
                         by_cases c136 : (strOfNums t429).toList = (strOfNums y433).toList
                         ·
                          rw [if_pos c136] at H
                          have c136b0 : ((strOfNums t429).toList == (strOfNums y433).toList) = true := beq_iff_eq.mpr c136
                          have c136b1 : ((strOfNums t429).toList != (strOfNums y433).toList) = false := bne_eq_false_iff_eq.mpr c136
                          clear c136
                          have H' := Aside0.mk H
                          clear H
                          have hcv137 := own_string (P := Try.prog) Try.underlying26 Try.underlying5 Try.underlying9 (Kd.own_of_R HO_27.out)
                          have hcv138 := own_string (P := Try.prog) Try.underlying26 Try.underlying5 Try.underlying9 (Kd.own_of_R HO_29.out)
                          have hcz139_0 : wc.cell? ⟨gb362, 0, none⟩ = some (.int .u64 a1_0) := (blk_cell BK362.out 0).trans rfl
                          have hcz139_1 : wc.cell? ⟨gb362, 1, none⟩ = some (.int .i64 x363001_2) := (blk_cell BK362.out 1).trans rfl
                          have hcz139_2 : wc.cell? ⟨gb362, 2, none⟩ = some (.string a1_2) := (blk_cell BK362.out 2).trans rfl
                          have hfz139_0 := blk_frozen BK362.out 0
                          have hfz139_1 := blk_frozen BK362.out 1
                          have hfz139_2 := blk_frozen BK362.out 2
                          go_wp2
                          (try simp only [← hl0_2, ← hl20_41])
                          go_roundg kj94
                          case measure => have := HJ7.out; have := HK2.out; have := HJ19.out; have := HJ34.out; have := HJ41.out; have := HK6.out; have := HJ94.out; omega
                          case rel => exact ⟨(x0_2), (Go.bits .and .i64 x5_2 65535), (wrap64 (x15_2 + 1)), (Go.bits .and .i64 x363001_2 3), (by first | rfl | (simp; done) | (simp [*]; done)), (by first | rfl | (simp; done) | (simp [*]; done)), H', ⟨by have := HJ7.out; have := HK2.out; have := HJ19.out; have := HJ34.out; have := HJ41.out; have := HK6.out; have := HJ94.out; omega⟩, ⟨by (try simp only [hl0_2]); (try simp only [hl20_41]); (with_reducible repeat (first | apply Kd.V_alloc | apply Kd.V_drewN | apply Kd.V_drew)); exact Kd.V_mono (Kd.V_far (p := ⟨gb362, 1, none⟩) (Kd.V_mono HO_0.out (fun k_ hk => (⟨hk, hk.2.2.2⟩ : _ ∧ k_ ≠ gb362))) (fun _ hk => hk.2) (.int .i64 (Go.bits .and .i64 x363001_2 3))) (fun _ hk => ⟨hk.1.1, hk.1.2.2.2⟩)⟩, ⟨by (try simp only [hl0_2]); (try simp only [hl20_41]); (with_reducible repeat (first | refine blk_drewN ?_ _ | refine blk_drew ?_ | refine blk_alloc ?_ _)); refine blk_put (cs := #[.int .u64 a1_0, .int .i64 x363001_2, .string a1_2]) ?_ 1 _ rfl; (with_reducible repeat (first | refine blk_drewN ?_ _ | refine blk_drew ?_ | refine blk_alloc ?_ _)); exact BK362.out⟩, ⟨by repeat (first | (with_reducible first | exact HB.out | apply below_alloc | apply pw_below_drewN | apply below_drew1 | refine below_set ?_ GE362.out) | exact HB.out)⟩⟩
                         ·
                          rw [if_neg c136] at H
                          exact absurd H (by simp)
                       ·
                        rw [if_neg c134] at H
                        have c134b0 : decide (0 ≤ x5_2) = false := decide_eq_false c134
                        clear c134
                        by_cases c140 : (t432 != false) = true
                        ·
                         rw [if_pos c140] at H
                         exact absurd H (by simp)
                        ·
                         rw [if_neg c140] at H
                         have c140b0 : (t432 != false) = false := by simpa using c140
                         (try (have c140b1 : decide (t432 = false) = true := by simpa using c140))
                         (try (have c140b2 : (t432 == false) = true := by simpa using c140))
                         clear c140
                         by_cases c141 : (strOfNums t429).toList = (strOfNums y433).toList
                         ·
                          rw [if_pos c141] at H
                          have c141b0 : ((strOfNums t429).toList == (strOfNums y433).toList) = true := beq_iff_eq.mpr c141
                          have c141b1 : ((strOfNums t429).toList != (strOfNums y433).toList) = false := bne_eq_false_iff_eq.mpr c141
                          clear c141
                          have H' := Aside0.mk H
                          clear H
                          have hcv142 := own_string (P := Try.prog) Try.underlying26 Try.underlying5 Try.underlying9 (Kd.own_of_R HO_27.out)
                          have hcv143 := own_string (P := Try.prog) Try.underlying26 Try.underlying5 Try.underlying9 (Kd.own_of_R HO_29.out)
                          have hcz144_0 : wc.cell? ⟨gb362, 0, none⟩ = some (.int .u64 a1_0) := (blk_cell BK362.out 0).trans rfl
                          have hcz144_1 : wc.cell? ⟨gb362, 1, none⟩ = some (.int .i64 x363001_2) := (blk_cell BK362.out 1).trans rfl
                          have hcz144_2 : wc.cell? ⟨gb362, 2, none⟩ = some (.string a1_2) := (blk_cell BK362.out 2).trans rfl
                          have hfz144_0 := blk_frozen BK362.out 0
                          have hfz144_1 := blk_frozen BK362.out 1
                          have hfz144_2 := blk_frozen BK362.out 2
                          go_wp2
                          (try simp only [← hl0_2, ← hl20_41])
                          go_roundg kj94
                          case measure => have := HJ7.out; have := HK2.out; have := HJ19.out; have := HJ34.out; have := HJ41.out; have := HK6.out; have := HJ94.out; omega
                          case rel => exact ⟨(x0_2), (Go.bits .and .i64 x5_2 65535), (wrap64 (x15_2 + 1)), (Go.bits .and .i64 x363001_2 3), (by first | rfl | (simp; done) | (simp [*]; done)), (by first | rfl | (simp; done) | (simp [*]; done)), H', ⟨by have := HJ7.out; have := HK2.out; have := HJ19.out; have := HJ34.out; have := HJ41.out; have := HK6.out; have := HJ94.out; omega⟩, ⟨by (try simp only [hl0_2]); (try simp only [hl20_41]); (with_reducible repeat (first | apply Kd.V_alloc | apply Kd.V_drewN | apply Kd.V_drew)); exact Kd.V_mono (Kd.V_far (p := ⟨gb362, 1, none⟩) (Kd.V_mono HO_0.out (fun k_ hk => (⟨hk, hk.2.2.2⟩ : _ ∧ k_ ≠ gb362))) (fun _ hk => hk.2) (.int .i64 (Go.bits .and .i64 x363001_2 3))) (fun _ hk => ⟨hk.1.1, hk.1.2.2.2⟩)⟩, ⟨by (try simp only [hl0_2]); (try simp only [hl20_41]); (with_reducible repeat (first | refine blk_drewN ?_ _ | refine blk_drew ?_ | refine blk_alloc ?_ _)); refine blk_put (cs := #[.int .u64 a1_0, .int .i64 x363001_2, .string a1_2]) ?_ 1 _ rfl; (with_reducible repeat (first | refine blk_drewN ?_ _ | refine blk_drew ?_ | refine blk_alloc ?_ _)); exact BK362.out⟩, ⟨by repeat (first | (with_reducible first | exact HB.out | apply below_alloc | apply pw_below_drewN | apply below_drew1 | refine below_set ?_ GE362.out) | exact HB.out)⟩⟩
                         ·
                          rw [if_neg c141] at H
                          exact absurd H (by simp)
                      ·
                       replace c133 := Bool.eq_false_iff.mpr c133
                       subst c133
                       have H1 : (if (t432 != false) = true then (none) else (if (strOfNums t429).toList = (strOfNums y433).toList then (waybilllaw5_ContTells.l0 kj94 x0_2 a2 a3 a4 (Go.bits .and .i64 x5_2 65535) l6 (wrap64 (x15_2 + 1)) a1_0 (Go.bits .and .i64 x363001_2 3) a1_2) else (none))) = some r := by rw [if_neg (show ¬ (false = true) by decide)] at H; exact H
                       clear H
                       have H := H1
                       clear H1
                       by_cases c145 : (t432 != false) = true
                       ·
                        rw [if_pos c145] at H
                        exact absurd H (by simp)
                       ·
                        rw [if_neg c145] at H
                        have c145b0 : (t432 != false) = false := by simpa using c145
                        (try (have c145b1 : decide (t432 = false) = true := by simpa using c145))
                        (try (have c145b2 : (t432 == false) = true := by simpa using c145))
                        clear c145
                        by_cases c146 : (strOfNums t429).toList = (strOfNums y433).toList
                        ·
                         rw [if_pos c146] at H
                         have c146b0 : ((strOfNums t429).toList == (strOfNums y433).toList) = true := beq_iff_eq.mpr c146
                         have c146b1 : ((strOfNums t429).toList != (strOfNums y433).toList) = false := bne_eq_false_iff_eq.mpr c146
                         clear c146
                         have H' := Aside0.mk H
                         clear H
                         have hcv147 := own_string (P := Try.prog) Try.underlying26 Try.underlying5 Try.underlying9 (Kd.own_of_R HO_27.out)
                         have hcv148 := own_string (P := Try.prog) Try.underlying26 Try.underlying5 Try.underlying9 (Kd.own_of_R HO_29.out)
                         have hcz149_0 : wc.cell? ⟨gb362, 0, none⟩ = some (.int .u64 a1_0) := (blk_cell BK362.out 0).trans rfl
                         have hcz149_1 : wc.cell? ⟨gb362, 1, none⟩ = some (.int .i64 x363001_2) := (blk_cell BK362.out 1).trans rfl
                         have hcz149_2 : wc.cell? ⟨gb362, 2, none⟩ = some (.string a1_2) := (blk_cell BK362.out 2).trans rfl
                         have hfz149_0 := blk_frozen BK362.out 0
                         have hfz149_1 := blk_frozen BK362.out 1
                         have hfz149_2 := blk_frozen BK362.out 2
                         go_wp2
                         (try simp only [← hl0_2, ← hl20_41])
                         go_roundg kj94
                         case measure => have := HJ7.out; have := HK2.out; have := HJ19.out; have := HJ34.out; have := HJ41.out; have := HK6.out; have := HJ94.out; omega
                         case rel => exact ⟨(x0_2), (Go.bits .and .i64 x5_2 65535), (wrap64 (x15_2 + 1)), (Go.bits .and .i64 x363001_2 3), (by first | rfl | (simp; done) | (simp [*]; done)), (by first | rfl | (simp; done) | (simp [*]; done)), H', ⟨by have := HJ7.out; have := HK2.out; have := HJ19.out; have := HJ34.out; have := HJ41.out; have := HK6.out; have := HJ94.out; omega⟩, ⟨by (try simp only [hl0_2]); (try simp only [hl20_41]); (with_reducible repeat (first | apply Kd.V_alloc | apply Kd.V_drewN | apply Kd.V_drew)); exact Kd.V_mono (Kd.V_far (p := ⟨gb362, 1, none⟩) (Kd.V_mono HO_0.out (fun k_ hk => (⟨hk, hk.2.2.2⟩ : _ ∧ k_ ≠ gb362))) (fun _ hk => hk.2) (.int .i64 (Go.bits .and .i64 x363001_2 3))) (fun _ hk => ⟨hk.1.1, hk.1.2.2.2⟩)⟩, ⟨by (try simp only [hl0_2]); (try simp only [hl20_41]); (with_reducible repeat (first | refine blk_drewN ?_ _ | refine blk_drew ?_ | refine blk_alloc ?_ _)); refine blk_put (cs := #[.int .u64 a1_0, .int .i64 x363001_2, .string a1_2]) ?_ 1 _ rfl; (with_reducible repeat (first | refine blk_drewN ?_ _ | refine blk_drew ?_ | refine blk_alloc ?_ _)); exact BK362.out⟩, ⟨by repeat (first | (with_reducible first | exact HB.out | apply below_alloc | apply pw_below_drewN | apply below_drew1 | refine below_set ?_ GE362.out) | exact HB.out)⟩⟩
                        ·
                         rw [if_neg c146] at H
                         exact absurd H (by simp)
             ·
              rw [if_neg c41] at H
              exact absurd H (by simp)
            ·
             rw [if_neg c40] at H
             exact absurd H (by simp)
      ·
       rw [if_neg c17] at H
       have c17b0 : decide (x15_2 < 2) = false := decide_eq_false c17
       clear c17
       replace H := Option.bind_eq_some_iff.mp H
       obtain ⟨t364, A1500, H⟩ := H
       replace H : (some t364) = some r := H
       have A150 := Aside0.mk A1500
       clear A1500
       obtain rfl := Option.some.inj H
       go_wp2_with (first | ((with_reducible refine gate_callee (f := 15) rfl ?_); refine goesL_ (some 180) rfl rfl Try.func15 (by kernel_rfl) rfl #[] rfl (by (try simp only [List.map_toArray, List.map_cons, List.map_nil]); first | done | rfl | (simp only [List.length_drop, List.length_take]; rfl)) ?_; (with_reducible refine (waybilllaw5_awake.calls k2  t364 _ A150.out).mono ?_); rintro e w151 ⟨rfl, hb⟩; refine ⟨_, rfl, ?_⟩; have n0_ := Aside0.mk (Kd.V_below (by (with_reducible repeat (first | apply Kd.V_alloc | apply Kd.V_drewN | apply Kd.V_drew)); exact HO_0.out) hb); have n1_ := Aside0.mk (blk_below (g := gb362) (o := .cells #[.int .u64 a1_0, .int .i64 x363001_2, .string a1_2] 25 (0, 0)) (by (with_reducible repeat (first | refine blk_drewN ?_ _ | refine blk_drew ?_ | refine blk_alloc ?_ _)); exact BK362.out) hb); have n2_ := Aside0.mk (below_step (by repeat (first | (with_reducible first | exact HB.out | apply below_alloc | apply pw_below_drewN | apply below_drew1 | refine below_set ?_ GE362.out) | exact HB.out)) hb); clear HO_0; clear BK362; clear HB; have HO_0 := n0_; have BK362 := n1_; have HB := n2_; clear n0_ n1_ n2_; (try clear hb); (try clear hb2); (try clear hk); (try clear hi); (try clear hge)))
       all_goals first | (go_ret; exact ⟨by first | rfl | (simp [errW_none, errW_some]; done) | (simp [errW_none, errW_some]; rfl) | (simp [*, errW_none, errW_some]; done) | (simp [*, errW_none, errW_some]; rfl), by repeat (first | (with_reducible first | exact HB.out | apply below_alloc | apply pw_below_drewN | apply below_drew1 | refine below_set ?_ GE362.out) | exact HB.out)⟩) | (exfalso; simp_all; done)

end Go.Proofs.Ytpjkaodbcclecaa.PB
