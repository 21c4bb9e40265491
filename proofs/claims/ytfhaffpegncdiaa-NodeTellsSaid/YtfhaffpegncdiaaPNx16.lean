/- What functions of the given program come to, and that they do: written out of the translation by a program of this session; Lean checks it. -/
import Derived.Test.YtfhaffpegncdiaaPNx0
import Derived.Test.YtfhaffpegncdiaaPNx12
import Derived.Test.YtfhaffpegncdiaaPNx15
namespace Go.Proofs.Ytfhaffpegncdiaa.PN
open Go.RowKit Go.Proofs.YtfhaffpegncdiaaW.PrintWords Go.Proofs.YtfhaffpegncdiaaW.PrintLast Go.Proofs.YtfhaffpegncdiaaW.PrintMore
attribute [local go_sem] max2_int min2_int max_two min_two max_three min_three max_four min_four   -- for this text's walks alone
set_option linter.unusedVariables false
set_option linter.unusedSimpArgs false

/-! ### waybillref7_NodeOf: function 28 -/
mutual
def waybillref7_NodeOf.j0 : Nat → List Int → Int → Int → Bool → Option (Bool × (List (S41)) × Bool)
 | 0, _, _, _, _ => none
 | k + 1, x0, x4, x6, x40 => if x40 = true then (some (false, ([] : List (S41)), false)) else (waybillref7_NodeOf.l0 k x0 x6 3 0 (x4 == 1) ([] : List (S41)))
def waybillref7_NodeOf.l0 : Nat → List Int → Int → Int → Int → Bool → List (S41) → Option (Bool × (List (S41)) × Bool)
 | 0, _, _, _, _, _, _ => none
 | k + 1, x0, x6, x9, x10, x338000, x338001 => if x10 < x6 then ((waybillref1_Text.f k x0 x9 1).bind fun bt338 => (if bt338.2.2 = true then (if x338000 = true then ((waybillref1_Text.f k x0 bt338.2.1 1).bind fun bt344 => (if bt344.2.2 = true then (if x338001.length < 3518437208883 then (waybillref7_NodeOf.l0 k x0 x6 bt344.2.1 (IntKind.u64.wrap (x10 + 1)) x338000 (x338001 ++ [(⟨strOfNums bt338.1, strOfNums bt344.1, 0⟩ : S41)])) else (none)) else (some (false, ([] : List (S41)), false)))) else ((waybillref1_Num.f k x0 bt338.2.1 4).bind fun bt352 => (if bt352.2 = true then (if x338001.length < 3518437208883 then (waybillref7_NodeOf.l0 k x0 x6 (wrap64 (bt338.2.1 + 4)) (IntKind.u64.wrap (x10 + 1)) x338000 (x338001 ++ [(⟨strOfNums bt338.1, (⟨#[]⟩ : ByteArray), wrap64 (bt352.1)⟩ : S41)])) else (none)) else (some (false, ([] : List (S41)), false))))) else (some (false, ([] : List (S41)), false)))) else (waybillref7_NodeOf.l1 k x0 x9 x338000 x338001)
def waybillref7_NodeOf.l1 : Nat → List Int → Int → Bool → List (S41) → Option (Bool × (List (S41)) × Bool)
 | 0, _, _, _, _ => none
 | k + 1, x0, x20, x338000, x338001 => if x20 < (x0.length : Int) then (if 0 ≤ x20 then (if (rd x0 x20) = 0 then (waybillref7_NodeOf.l1 k x0 (wrap64 (x20 + 1)) x338000 x338001) else (some (false, ([] : List (S41)), false))) else (none)) else ((waybillref7_NodeOk.f k x338000 x338001).bind fun t358 => (if t358 = true then (some (x338000, x338001, true)) else (some (false, ([] : List (S41)), false))))
end
def waybillref7_NodeOf.f (k : Nat) (l0 : List Int) : Option (Bool × (List (S41)) × Bool) := (waybillref1_Num.f k l0 0 1).bind fun bt333 => ((waybillref1_Num.f k l0 1 2).bind fun bt335 => (if bt335.2 = true then (if bt333.1 < 1 then (waybillref7_NodeOf.j0 k l0 bt333.1 bt335.1 true) else (waybillref7_NodeOf.j0 k l0 bt333.1 bt335.1 (decide (bt333.1 > 2)))) else (waybillref7_NodeOf.j0 k l0 bt333.1 bt335.1 true)))
theorem waybillref7_NodeOf.mono_l : ∀ k, (∀ y0 y1 y2 y3, LeO (waybillref7_NodeOf.j0 k y0 y1 y2 y3) (waybillref7_NodeOf.j0 (k + 1) y0 y1 y2 y3)) ∧ (∀ y0 y1 y2 y3 y4 y5, LeO (waybillref7_NodeOf.l0 k y0 y1 y2 y3 y4 y5) (waybillref7_NodeOf.l0 (k + 1) y0 y1 y2 y3 y4 y5)) ∧ (∀ y0 y1 y2 y3, LeO (waybillref7_NodeOf.l1 k y0 y1 y2 y3) (waybillref7_NodeOf.l1 (k + 1) y0 y1 y2 y3))
 | 0 => ⟨fun _ _ _ _ r h => by simp [waybillref7_NodeOf.j0] at h, fun _ _ _ _ _ _ r h => by simp [waybillref7_NodeOf.l0] at h, fun _ _ _ _ r h => by simp [waybillref7_NodeOf.l1] at h⟩
 | k + 1 => by
  obtain ⟨ih0, ih1, ih2⟩ := waybillref7_NodeOf.mono_l k
  refine ⟨?_, ?_, ?_⟩
  ·
   intro y0 y1 y2 y3
   unfold waybillref7_NodeOf.j0
   repeat' first
   | (with_reducible exact ih0 _ _ _ _)
   | (with_reducible exact ih1 _ _ _ _ _ _)
   | (with_reducible exact ih2 _ _ _ _)
   | (with_reducible exact waybillref1_Num.mono _ _ _ _)
   | (with_reducible exact waybillref1_Text.mono _ _ _ _)
   | (with_reducible exact waybillref7_NodeOk.mono _ _ _)
   | (with_reducible exact LeO.refl _)
   | (with_reducible exact LeO.none _)
   | (with_reducible refine LeO.ite ?_ ?_)
   | (with_reducible refine LeO.bind ?_ (fun _ => ?_))
   | exact ih0 _ _ _ _
   | exact ih1 _ _ _ _ _ _
   | exact ih2 _ _ _ _
   | exact waybillref1_Num.mono _ _ _ _
   | exact waybillref1_Text.mono _ _ _ _
   | exact waybillref7_NodeOk.mono _ _ _
   | exact LeO.none _
   | refine LeO.ite ?_ ?_
   | refine LeO.bind ?_ (fun _ => ?_)
  ·
   intro y0 y1 y2 y3 y4 y5
   unfold waybillref7_NodeOf.l0
   repeat' first
   | (with_reducible exact ih0 _ _ _ _)
   | (with_reducible exact ih1 _ _ _ _ _ _)
   | (with_reducible exact ih2 _ _ _ _)
   | (with_reducible exact waybillref1_Num.mono _ _ _ _)
   | (with_reducible exact waybillref1_Text.mono _ _ _ _)
   | (with_reducible exact waybillref7_NodeOk.mono _ _ _)
   | (with_reducible exact LeO.refl _)
   | (with_reducible exact LeO.none _)
   | (with_reducible refine LeO.ite ?_ ?_)
   | (with_reducible refine LeO.bind ?_ (fun _ => ?_))
   | exact ih0 _ _ _ _
   | exact ih1 _ _ _ _ _ _
   | exact ih2 _ _ _ _
   | exact waybillref1_Num.mono _ _ _ _
   | exact waybillref1_Text.mono _ _ _ _
   | exact waybillref7_NodeOk.mono _ _ _
   | exact LeO.none _
   | refine LeO.ite ?_ ?_
   | refine LeO.bind ?_ (fun _ => ?_)
  ·
   intro y0 y1 y2 y3
   unfold waybillref7_NodeOf.l1
   repeat' first
   | (with_reducible exact ih0 _ _ _ _)
   | (with_reducible exact ih1 _ _ _ _ _ _)
   | (with_reducible exact ih2 _ _ _ _)
   | (with_reducible exact waybillref1_Num.mono _ _ _ _)
   | (with_reducible exact waybillref1_Text.mono _ _ _ _)
   | (with_reducible exact waybillref7_NodeOk.mono _ _ _)
   | (with_reducible exact LeO.refl _)
   | (with_reducible exact LeO.none _)
   | (with_reducible refine LeO.ite ?_ ?_)
   | (with_reducible refine LeO.bind ?_ (fun _ => ?_))
   | exact ih0 _ _ _ _
   | exact ih1 _ _ _ _ _ _
   | exact ih2 _ _ _ _
   | exact waybillref1_Num.mono _ _ _ _
   | exact waybillref1_Text.mono _ _ _ _
   | exact waybillref7_NodeOk.mono _ _ _
   | exact LeO.none _
   | refine LeO.ite ?_ ?_
   | refine LeO.bind ?_ (fun _ => ?_)
theorem waybillref7_NodeOf.mono : ∀ a0 k, LeO (waybillref7_NodeOf.f k a0) (waybillref7_NodeOf.f (k + 1) a0) := by
 intro a0 k
 obtain ⟨ih0, ih1, ih2⟩ := waybillref7_NodeOf.mono_l k
 unfold waybillref7_NodeOf.f
 repeat' first
   | (with_reducible exact ih0 _ _ _ _)
   | (with_reducible exact ih1 _ _ _ _ _ _)
   | (with_reducible exact ih2 _ _ _ _)
   | (with_reducible exact waybillref1_Num.mono _ _ _ _)
   | (with_reducible exact waybillref1_Text.mono _ _ _ _)
   | (with_reducible exact waybillref7_NodeOk.mono _ _ _)
   | (with_reducible exact LeO.refl _)
   | (with_reducible exact LeO.none _)
   | (with_reducible refine LeO.ite ?_ ?_)
   | (with_reducible refine LeO.bind ?_ (fun _ => ?_))
   | exact ih0 _ _ _ _
   | exact ih1 _ _ _ _ _ _
   | exact ih2 _ _ _ _
   | exact waybillref1_Num.mono _ _ _ _
   | exact waybillref1_Text.mono _ _ _ _
   | exact waybillref7_NodeOk.mono _ _ _
   | exact LeO.none _
   | refine LeO.ite ?_ ?_
   | refine LeO.bind ?_ (fun _ => ?_)
set_option maxHeartbeats 8000000 in
set_option maxRecDepth 100000 in
theorem waybillref7_NodeOf.calls (k : Nat) (A0 : Option Addr) (c0 : Nat) (l0 : List Int) (r1 : Bool) (r2 : List (S41)) (r3 : Bool) (w : World) (hr0 : Kd.C (Kd.int .u8) w A0 l0.length l0) (hc0 : l0.length ≤ c0) (h : waybillref7_NodeOf.f k l0 = some (r1, r2, r3)) :
  Calls Try.prog 28 #[.slice A0 l0.length c0] w fun e w' => ∃ v1_ : Value, e = .returned (.tuple #[.agg #[.bool r1, v1_], .bool r3]) ∧ Kd.R k41 41 w' w.heap.size (fun _ => True) v1_ r2 ∧ Below w.heap.size w w' := by
 have hu44 := Try.underlying44
 have hu41 := Try.underlying41
 have HR0 := Aside0.mk hr0
 have HC0 := Aside0.mk hc0
 clear hr0 hc0
 have HB := Aside0.mk (Below.refl w.heap.size w)
 have H : ((waybillref1_Num.f k l0 0 1).bind fun bt333 => ((waybillref1_Num.f k l0 1 2).bind fun bt335 => (if bt335.2 = true then (if bt333.1 < 1 then (waybillref7_NodeOf.j0 k l0 bt333.1 bt335.1 true) else (waybillref7_NodeOf.j0 k l0 bt333.1 bt335.1 (decide (bt333.1 > 2)))) else (waybillref7_NodeOf.j0 k l0 bt333.1 bt335.1 true)))) = some (r1, r2, r3) := h
 clear h
 replace H := Option.bind_eq_some_iff.mp H
 obtain ⟨⟨t333, t334⟩, A20, H⟩ := H
 replace H : ((waybillref1_Num.f k l0 1 2).bind fun bt335 => (if bt335.2 = true then (if t333 < 1 then (waybillref7_NodeOf.j0 k l0 t333 bt335.1 true) else (waybillref7_NodeOf.j0 k l0 t333 bt335.1 (decide (t333 > 2)))) else (waybillref7_NodeOf.j0 k l0 t333 bt335.1 true))) = some (r1, r2, r3) := H
 have A2 := Aside0.mk A20
 clear A20
 replace H := Option.bind_eq_some_iff.mp H
 obtain ⟨⟨t335, t336⟩, A30, H⟩ := H
 replace H : (if t336 = true then (if t333 < 1 then (waybillref7_NodeOf.j0 k l0 t333 t335 true) else (waybillref7_NodeOf.j0 k l0 t333 t335 (decide (t333 > 2)))) else (waybillref7_NodeOf.j0 k l0 t333 t335 true)) = some (r1, r2, r3) := H
 have A3 := Aside0.mk A30
 clear A30
 have HC4 := Aside0.mk H
 clear H
 go_enter Try.func28, Try.ntmps28
 go_upto_region 3 with (first | ((with_reducible refine gate_dst (N := 2) rfl ?_); refine box_event ?hg (N := 2) ?hd (cs := #[.bool false, .slice none 0 0]) (t := 44) ?hr ?_; (case hd => rfl); (case hg => rfl); (case hr => first | (go_simp; done) | (go_simp; rfl)); intro gb332 hg w5 hbox hb; have n0_ := Aside0.mk (below_step (by repeat (first | (with_reducible first | exact HB.out | apply below_alloc | apply pw_below_drewN | apply below_drew1) | exact HB.out)) hb); have n1_ := Aside0.mk (hbox); have n2_ := Aside0.mk ((by rw [hg]; exact (below_size (by repeat (first | (with_reducible first | exact HB.out | apply below_alloc | apply pw_below_drewN | apply below_drew1) | exact HB.out))) : w.heap.size ≤ gb332)); have n3_ := Aside0.mk ((by rw [hg]; exact (below_size (by repeat (first | (with_reducible first | exact HB.out | apply below_alloc | apply pw_below_drewN | apply below_drew1) | exact HB.out))) : w.heap.size ≤ gb332)); clear HB; have HB := n0_; have BK332 := n1_; have GW332 := n2_; have GE332 := n3_; clear n0_ n1_ n2_ n3_; clear hb hbox hg) | ((with_reducible refine gate_callee (f := 49) rfl ?_); refine goesL_ (some 23) rfl rfl Try.func49 (by kernel_rfl) rfl #[.slice A0 l0.length c0, .int .i64 0, .int .i64 1] rfl (by (try simp only [List.map_toArray, List.map_cons, List.map_nil]); first | done | rfl | (simp only [List.length_drop, List.length_take]; rfl)) ?_; (with_reducible refine (waybillref1_Num.calls k _ _ l0 0 1 t333 t334 _ ?side1 ?side2 A2.out).mono ?_); (case side1 => repeat (first | exact (Kd.C_below HR0.out HB.out) | (with_reducible refine Kd.C_alloc ?_ _) | (with_reducible refine Kd.C_drewN ?_ _) | (with_reducible refine Kd.C_drew ?_))); (case side2 => exact HC0.out); rintro e w' ⟨rfl, ⟨nd, rfl⟩⟩; refine ⟨_, rfl, ?_⟩) | ((with_reducible refine gate_callee (f := 49) rfl ?_); refine goesL_ (some 28) rfl rfl Try.func49 (by kernel_rfl) rfl #[.slice A0 l0.length c0, .int .i64 1, .int .i64 2] rfl (by (try simp only [List.map_toArray, List.map_cons, List.map_nil]); first | done | rfl | (simp only [List.length_drop, List.length_take]; rfl)) ?_; (with_reducible refine (waybillref1_Num.calls k _ _ l0 1 2 t335 t336 _ ?side1 ?side2 A3.out).mono ?_); (case side1 => repeat (first | exact (Kd.C_below HR0.out (by repeat (first | (with_reducible first | exact HB.out | apply below_alloc | apply pw_below_drewN | apply below_drew1 | refine below_set ?_ GE332.out) | exact HB.out))) | (with_reducible refine Kd.C_alloc ?_ _) | (with_reducible refine Kd.C_drewN ?_ _) | (with_reducible refine Kd.C_drew ?_))); (case side2 => exact HC0.out); rintro e w' ⟨rfl, ⟨nd, rfl⟩⟩; refine ⟨_, rfl, ?_⟩))
 (try simp only [Act.put, List.setIfInBounds_toArray, List.set_cons_zero, List.set_cons_succ])
 go_cut [40] (fun v40 wc => ∃ (kq : Nat) (x40_3 : Bool), v40 = .bool x40_3 ∧ Aside0 (waybillref7_NodeOf.j0 kq l0 t333 t335 x40_3 = some (r1, r2, r3)) ∧ Aside0 (kq ≤ k) ∧ Aside0 (wc.heap[gb332]? = some (.cells #[.bool false, (.slice none 0 0)] 44 (0, 0))) ∧ Aside0 (Below w.heap.size w wc))
 case first =>
  have H := HC4.out
  clear HC4
  by_cases c6 : t336 = true
  ·
   subst c6
   have H1 : (if t333 < 1 then (waybillref7_NodeOf.j0 k l0 t333 t335 true) else (waybillref7_NodeOf.j0 k l0 t333 t335 (decide (t333 > 2)))) = some (r1, r2, r3) := by rw [if_pos rfl] at H; exact H
   clear H
   have H := H1
   clear H1
   by_cases c7 : t333 < 1
   ·
    rw [if_pos c7] at H
    have c7b0 : decide (t333 < 1) = true := decide_eq_true c7
    clear c7
    (first | rw [c7b0] | rw [c7b2] | rw [c7b1] | (simp only [i64_w, i32_w]; rw [c7b0]) | skip)
    have H' := Aside0.mk H
    clear H
    go_wp2
    go_meet
    case rel => exact ⟨_, (true), (by first | rfl | (simp; done) | (simp [*]; done)), H', ⟨by first | omega | exact Nat.le_refl _⟩, ⟨by exact BK332.out⟩, ⟨by repeat (first | (with_reducible first | exact HB.out | apply below_alloc | apply pw_below_drewN | apply below_drew1 | refine below_set ?_ GE332.out) | exact HB.out)⟩⟩
   ·
    rw [if_neg c7] at H
    have c7b0 : decide (t333 < 1) = false := decide_eq_false c7
    clear c7
    (first | rw [c7b0] | rw [c7b2] | rw [c7b1] | (simp only [i64_w, i32_w]; rw [c7b0]) | skip)
    have H' := Aside0.mk H
    clear H
    go_wp2
    go_meet
    case rel => exact ⟨_, (decide (t333 > 2)), (by first | rfl | (simp; done) | (simp [*]; done)), H', ⟨by first | omega | exact Nat.le_refl _⟩, ⟨by exact BK332.out⟩, ⟨by repeat (first | (with_reducible first | exact HB.out | apply below_alloc | apply pw_below_drewN | apply below_drew1 | refine below_set ?_ GE332.out) | exact HB.out)⟩⟩
  ·
   replace c6 := Bool.eq_false_iff.mpr c6
   subst c6
   have H1 : (waybillref7_NodeOf.j0 k l0 t333 t335 true) = some (r1, r2, r3) := by rw [if_neg (show ¬ (false = true) by decide)] at H; exact H
   clear H
   have H := H1
   clear H1
   have H' := Aside0.mk H
   clear H
   go_wp2
   go_meet
   case rel => exact ⟨_, (true), (by first | rfl | (simp; done) | (simp [*]; done)), H', ⟨by first | omega | exact Nat.le_refl _⟩, ⟨by exact BK332.out⟩, ⟨by repeat (first | (with_reducible first | exact HB.out | apply below_alloc | apply pw_below_drewN | apply below_drew1 | refine below_set ?_ GE332.out) | exact HB.out)⟩⟩
 case rest =>
  clear HC4
  try clear c2
  try clear p2
  try clear c4
  try clear c6
  try clear c7
  try clear c7b0
  obtain ⟨kq, x40_3, rfl, HA, HJ3, BK332, HB⟩ := hcut
  cases kq with
  | zero => exact absurd HA.out (by simp [waybillref7_NodeOf.j0])
  | succ kj3 =>
   have H := HA.out
   clear HA
   simp only [waybillref7_NodeOf.j0] at H
   by_cases c8 : x40_3 = true
   ·
    subst c8
    have H1 : (some (false, ([] : List (S41)), false)) = some (r1, r2, r3) := by rw [if_pos rfl] at H; exact H
    clear H
    have H := H1
    clear H1
    simp only [Option.some.injEq, Prod.mk.injEq] at H
    obtain ⟨rfl, rfl, rfl⟩ := H
    have hcz9_0 : wc.cell? ⟨gb332, 0, none⟩ = some (.bool false) := (blk_cell BK332.out 0).trans rfl
    have hcz9_1 : wc.cell? ⟨gb332, 1, none⟩ = some (.slice none 0 0) := (blk_cell BK332.out 1).trans rfl
    have hfz9_0 := blk_frozen BK332.out 0
    have hfz9_1 := blk_frozen BK332.out 1
    go_wp2
    refine bodyPost_ret (results_ct rfl _ _ gb332 44 #[.bool false, .slice none 0 0] (0, 0) _ rfl (by refine blk_put (cs := #[.bool false, .slice none 0 0]) ?_ 1 _ rfl; refine blk_put (cs := #[.bool false, .slice none 0 0]) ?_ 0 _ rfl; exact BK332.out) Try.underlying44 rfl (by kernel_rfl)) rfl ?_
    exact ⟨_, by first | rfl | (simp [errW_none, errW_some]; done) | (simp [errW_none, errW_some]; rfl) | (simp [*, errW_none, errW_some]; done) | (simp [*, errW_none, errW_some]; rfl), by first | exact Kd.R_nil _ _ _ _ _ | exact Kd.N_nil _ _ _ _ _ | exact Kd.V_nil _ _ _ _ _ | exact Kd.Q_nil _ _ _ _ _ | exact Kd.S_nil _ _ _ _ _, by repeat (first | (with_reducible first | exact HB.out | apply below_alloc | apply pw_below_drewN | apply below_drew1 | refine below_set ?_ GE332.out) | exact HB.out)⟩
   ·
    replace c8 := Bool.eq_false_iff.mpr c8
    subst c8
    have H1 : (waybillref7_NodeOf.l0 kj3 l0 t335 3 0 (t333 == 1) ([] : List (S41))) = some (r1, r2, r3) := by rw [if_neg (show ¬ (false = true) by decide)] at H; exact H
    clear H
    have H := H1
    clear H1
    have H' := Aside0.mk H
    clear H
    go_wp2_with (first | ((with_reducible refine gate_dst (N := 8) rfl ?_); refine box_event ?hg (N := 8) ?hd (cs := #[.bool false, .slice none 0 0]) (t := 44) ?hr ?_; (case hd => rfl); (case hg => rfl); (case hr => first | (go_simp; done) | (go_simp; rfl)); intro gb337 hg w10 hbox hb; have n0_ := Aside0.mk (blk_below (g := gb332) (o := .cells #[.bool false, .slice none 0 0] 44 (0, 0)) (by exact BK332.out) hb); have n1_ := Aside0.mk (below_step (by repeat (first | (with_reducible first | exact HB.out | apply below_alloc | apply pw_below_drewN | apply below_drew1 | refine below_set ?_ GE332.out) | exact HB.out)) hb); have n2_ := Aside0.mk (hbox); have n3_ := Aside0.mk ((by rw [hg]; exact (below_size (by repeat (first | (with_reducible first | exact HB.out | apply below_alloc | apply pw_below_drewN | apply below_drew1 | refine below_set ?_ GE332.out) | exact HB.out))) : w.heap.size ≤ gb337)); have n4_ := Aside0.mk ((by rw [hg]; exact (below_size (by repeat (first | (with_reducible first | exact HB.out | apply below_alloc | apply pw_below_drewN | apply below_drew1 | refine below_set ?_ GE332.out) | exact HB.out))) : w.heap.size ≤ gb337)); have n5_ := Aside0.mk ((by rw [hg]; exact Nat.ne_of_lt (blk_lt (g := gb332) (o := .cells #[.bool false, .slice none 0 0] 44 (0, 0)) (by exact BK332.out)) : gb332 ≠ gb337)); have n6_ := Aside0.mk ((by rw [hg]; exact Nat.ne_of_gt (blk_lt (g := gb332) (o := .cells #[.bool false, .slice none 0 0] 44 (0, 0)) (by exact BK332.out)) : gb337 ≠ gb332)); clear BK332; clear HB; have BK332 := n0_; have HB := n1_; have BK337 := n2_; have GW337 := n3_; have GE337 := n4_; have NB332_337 := n5_; have NB337_332 := n6_; clear n0_ n1_ n2_ n3_ n4_ n5_ n6_; clear hb hbox hg; have hnb11 := NB337_332.out; have hnc11 := NB332_337.out; have hcz12_0 : w10.cell? ⟨gb337, 0, none⟩ = some (.bool false) := (blk_cell BK337.out 0).trans rfl; have hcz12_1 : w10.cell? ⟨gb337, 1, none⟩ = some (.slice none 0 0) := (blk_cell BK337.out 1).trans rfl; have hfz12_0 := blk_frozen BK337.out 0; have hfz12_1 := blk_frozen BK337.out 1))
    go_loopg [9, 10] kj3 (fun kq v9 v10 w' => ∃ (x9_2 : Int) (x10_2 : Int) (x333000_2 : Bool) (x338001_2 : List (S41)) (u338001 : Value), v9 = .int .i64 x9_2 ∧ v10 = .int .u64 x10_2 ∧ Aside0 (waybillref7_NodeOf.l0 kq l0 t335 x9_2 x10_2 (t333 == 1) x338001_2 = some (r1, r2, r3)) ∧ Aside0 (kq ≤ kj3) ∧ Aside0 (Kd.R k41 41 w' w.heap.size (fun _ => True) u338001 x338001_2) ∧ Aside0 (w'.heap[gb332]? = some (.cells #[.bool x333000_2, (.slice none 0 0)] 44 (0, 0))) ∧ Aside0 (w'.heap[gb337]? = some (.cells #[.bool (t333 == 1), u338001] 44 (0, 0))) ∧ Aside0 (Below w.heap.size w w'))
    case atStart => exact ⟨(3), (0), (false), (([] : List (S41))), (.slice none 0 0), (by first | rfl | (simp; done) | (simp [*]; done)), (by first | rfl | (simp; done) | (simp [*]; done)), H', ⟨Nat.le_refl _⟩, ⟨by first | exact Kd.R_nil _ _ _ _ _ | exact Kd.N_nil _ _ _ _ _ | exact Kd.V_nil _ _ _ _ _ | exact Kd.Q_nil _ _ _ _ _ | exact Kd.S_nil _ _ _ _ _⟩, ⟨by refine blk_far ?_ NB332_337.out _; refine blk_far ?_ NB332_337.out _; exact BK332.out⟩, ⟨by refine blk_put (cs := #[.bool (t333 == 1), .slice none 0 0]) ?_ 1 _ rfl; refine blk_put (cs := #[.bool false, .slice none 0 0]) ?_ 0 _ rfl; exact BK337.out⟩, ⟨by repeat (first | (with_reducible first | exact HB.out | apply below_alloc | apply pw_below_drewN | apply below_drew1 | refine below_set ?_ GE332.out | refine below_set ?_ GE337.out) | exact HB.out)⟩⟩
    case round =>
     clear H'
     try clear c1
     try clear c2
     try clear p2
     try clear c4
     try clear c6
     try clear c7
     try clear c7b0
     try clear c8
     try clear c11
     try clear hcz12_0
     try clear hcz12_1
     try clear hcz9_0
     try clear hcz9_1
     try clear hfz12_0
     try clear hfz12_1
     try clear hfz9_0
     try clear hfz9_1
     try clear p2
     obtain ⟨x9_2, x10_2, x333000_2, x338001_2, u338001, rfl, rfl, HA, HK2, HO_338001, BK332, BK337, HB⟩ := hrel
     cases gk with
     | zero => exact absurd HA.out (by simp [waybillref7_NodeOf.l0])
     | succ k2 =>
      have H := HA.out
      clear HA
      simp only [waybillref7_NodeOf.l0] at H
      by_cases c13 : x10_2 < t335
      ·
       rw [if_pos c13] at H
       have c13b0 : decide (x10_2 < t335) = true := decide_eq_true c13
       clear c13
       replace H := Option.bind_eq_some_iff.mp H
       obtain ⟨⟨t338, t341, t342⟩, A140, H⟩ := H
       replace H : (if t342 = true then (if (t333 == 1) = true then ((waybillref1_Text.f k2 l0 t341 1).bind fun bt344 => (if bt344.2.2 = true then (if x338001_2.length < 3518437208883 then (waybillref7_NodeOf.l0 k2 l0 t335 bt344.2.1 (IntKind.u64.wrap (x10_2 + 1)) (t333 == 1) (x338001_2 ++ [(⟨strOfNums t338, strOfNums bt344.1, 0⟩ : S41)])) else (none)) else (some (false, ([] : List (S41)), false)))) else ((waybillref1_Num.f k2 l0 t341 4).bind fun bt352 => (if bt352.2 = true then (if x338001_2.length < 3518437208883 then (waybillref7_NodeOf.l0 k2 l0 t335 (wrap64 (t341 + 4)) (IntKind.u64.wrap (x10_2 + 1)) (t333 == 1) (x338001_2 ++ [(⟨strOfNums t338, (⟨#[]⟩ : ByteArray), wrap64 (bt352.1)⟩ : S41)])) else (none)) else (some (false, ([] : List (S41)), false))))) else (some (false, ([] : List (S41)), false))) = some (r1, r2, r3) := H
       have A14 := Aside0.mk A140
       clear A140
       by_cases c15 : t342 = true
       ·
        subst c15
        have H1 : (if (t333 == 1) = true then ((waybillref1_Text.f k2 l0 t341 1).bind fun bt344 => (if bt344.2.2 = true then (if x338001_2.length < 3518437208883 then (waybillref7_NodeOf.l0 k2 l0 t335 bt344.2.1 (IntKind.u64.wrap (x10_2 + 1)) (t333 == 1) (x338001_2 ++ [(⟨strOfNums t338, strOfNums bt344.1, 0⟩ : S41)])) else (none)) else (some (false, ([] : List (S41)), false)))) else ((waybillref1_Num.f k2 l0 t341 4).bind fun bt352 => (if bt352.2 = true then (if x338001_2.length < 3518437208883 then (waybillref7_NodeOf.l0 k2 l0 t335 (wrap64 (t341 + 4)) (IntKind.u64.wrap (x10_2 + 1)) (t333 == 1) (x338001_2 ++ [(⟨strOfNums t338, (⟨#[]⟩ : ByteArray), wrap64 (bt352.1)⟩ : S41)])) else (none)) else (some (false, ([] : List (S41)), false))))) = some (r1, r2, r3) := by rw [if_pos rfl] at H; exact H
        clear H
        have H := H1
        clear H1
        by_cases c16 : (t333 == 1) = true
        ·
         rw [if_pos c16] at H
         have c16b0 : (t333 == 1) = true := c16
         (try (have c16b1 : decide (t333 = 1) = true := by simpa using c16))
         (try (have c16b2 : (t333 == 1) = true := by simpa using c16))
         clear c16
         replace H := Option.bind_eq_some_iff.mp H
         obtain ⟨⟨t344, t347, t348⟩, A170, H⟩ := H
         replace H : (if t348 = true then (if x338001_2.length < 3518437208883 then (waybillref7_NodeOf.l0 k2 l0 t335 t347 (IntKind.u64.wrap (x10_2 + 1)) (t333 == 1) (x338001_2 ++ [(⟨strOfNums t338, strOfNums t344, 0⟩ : S41)])) else (none)) else (some (false, ([] : List (S41)), false))) = some (r1, r2, r3) := H
         have A17 := Aside0.mk A170
         clear A170
         by_cases c18 : t348 = true
         ·
          subst c18
          have H1 : (if x338001_2.length < 3518437208883 then (waybillref7_NodeOf.l0 k2 l0 t335 t347 (IntKind.u64.wrap (x10_2 + 1)) (t333 == 1) (x338001_2 ++ [(⟨strOfNums t338, strOfNums t344, 0⟩ : S41)])) else (none)) = some (r1, r2, r3) := by rw [if_pos rfl] at H; exact H
          clear H
          have H := H1
          clear H1
          by_cases c19 : x338001_2.length < 3518437208883
          ·
           rw [if_pos c19] at H
           have LMc19 := Aside0.mk c19
           clear c19
           obtain ⟨y349, hy349⟩ : ∃ y_ : List (S41), y_ = (x338001_2 ++ [(⟨strOfNums t338, strOfNums t344, 0⟩ : S41)]) := ⟨_, rfl⟩
           replace H : (waybillref7_NodeOf.l0 k2 l0 t335 t347 (IntKind.u64.wrap (x10_2 + 1)) (t333 == 1) y349) = some (r1, r2, r3) := by first | (rw [hy349]; with_reducible exact H) | (have H2_ := (Option.bind_some _ _).symm.trans H; rw [hy349]; with_reducible exact H2_) | (have H2_ := (Option.bind_some _ _).symm.trans H; with_reducible exact H2_) | with_reducible exact H | (rw [hy349]; exact H) | exact H
           have Ny349 := Aside0.mk hy349
           clear hy349
           have H' := Aside0.mk H
           clear H
           go_wp2_with (first | ((with_reducible refine gate_callee (f := 50) rfl ?_); refine goesL_ (some 53) rfl rfl Try.func50 (by kernel_rfl) rfl #[.slice A0 l0.length c0, .int .i64 x9_2, .int .i64 1] rfl (by (try simp only [List.map_toArray, List.map_cons, List.map_nil]); first | done | rfl | (simp only [List.length_drop, List.length_take]; rfl)) ?_; (with_reducible refine (waybillref1_Text.calls k2 (fun k_ => k_ < w.heap.size) _ _ l0 x9_2 1 t338 t341 true _ ?side1 A14.out).mono ?_); (case side1 => exact Kd.V_mk HC0.out (Kd.F_below (Kd.C_F (Kd.heap_int .u8) HR0.out) (by repeat (first | (with_reducible first | exact HB.out | apply below_alloc | apply pw_below_drewN | apply below_drew1 | refine below_set ?_ GE332.out | refine below_set ?_ GE337.out) | exact HB.out)))); rintro e w20 ⟨v339, rfl, ho0, hb⟩; refine ⟨_, rfl, ?_⟩; have n0_ := Aside0.mk (Kd.R_below (by exact HO_338001.out) hb); have n1_ := Aside0.mk (Kd.V_lower (Kd.V_mono (ok' := fun k_ => some k_ ≠ (u338001 : Value).ownBlock ∧ k_ ≠ gb332 ∧ k_ ≠ gb337) ho0 (fun k_ hk_ => ⟨Or.elim hk_ (fun hs_ => fun e_ => Nat.not_le.2 hs_ (Kd.R_base HO_338001.out k_ e_.symm)) (fun hn_ => (Kd.fresh' (Kd.R_lt (by exact HO_338001.out)) k_ hn_)), Or.elim hk_ (fun hs_ => fun e_ => Nat.not_le.2 hs_ (by rw [e_]; exact GW332.out)) (fun hn_ => (Kd.freshB (g := gb332) (o := .cells #[.bool x333000_2, .slice none 0 0] 44 (0, 0)) (by exact BK332.out) k_ hn_)), Or.elim hk_ (fun hs_ => fun e_ => Nat.not_le.2 hs_ (by rw [e_]; exact GW337.out)) (fun hn_ => (Kd.freshB (g := gb337) (o := .cells #[.bool (t333 == 1), u338001] 44 (0, 0)) (by exact BK337.out) k_ hn_))⟩)) (below_size (by repeat (first | (with_reducible first | exact HB.out | apply below_alloc | apply pw_below_drewN | apply below_drew1 | refine below_set ?_ GE332.out | refine below_set ?_ GE337.out) | exact HB.out)))); have n2_ := Aside0.mk (blk_below (g := gb332) (o := .cells #[.bool x333000_2, .slice none 0 0] 44 (0, 0)) (by exact BK332.out) hb); have n3_ := Aside0.mk (blk_below (g := gb337) (o := .cells #[.bool (t333 == 1), u338001] 44 (0, 0)) (by exact BK337.out) hb); have n4_ := Aside0.mk (below_step (by repeat (first | (with_reducible first | exact HB.out | apply below_alloc | apply pw_below_drewN | apply below_drew1 | refine below_set ?_ GE332.out | refine below_set ?_ GE337.out) | exact HB.out)) hb); clear HO_338001; clear BK332; clear BK337; clear HB; have HO_338001 := n0_; have HO340 := n1_; have BK332 := n2_; have BK337 := n3_; have HB := n4_; clear n0_ n1_ n2_ n3_ n4_; (try clear hb); (try clear hb2); (try clear hk); (try clear hi); (try clear hge); (try clear ho0); obtain ⟨Ao21, co21, eo21⟩ := Kd.V_slice HO340.out; subst eo21; have hcv22 := Kd.C_string (P := Try.prog) (A := Ao21) (c := co21) Try.underlying25 Try.underlying5 Try.underlying9 ((Kd.V_reads' (by exact HO340.out)).2.2)) | ((with_reducible refine gate_dst (N := 14) rfl ?_); refine box_event ?hg (N := 14) ?hd (cs := #[.string (⟨#[]⟩ : ByteArray), .string (⟨#[]⟩ : ByteArray), .int .i64 0]) (t := 41) ?hr ?_; (case hd => rfl); (case hg => rfl); (case hr => first | (go_simp; done) | (go_simp; rfl)); intro gb343 hg w23 hbox hb; have n0_ := Aside0.mk (Kd.R_below (Kd.R_elderB (by exact HO_338001.out) gb343 (Nat.le_of_eq hg.symm)) hb); have n1_ := Aside0.mk (Kd.V_below (Kd.V_elderB (by exact HO340.out) gb343 (Nat.le_of_eq hg.symm)) hb); have n2_ := Aside0.mk (blk_below (g := gb332) (o := .cells #[.bool x333000_2, .slice none 0 0] 44 (0, 0)) (by exact BK332.out) hb); have n3_ := Aside0.mk (blk_below (g := gb337) (o := .cells #[.bool (t333 == 1), u338001] 44 (0, 0)) (by exact BK337.out) hb); have n4_ := Aside0.mk (below_step (by repeat (first | (with_reducible first | exact HB.out | apply below_alloc | apply pw_below_drewN | apply below_drew1 | refine below_set ?_ GE332.out | refine below_set ?_ GE337.out) | exact HB.out)) hb); have n5_ := Aside0.mk (hbox); have n6_ := Aside0.mk ((by rw [hg]; exact (below_size (by repeat (first | (with_reducible first | exact HB.out | apply below_alloc | apply pw_below_drewN | apply below_drew1 | refine below_set ?_ GE332.out | refine below_set ?_ GE337.out) | exact HB.out))) : w.heap.size ≤ gb343)); have n7_ := Aside0.mk ((by rw [hg]; exact (below_size (by repeat (first | (with_reducible first | exact HB.out | apply below_alloc | apply pw_below_drewN | apply below_drew1 | refine below_set ?_ GE332.out | refine below_set ?_ GE337.out) | exact HB.out))) : w.heap.size ≤ gb343)); have n8_ := Aside0.mk ((by rw [hg]; exact Nat.ne_of_lt (blk_lt (g := gb332) (o := .cells #[.bool x333000_2, .slice none 0 0] 44 (0, 0)) (by exact BK332.out)) : gb332 ≠ gb343)); have n9_ := Aside0.mk ((by rw [hg]; exact Nat.ne_of_gt (blk_lt (g := gb332) (o := .cells #[.bool x333000_2, .slice none 0 0] 44 (0, 0)) (by exact BK332.out)) : gb343 ≠ gb332)); have n10_ := Aside0.mk ((by rw [hg]; exact Nat.ne_of_lt (blk_lt (g := gb337) (o := .cells #[.bool (t333 == 1), u338001] 44 (0, 0)) (by exact BK337.out)) : gb337 ≠ gb343)); have n11_ := Aside0.mk ((by rw [hg]; exact Nat.ne_of_gt (blk_lt (g := gb337) (o := .cells #[.bool (t333 == 1), u338001] 44 (0, 0)) (by exact BK337.out)) : gb343 ≠ gb337)); clear HO_338001; clear HO340; clear BK332; clear BK337; clear HB; have HO_338001 := n0_; have HO340 := n1_; have BK332 := n2_; have BK337 := n3_; have HB := n4_; have BK343 := n5_; have GW343 := n6_; have GE343 := n7_; have NB332_343 := n8_; have NB343_332 := n9_; have NB337_343 := n10_; have NB343_337 := n11_; clear n0_ n1_ n2_ n3_ n4_ n5_ n6_ n7_ n8_ n9_ n10_ n11_; clear hb hbox hg; have hnb24 := NB343_332.out; have hnc24 := NB332_343.out; have hnb25 := NB343_337.out; have hnc25 := NB337_343.out; have hcz26_0 : w23.cell? ⟨gb343, 0, none⟩ = some (.string (⟨#[]⟩ : ByteArray)) := (blk_cell BK343.out 0).trans rfl; have hcz26_1 : w23.cell? ⟨gb343, 1, none⟩ = some (.string (⟨#[]⟩ : ByteArray)) := (blk_cell BK343.out 1).trans rfl; have hcz26_2 : w23.cell? ⟨gb343, 2, none⟩ = some (.int .i64 0) := (blk_cell BK343.out 2).trans rfl; have hfz26_0 := blk_frozen BK343.out 0; have hfz26_1 := blk_frozen BK343.out 1; have hfz26_2 := blk_frozen BK343.out 2) | ((with_reducible refine gate_store (t := 41) (p := 14) rfl ?_); refine store_event (t := 41) (p := 14) (v := ?vo_w27) (w1 := (((w23.setCell ⟨gb343, 0, none⟩ (.string (strOfNums t338))).setCell ⟨gb343, 1, none⟩ (.string (⟨#[]⟩ : ByteArray))).setCell ⟨gb343, 2, none⟩ (.int .i64 0))) ?hg ?ho ?hn ?hr ?_; (case ho => rfl); (case hg => rfl); (case hn => rfl); (case hr => first | (go_simp; done) | (go_simp; rfl)); intro w27 hw; have n0_ : Aside0 (Kd.R k41 41 w27 w.heap.size (fun k_ => k_ ≠ gb343) u338001 x338001_2) := ⟨(by rw [hw]; exact (by exact Kd.R_mono (Kd.R_far (p := ⟨gb343, 2, none⟩) (Kd.R_far (p := ⟨gb343, 1, none⟩) (Kd.R_far (p := ⟨gb343, 0, none⟩) (Kd.R_mono HO_338001.out (fun k_ hk => (⟨hk, hk.2⟩ : _ ∧ k_ ≠ gb343))) (fun _ hk => hk.2) (.string (strOfNums t338))) (fun _ hk => hk.2) (.string (⟨#[]⟩ : ByteArray))) (fun _ hk => hk.2) (.int .i64 0)) (fun _ hk => hk.1.2)))⟩; have n1_ : Aside0 (Kd.V (Kd.int .u8) 5 w27 w.heap.size (fun k_ => some k_ ≠ (u338001 : Value).ownBlock ∧ k_ ≠ gb332 ∧ k_ ≠ gb337 ∧ k_ ≠ gb343) (.slice Ao21 t338.length co21) t338) := ⟨(by rw [hw]; exact (by exact Kd.V_mono (Kd.V_far (p := ⟨gb343, 2, none⟩) (Kd.V_far (p := ⟨gb343, 1, none⟩) (Kd.V_far (p := ⟨gb343, 0, none⟩) (Kd.V_mono HO340.out (fun k_ hk => (⟨hk, hk.2⟩ : _ ∧ k_ ≠ gb343))) (fun _ hk => hk.2) (.string (strOfNums t338))) (fun _ hk => hk.2) (.string (⟨#[]⟩ : ByteArray))) (fun _ hk => hk.2) (.int .i64 0)) (fun _ hk => ⟨hk.1.1.1, ⟨hk.1.1.2.1, ⟨hk.1.1.2.2, hk.1.2⟩⟩⟩)))⟩; have n2_ : Aside0 (w27.heap[gb332]? = some (.cells #[.bool x333000_2, .slice none 0 0] 44 (0, 0))) := ⟨(by rw [hw]; exact (by refine blk_far ?_ NB332_343.out _; refine blk_far ?_ NB332_343.out _; refine blk_far ?_ NB332_343.out _; exact BK332.out))⟩; have n3_ : Aside0 (w27.heap[gb337]? = some (.cells #[.bool (t333 == 1), u338001] 44 (0, 0))) := ⟨(by rw [hw]; exact (by refine blk_far ?_ NB337_343.out _; refine blk_far ?_ NB337_343.out _; refine blk_far ?_ NB337_343.out _; exact BK337.out))⟩; have n4_ : Aside0 (w27.heap[gb343]? = some (.cells #[.string (strOfNums t338), .string (⟨#[]⟩ : ByteArray), .int .i64 0] 41 (0, 0))) := ⟨(by rw [hw]; exact (by refine blk_put (cs := #[.string (strOfNums t338), .string (⟨#[]⟩ : ByteArray), .int .i64 0]) ?_ 2 _ rfl; refine blk_put (cs := #[.string (strOfNums t338), .string (⟨#[]⟩ : ByteArray), .int .i64 0]) ?_ 1 _ rfl; refine blk_put (cs := #[.string (⟨#[]⟩ : ByteArray), .string (⟨#[]⟩ : ByteArray), .int .i64 0]) ?_ 0 _ rfl; exact BK343.out))⟩; have n5_ : Aside0 (Below w.heap.size w w27) := ⟨(by rw [hw]; exact (by repeat (first | (with_reducible first | exact HB.out | apply below_alloc | apply pw_below_drewN | apply below_drew1 | refine below_set ?_ GE332.out | refine below_set ?_ GE337.out | refine below_set ?_ GE343.out) | exact HB.out)))⟩; clear hw; clear HO_338001; clear HO340; clear BK332; clear BK337; clear BK343; clear HB; have HO_338001 := n0_; have HO340 := n1_; have BK332 := n2_; have BK337 := n3_; have BK343 := n4_; have HB := n5_; clear n0_ n1_ n2_ n3_ n4_ n5_; have hnb28 := NB337_332.out; have hnc28 := NB332_337.out; have hcz29_0 : w27.cell? ⟨gb337, 0, none⟩ = some (.bool (t333 == 1)) := (blk_cell BK337.out 0).trans rfl; have hcz29_1 : w27.cell? ⟨gb337, 1, none⟩ = some (u338001) := (blk_cell BK337.out 1).trans rfl; have hfz29_0 := blk_frozen BK337.out 0; have hfz29_1 := blk_frozen BK337.out 1) | ((with_reducible refine gate_callee (f := 50) rfl ?_); refine goesL_ (some 68) rfl rfl Try.func50 (by kernel_rfl) rfl #[.slice A0 l0.length c0, .int .i64 t341, .int .i64 1] rfl (by (try simp only [List.map_toArray, List.map_cons, List.map_nil]); first | done | rfl | (simp only [List.length_drop, List.length_take]; rfl)) ?_; (with_reducible refine (waybillref1_Text.calls k2 (fun k_ => k_ < w.heap.size) _ _ l0 t341 1 t344 t347 true _ ?side1 A17.out).mono ?_); (case side1 => exact Kd.V_mk HC0.out (Kd.F_below (Kd.C_F (Kd.heap_int .u8) HR0.out) (by repeat (first | (with_reducible first | exact HB.out | apply below_alloc | apply pw_below_drewN | apply below_drew1 | refine below_set ?_ GE332.out | refine below_set ?_ GE337.out | refine below_set ?_ GE343.out) | exact HB.out)))); rintro e w30 ⟨v345, rfl, ho0, hb⟩; refine ⟨_, rfl, ?_⟩; have n0_ := Aside0.mk (Kd.R_below (by exact HO_338001.out) hb); have n1_ := Aside0.mk (Kd.V_below (by exact HO340.out) hb); have n2_ := Aside0.mk (Kd.V_lower (Kd.V_mono (ok' := fun k_ => some k_ ≠ (u338001 : Value).ownBlock ∧ k_ ≠ gb332 ∧ k_ ≠ gb337 ∧ k_ ≠ gb343) ho0 (fun k_ hk_ => ⟨Or.elim hk_ (fun hs_ => fun e_ => Nat.not_le.2 hs_ (Kd.R_base HO_338001.out k_ e_.symm)) (fun hn_ => (Kd.fresh' (Kd.R_lt (by exact HO_338001.out)) k_ hn_)), Or.elim hk_ (fun hs_ => fun e_ => Nat.not_le.2 hs_ (by rw [e_]; exact GW332.out)) (fun hn_ => (Kd.freshB (g := gb332) (o := .cells #[.bool x333000_2, .slice none 0 0] 44 (0, 0)) (by exact BK332.out) k_ hn_)), Or.elim hk_ (fun hs_ => fun e_ => Nat.not_le.2 hs_ (by rw [e_]; exact GW337.out)) (fun hn_ => (Kd.freshB (g := gb337) (o := .cells #[.bool (t333 == 1), u338001] 44 (0, 0)) (by exact BK337.out) k_ hn_)), Or.elim hk_ (fun hs_ => fun e_ => Nat.not_le.2 hs_ (by rw [e_]; exact GW343.out)) (fun hn_ => (Kd.freshB (g := gb343) (o := .cells #[.string (strOfNums t338), .string (⟨#[]⟩ : ByteArray), .int .i64 0] 41 (0, 0)) (by exact BK343.out) k_ hn_))⟩)) (below_size (by repeat (first | (with_reducible first | exact HB.out | apply below_alloc | apply pw_below_drewN | apply below_drew1 | refine below_set ?_ GE332.out | refine below_set ?_ GE337.out | refine below_set ?_ GE343.out) | exact HB.out)))); have n3_ := Aside0.mk (blk_below (g := gb332) (o := .cells #[.bool x333000_2, .slice none 0 0] 44 (0, 0)) (by exact BK332.out) hb); have n4_ := Aside0.mk (blk_below (g := gb337) (o := .cells #[.bool (t333 == 1), u338001] 44 (0, 0)) (by exact BK337.out) hb); have n5_ := Aside0.mk (blk_below (g := gb343) (o := .cells #[.string (strOfNums t338), .string (⟨#[]⟩ : ByteArray), .int .i64 0] 41 (0, 0)) (by exact BK343.out) hb); have n6_ := Aside0.mk (below_step (by repeat (first | (with_reducible first | exact HB.out | apply below_alloc | apply pw_below_drewN | apply below_drew1 | refine below_set ?_ GE332.out | refine below_set ?_ GE337.out | refine below_set ?_ GE343.out) | exact HB.out)) hb); clear HO_338001; clear HO340; clear BK332; clear BK337; clear BK343; clear HB; have HO_338001 := n0_; have HO340 := n1_; have HO346 := n2_; have BK332 := n3_; have BK337 := n4_; have BK343 := n5_; have HB := n6_; clear n0_ n1_ n2_ n3_ n4_ n5_ n6_; (try clear hb); (try clear hb2); (try clear hk); (try clear hi); (try clear hge); (try clear ho0); obtain ⟨Ao31, co31, eo31⟩ := Kd.V_slice HO346.out; subst eo31; have hcv32 := Kd.C_string (P := Try.prog) (A := Ao31) (c := co31) Try.underlying25 Try.underlying5 Try.underlying9 ((Kd.V_reads' (by exact HO346.out)).2.2); have hcz33_0 : w30.cell? ⟨gb343, 0, none⟩ = some (.string (strOfNums t338)) := (blk_cell BK343.out 0).trans rfl; have hcz33_1 : w30.cell? ⟨gb343, 1, none⟩ = some (.string (⟨#[]⟩ : ByteArray)) := (blk_cell BK343.out 1).trans rfl; have hcz33_2 : w30.cell? ⟨gb343, 2, none⟩ = some (.int .i64 0) := (blk_cell BK343.out 2).trans rfl; have hfz33_0 := blk_frozen BK343.out 0; have hfz33_1 := blk_frozen BK343.out 1; have hfz33_2 := blk_frozen BK343.out 2; have hcz34_0 : w30.cell? ⟨gb337, 0, none⟩ = some (.bool (t333 == 1)) := (blk_cell BK337.out 0).trans rfl; have hcz34_1 : w30.cell? ⟨gb337, 1, none⟩ = some (u338001) := (blk_cell BK337.out 1).trans rfl; have hfz34_0 := blk_frozen BK337.out 0; have hfz34_1 := blk_frozen BK337.out 1) | ((with_reducible refine gate_builtin (b := .append) (xs := #[.tmp 94, .tmp 96]) rfl ?_); at_builtin; refine Kd.R_append k41 (w0 := w) w.heap.size rfl (.tmp 94) (.tmp 96) 42 41 (.agg #[(.string ⟨#[]⟩), (.string ⟨#[]⟩), (.int .i64 0)]) 40 rfl Try.underlying42 info41 rfl (by decide) (by omega) u338001 x338001_2 (⟨strOfNums t338, strOfNums t344, 0⟩ : S41) [.string (strOfNums t338), .string (strOfNums t344), .int .i64 0] (fun k_ => k_ ≠ gb343) (fun _ => False) rfl (by first | (go_simp; done) | (go_simp; rfl)) ?aP (fun _ hk => hk.elim) ?aF ?aO ?aB ?aS ?aL ?_; (case aP => exact k41_mkM _ _ _ (⟨strOfNums t338, strOfNums t344, 0⟩ : S41)); (case aB => exact (by repeat (first | (with_reducible first | exact HB.out | apply below_alloc | apply pw_below_drewN | apply below_drew1 | refine below_set ?_ GE332.out | refine below_set ?_ GE337.out | refine below_set ?_ GE343.out) | exact HB.out))); (case aF => exact (fun k_ hk => Kd.freshB (g := gb343) (o := .cells #[.string (strOfNums t338), .string (strOfNums t344), .int .i64 0] 41 (0, 0)) (by refine blk_put (cs := #[.string (strOfNums t338), .string (⟨#[]⟩ : ByteArray), .int .i64 0]) ?_ 1 _ rfl; exact BK343.out) k_ hk)); (case aO => exact (by exact Kd.R_mono (Kd.R_far (p := ⟨gb343, 1, none⟩) (Kd.R_mono HO_338001.out (fun k_ hk => (⟨hk, hk⟩ : _ ∧ k_ ≠ gb343))) (fun _ hk => hk.2) (.string (strOfNums t344))) (fun _ hk => hk.1))); (case aS => exact (below_size (by repeat (first | (with_reducible first | exact HB.out | apply below_alloc | apply pw_below_drewN | apply below_drew1 | refine below_set ?_ GE332.out | refine below_set ?_ GE337.out | refine below_set ?_ GE343.out) | exact HB.out)))); (case aL => have := LMc19.out; omega); intro v350 w35 ho hb hg hat; rw [← Ny349.out] at ho; have n0_ := Aside0.mk (blk_grown (g := gb332) (o := .cells #[.bool x333000_2, .slice none 0 0] 44 (0, 0)) (by refine blk_far ?_ NB332_343.out _; exact BK332.out) hg (Kd.R_ne HO_338001.out BK332.out (by decide))); have n1_ := Aside0.mk (blk_grown (g := gb337) (o := .cells #[.bool (t333 == 1), u338001] 44 (0, 0)) (by refine blk_far ?_ NB337_343.out _; exact BK337.out) hg (Kd.R_ne HO_338001.out BK337.out (by decide))); have n2_ := Aside0.mk (Kd.V_afterv (ok := (fun k_ => k_ ≠ gb332 ∧ k_ ≠ gb337 ∧ k_ ≠ gb343)) (by exact Kd.V_mono (Kd.V_far (p := ⟨gb343, 1, none⟩) (Kd.V_mono HO340.out (fun k_ hk => (⟨hk, hk.2.2.2⟩ : _ ∧ k_ ≠ gb343))) (fun _ hk => hk.2) (.string (strOfNums t344))) (fun _ hk => ⟨⟨hk.1.2.1, ⟨hk.1.2.2.1, hk.1.2.2.2⟩⟩, hk.1.1⟩)) hg hat); have n3_ := Aside0.mk (blk_grown (g := gb343) (o := .cells #[.string (strOfNums t338), .string (strOfNums t344), .int .i64 0] 41 (0, 0)) (by refine blk_put (cs := #[.string (strOfNums t338), .string (⟨#[]⟩ : ByteArray), .int .i64 0]) ?_ 1 _ rfl; exact BK343.out) hg (Kd.R_away HO_338001.out (fun _ hk => hk))); have n4_ := Aside0.mk (Kd.V_afterv (ok := (fun k_ => k_ ≠ gb332 ∧ k_ ≠ gb337 ∧ k_ ≠ gb343)) (by exact Kd.V_mono (Kd.V_far (p := ⟨gb343, 1, none⟩) (Kd.V_mono HO346.out (fun k_ hk => (⟨hk, hk.2.2.2⟩ : _ ∧ k_ ≠ gb343))) (fun _ hk => hk.2) (.string (strOfNums t344))) (fun _ hk => ⟨⟨hk.1.2.1, ⟨hk.1.2.2.1, hk.1.2.2.2⟩⟩, hk.1.1⟩)) hg hat); have n5_ := Aside0.mk (hb); have n6_ := Aside0.mk (ho); clear BK332; clear BK337; clear HO340; clear BK343; clear HO346; clear HB; clear HO_338001; have BK332 := n0_; have BK337 := n1_; have HO340 := n2_; have BK343 := n3_; have HO346 := n4_; have HB := n5_; have HO351 := n6_; clear n0_ n1_ n2_ n3_ n4_ n5_ n6_; clear ho hb hg hat; obtain ⟨Ao36, co36, eo36⟩ := Kd.R_slice HO351.out; subst eo36; have hcz37_0 : w35.cell? ⟨gb337, 0, none⟩ = some (.bool (t333 == 1)) := (blk_cell BK337.out 0).trans rfl; have hcz37_1 : w35.cell? ⟨gb337, 1, none⟩ = some (u338001) := (blk_cell BK337.out 1).trans rfl; have hfz37_0 := blk_frozen BK337.out 0; have hfz37_1 := blk_frozen BK337.out 1))
           refine Handed.intro k2 ?measure ?_
           rotate_left
           go_step
           (repeat apply Exists.intro)
           refine ⟨?rel, ?fr⟩
           case fr => first | rfl | (rw [c16b0]; first | done | rfl)
           case measure => have := HJ3.out; have := HK2.out; omega
           case rel => exact ⟨(t347), (IntKind.u64.wrap (x10_2 + 1)), (x333000_2), (y349), (.slice Ao36 y349.length co36), (by first | rfl | (simp; done) | (simp [*]; done)), (by first | rfl | (simp; done) | (simp [*]; done)), H', ⟨by have := HJ3.out; have := HK2.out; omega⟩, ⟨by exact Kd.R_mono (Kd.R_far (p := ⟨gb337, 1, none⟩) (Kd.R_types HO351.out BK337.out (by decide)) (fun _ hk => hk.2) (.slice Ao36 y349.length co36)) (fun _ hk => trivial)⟩, ⟨by refine blk_far ?_ NB332_337.out _; exact BK332.out⟩, ⟨by refine blk_put (cs := #[.bool (t333 == 1), u338001]) ?_ 1 _ rfl; exact BK337.out⟩, ⟨by repeat (first | (with_reducible first | exact HB.out | apply below_alloc | apply pw_below_drewN | apply below_drew1 | refine below_set ?_ GE332.out | refine below_set ?_ GE337.out | refine below_set ?_ GE343.out) | exact HB.out)⟩⟩
          ·
           rw [if_neg c19] at H
           exact absurd H (by simp)
         ·
          replace c18 := Bool.eq_false_iff.mpr c18
          subst c18
          have H1 : (some (false, ([] : List (S41)), false)) = some (r1, r2, r3) := by rw [if_neg (show ¬ (false = true) by decide)] at H; exact H
          clear H
          have H := H1
          clear H1
          simp only [Option.some.injEq, Prod.mk.injEq] at H
          obtain ⟨rfl, rfl, rfl⟩ := H
          go_wp2_with (first | ((with_reducible refine gate_callee (f := 50) rfl ?_); refine goesL_ (some 53) rfl rfl Try.func50 (by kernel_rfl) rfl #[.slice A0 l0.length c0, .int .i64 x9_2, .int .i64 1] rfl (by (try simp only [List.map_toArray, List.map_cons, List.map_nil]); first | done | rfl | (simp only [List.length_drop, List.length_take]; rfl)) ?_; (with_reducible refine (waybillref1_Text.calls k2 (fun k_ => k_ < w.heap.size) _ _ l0 x9_2 1 t338 t341 true _ ?side1 A14.out).mono ?_); (case side1 => exact Kd.V_mk HC0.out (Kd.F_below (Kd.C_F (Kd.heap_int .u8) HR0.out) (by repeat (first | (with_reducible first | exact HB.out | apply below_alloc | apply pw_below_drewN | apply below_drew1 | refine below_set ?_ GE332.out | refine below_set ?_ GE337.out) | exact HB.out)))); rintro e w38 ⟨v339, rfl, ho0, hb⟩; refine ⟨_, rfl, ?_⟩; have n0_ := Aside0.mk (Kd.R_below (by exact HO_338001.out) hb); have n1_ := Aside0.mk (Kd.V_lower (Kd.V_mono (ok' := fun k_ => some k_ ≠ (u338001 : Value).ownBlock ∧ k_ ≠ gb332 ∧ k_ ≠ gb337) ho0 (fun k_ hk_ => ⟨Or.elim hk_ (fun hs_ => fun e_ => Nat.not_le.2 hs_ (Kd.R_base HO_338001.out k_ e_.symm)) (fun hn_ => (Kd.fresh' (Kd.R_lt (by exact HO_338001.out)) k_ hn_)), Or.elim hk_ (fun hs_ => fun e_ => Nat.not_le.2 hs_ (by rw [e_]; exact GW332.out)) (fun hn_ => (Kd.freshB (g := gb332) (o := .cells #[.bool x333000_2, .slice none 0 0] 44 (0, 0)) (by exact BK332.out) k_ hn_)), Or.elim hk_ (fun hs_ => fun e_ => Nat.not_le.2 hs_ (by rw [e_]; exact GW337.out)) (fun hn_ => (Kd.freshB (g := gb337) (o := .cells #[.bool (t333 == 1), u338001] 44 (0, 0)) (by exact BK337.out) k_ hn_))⟩)) (below_size (by repeat (first | (with_reducible first | exact HB.out | apply below_alloc | apply pw_below_drewN | apply below_drew1 | refine below_set ?_ GE332.out | refine below_set ?_ GE337.out) | exact HB.out)))); have n2_ := Aside0.mk (blk_below (g := gb332) (o := .cells #[.bool x333000_2, .slice none 0 0] 44 (0, 0)) (by exact BK332.out) hb); have n3_ := Aside0.mk (blk_below (g := gb337) (o := .cells #[.bool (t333 == 1), u338001] 44 (0, 0)) (by exact BK337.out) hb); have n4_ := Aside0.mk (below_step (by repeat (first | (with_reducible first | exact HB.out | apply below_alloc | apply pw_below_drewN | apply below_drew1 | refine below_set ?_ GE332.out | refine below_set ?_ GE337.out) | exact HB.out)) hb); clear HO_338001; clear BK332; clear BK337; clear HB; have HO_338001 := n0_; have HO340 := n1_; have BK332 := n2_; have BK337 := n3_; have HB := n4_; clear n0_ n1_ n2_ n3_ n4_; (try clear hb); (try clear hb2); (try clear hk); (try clear hi); (try clear hge); (try clear ho0); obtain ⟨Ao39, co39, eo39⟩ := Kd.V_slice HO340.out; subst eo39; have hcv40 := Kd.C_string (P := Try.prog) (A := Ao39) (c := co39) Try.underlying25 Try.underlying5 Try.underlying9 ((Kd.V_reads' (by exact HO340.out)).2.2)) | ((with_reducible refine gate_dst (N := 14) rfl ?_); refine box_event ?hg (N := 14) ?hd (cs := #[.string (⟨#[]⟩ : ByteArray), .string (⟨#[]⟩ : ByteArray), .int .i64 0]) (t := 41) ?hr ?_; (case hd => rfl); (case hg => rfl); (case hr => first | (go_simp; done) | (go_simp; rfl)); intro gb343 hg w41 hbox hb; have n0_ := Aside0.mk (Kd.R_below (Kd.R_elderB (by exact HO_338001.out) gb343 (Nat.le_of_eq hg.symm)) hb); have n1_ := Aside0.mk (Kd.V_below (Kd.V_elderB (by exact HO340.out) gb343 (Nat.le_of_eq hg.symm)) hb); have n2_ := Aside0.mk (blk_below (g := gb332) (o := .cells #[.bool x333000_2, .slice none 0 0] 44 (0, 0)) (by exact BK332.out) hb); have n3_ := Aside0.mk (blk_below (g := gb337) (o := .cells #[.bool (t333 == 1), u338001] 44 (0, 0)) (by exact BK337.out) hb); have n4_ := Aside0.mk (below_step (by repeat (first | (with_reducible first | exact HB.out | apply below_alloc | apply pw_below_drewN | apply below_drew1 | refine below_set ?_ GE332.out | refine below_set ?_ GE337.out) | exact HB.out)) hb); have n5_ := Aside0.mk (hbox); have n6_ := Aside0.mk ((by rw [hg]; exact (below_size (by repeat (first | (with_reducible first | exact HB.out | apply below_alloc | apply pw_below_drewN | apply below_drew1 | refine below_set ?_ GE332.out | refine below_set ?_ GE337.out) | exact HB.out))) : w.heap.size ≤ gb343)); have n7_ := Aside0.mk ((by rw [hg]; exact (below_size (by repeat (first | (with_reducible first | exact HB.out | apply below_alloc | apply pw_below_drewN | apply below_drew1 | refine below_set ?_ GE332.out | refine below_set ?_ GE337.out) | exact HB.out))) : w.heap.size ≤ gb343)); have n8_ := Aside0.mk ((by rw [hg]; exact Nat.ne_of_lt (blk_lt (g := gb332) (o := .cells #[.bool x333000_2, .slice none 0 0] 44 (0, 0)) (by exact BK332.out)) : gb332 ≠ gb343)); have n9_ := Aside0.mk ((by rw [hg]; exact Nat.ne_of_gt (blk_lt (g := gb332) (o := .cells #[.bool x333000_2, .slice none 0 0] 44 (0, 0)) (by exact BK332.out)) : gb343 ≠ gb332)); have n10_ := Aside0.mk ((by rw [hg]; exact Nat.ne_of_lt (blk_lt (g := gb337) (o := .cells #[.bool (t333 == 1), u338001] 44 (0, 0)) (by exact BK337.out)) : gb337 ≠ gb343)); have n11_ := Aside0.mk ((by rw [hg]; exact Nat.ne_of_gt (blk_lt (g := gb337) (o := .cells #[.bool (t333 == 1), u338001] 44 (0, 0)) (by exact BK337.out)) : gb343 ≠ gb337)); clear HO_338001; clear HO340; clear BK332; clear BK337; clear HB; have HO_338001 := n0_; have HO340 := n1_; have BK332 := n2_; have BK337 := n3_; have HB := n4_; have BK343 := n5_; have GW343 := n6_; have GE343 := n7_; have NB332_343 := n8_; have NB343_332 := n9_; have NB337_343 := n10_; have NB343_337 := n11_; clear n0_ n1_ n2_ n3_ n4_ n5_ n6_ n7_ n8_ n9_ n10_ n11_; clear hb hbox hg; have hnb42 := NB343_332.out; have hnc42 := NB332_343.out; have hnb43 := NB343_337.out; have hnc43 := NB337_343.out; have hcz44_0 : w41.cell? ⟨gb343, 0, none⟩ = some (.string (⟨#[]⟩ : ByteArray)) := (blk_cell BK343.out 0).trans rfl; have hcz44_1 : w41.cell? ⟨gb343, 1, none⟩ = some (.string (⟨#[]⟩ : ByteArray)) := (blk_cell BK343.out 1).trans rfl; have hcz44_2 : w41.cell? ⟨gb343, 2, none⟩ = some (.int .i64 0) := (blk_cell BK343.out 2).trans rfl; have hfz44_0 := blk_frozen BK343.out 0; have hfz44_1 := blk_frozen BK343.out 1; have hfz44_2 := blk_frozen BK343.out 2) | ((with_reducible refine gate_store (t := 41) (p := 14) rfl ?_); refine store_event (t := 41) (p := 14) (v := ?vo_w45) (w1 := (((w41.setCell ⟨gb343, 0, none⟩ (.string (strOfNums t338))).setCell ⟨gb343, 1, none⟩ (.string (⟨#[]⟩ : ByteArray))).setCell ⟨gb343, 2, none⟩ (.int .i64 0))) ?hg ?ho ?hn ?hr ?_; (case ho => rfl); (case hg => rfl); (case hn => rfl); (case hr => first | (go_simp; done) | (go_simp; rfl)); intro w45 hw; have n0_ : Aside0 (Kd.R k41 41 w45 w.heap.size (fun k_ => k_ ≠ gb343) u338001 x338001_2) := ⟨(by rw [hw]; exact (by exact Kd.R_mono (Kd.R_far (p := ⟨gb343, 2, none⟩) (Kd.R_far (p := ⟨gb343, 1, none⟩) (Kd.R_far (p := ⟨gb343, 0, none⟩) (Kd.R_mono HO_338001.out (fun k_ hk => (⟨hk, hk.2⟩ : _ ∧ k_ ≠ gb343))) (fun _ hk => hk.2) (.string (strOfNums t338))) (fun _ hk => hk.2) (.string (⟨#[]⟩ : ByteArray))) (fun _ hk => hk.2) (.int .i64 0)) (fun _ hk => hk.1.2)))⟩; have n1_ : Aside0 (Kd.V (Kd.int .u8) 5 w45 w.heap.size (fun k_ => some k_ ≠ (u338001 : Value).ownBlock ∧ k_ ≠ gb332 ∧ k_ ≠ gb337 ∧ k_ ≠ gb343) (.slice Ao39 t338.length co39) t338) := ⟨(by rw [hw]; exact (by exact Kd.V_mono (Kd.V_far (p := ⟨gb343, 2, none⟩) (Kd.V_far (p := ⟨gb343, 1, none⟩) (Kd.V_far (p := ⟨gb343, 0, none⟩) (Kd.V_mono HO340.out (fun k_ hk => (⟨hk, hk.2⟩ : _ ∧ k_ ≠ gb343))) (fun _ hk => hk.2) (.string (strOfNums t338))) (fun _ hk => hk.2) (.string (⟨#[]⟩ : ByteArray))) (fun _ hk => hk.2) (.int .i64 0)) (fun _ hk => ⟨hk.1.1.1, ⟨hk.1.1.2.1, ⟨hk.1.1.2.2, hk.1.2⟩⟩⟩)))⟩; have n2_ : Aside0 (w45.heap[gb332]? = some (.cells #[.bool x333000_2, .slice none 0 0] 44 (0, 0))) := ⟨(by rw [hw]; exact (by refine blk_far ?_ NB332_343.out _; refine blk_far ?_ NB332_343.out _; refine blk_far ?_ NB332_343.out _; exact BK332.out))⟩; have n3_ : Aside0 (w45.heap[gb337]? = some (.cells #[.bool (t333 == 1), u338001] 44 (0, 0))) := ⟨(by rw [hw]; exact (by refine blk_far ?_ NB337_343.out _; refine blk_far ?_ NB337_343.out _; refine blk_far ?_ NB337_343.out _; exact BK337.out))⟩; have n4_ : Aside0 (w45.heap[gb343]? = some (.cells #[.string (strOfNums t338), .string (⟨#[]⟩ : ByteArray), .int .i64 0] 41 (0, 0))) := ⟨(by rw [hw]; exact (by refine blk_put (cs := #[.string (strOfNums t338), .string (⟨#[]⟩ : ByteArray), .int .i64 0]) ?_ 2 _ rfl; refine blk_put (cs := #[.string (strOfNums t338), .string (⟨#[]⟩ : ByteArray), .int .i64 0]) ?_ 1 _ rfl; refine blk_put (cs := #[.string (⟨#[]⟩ : ByteArray), .string (⟨#[]⟩ : ByteArray), .int .i64 0]) ?_ 0 _ rfl; exact BK343.out))⟩; have n5_ : Aside0 (Below w.heap.size w w45) := ⟨(by rw [hw]; exact (by repeat (first | (with_reducible first | exact HB.out | apply below_alloc | apply pw_below_drewN | apply below_drew1 | refine below_set ?_ GE332.out | refine below_set ?_ GE337.out | refine below_set ?_ GE343.out) | exact HB.out)))⟩; clear hw; clear HO_338001; clear HO340; clear BK332; clear BK337; clear BK343; clear HB; have HO_338001 := n0_; have HO340 := n1_; have BK332 := n2_; have BK337 := n3_; have BK343 := n4_; have HB := n5_; clear n0_ n1_ n2_ n3_ n4_ n5_; have hnb46 := NB337_332.out; have hnc46 := NB332_337.out; have hcz47_0 : w45.cell? ⟨gb337, 0, none⟩ = some (.bool (t333 == 1)) := (blk_cell BK337.out 0).trans rfl; have hcz47_1 : w45.cell? ⟨gb337, 1, none⟩ = some (u338001) := (blk_cell BK337.out 1).trans rfl; have hfz47_0 := blk_frozen BK337.out 0; have hfz47_1 := blk_frozen BK337.out 1) | ((with_reducible refine gate_callee (f := 50) rfl ?_); refine goesL_ (some 68) rfl rfl Try.func50 (by kernel_rfl) rfl #[.slice A0 l0.length c0, .int .i64 t341, .int .i64 1] rfl (by (try simp only [List.map_toArray, List.map_cons, List.map_nil]); first | done | rfl | (simp only [List.length_drop, List.length_take]; rfl)) ?_; (with_reducible refine (waybillref1_Text.calls k2 (fun k_ => k_ < w.heap.size) _ _ l0 t341 1 t344 t347 false _ ?side1 A17.out).mono ?_); (case side1 => exact Kd.V_mk HC0.out (Kd.F_below (Kd.C_F (Kd.heap_int .u8) HR0.out) (by repeat (first | (with_reducible first | exact HB.out | apply below_alloc | apply pw_below_drewN | apply below_drew1 | refine below_set ?_ GE332.out | refine below_set ?_ GE337.out | refine below_set ?_ GE343.out) | exact HB.out)))); rintro e w48 ⟨v345, rfl, ho0, hb⟩; refine ⟨_, rfl, ?_⟩; have n0_ := Aside0.mk (Kd.R_below (by exact HO_338001.out) hb); have n1_ := Aside0.mk (Kd.V_below (by exact HO340.out) hb); have n2_ := Aside0.mk (Kd.V_lower (Kd.V_mono (ok' := fun k_ => some k_ ≠ (u338001 : Value).ownBlock ∧ k_ ≠ gb332 ∧ k_ ≠ gb337 ∧ k_ ≠ gb343) ho0 (fun k_ hk_ => ⟨Or.elim hk_ (fun hs_ => fun e_ => Nat.not_le.2 hs_ (Kd.R_base HO_338001.out k_ e_.symm)) (fun hn_ => (Kd.fresh' (Kd.R_lt (by exact HO_338001.out)) k_ hn_)), Or.elim hk_ (fun hs_ => fun e_ => Nat.not_le.2 hs_ (by rw [e_]; exact GW332.out)) (fun hn_ => (Kd.freshB (g := gb332) (o := .cells #[.bool x333000_2, .slice none 0 0] 44 (0, 0)) (by exact BK332.out) k_ hn_)), Or.elim hk_ (fun hs_ => fun e_ => Nat.not_le.2 hs_ (by rw [e_]; exact GW337.out)) (fun hn_ => (Kd.freshB (g := gb337) (o := .cells #[.bool (t333 == 1), u338001] 44 (0, 0)) (by exact BK337.out) k_ hn_)), Or.elim hk_ (fun hs_ => fun e_ => Nat.not_le.2 hs_ (by rw [e_]; exact GW343.out)) (fun hn_ => (Kd.freshB (g := gb343) (o := .cells #[.string (strOfNums t338), .string (⟨#[]⟩ : ByteArray), .int .i64 0] 41 (0, 0)) (by exact BK343.out) k_ hn_))⟩)) (below_size (by repeat (first | (with_reducible first | exact HB.out | apply below_alloc | apply pw_below_drewN | apply below_drew1 | refine below_set ?_ GE332.out | refine below_set ?_ GE337.out | refine below_set ?_ GE343.out) | exact HB.out)))); have n3_ := Aside0.mk (blk_below (g := gb332) (o := .cells #[.bool x333000_2, .slice none 0 0] 44 (0, 0)) (by exact BK332.out) hb); have n4_ := Aside0.mk (blk_below (g := gb337) (o := .cells #[.bool (t333 == 1), u338001] 44 (0, 0)) (by exact BK337.out) hb); have n5_ := Aside0.mk (blk_below (g := gb343) (o := .cells #[.string (strOfNums t338), .string (⟨#[]⟩ : ByteArray), .int .i64 0] 41 (0, 0)) (by exact BK343.out) hb); have n6_ := Aside0.mk (below_step (by repeat (first | (with_reducible first | exact HB.out | apply below_alloc | apply pw_below_drewN | apply below_drew1 | refine below_set ?_ GE332.out | refine below_set ?_ GE337.out | refine below_set ?_ GE343.out) | exact HB.out)) hb); clear HO_338001; clear HO340; clear BK332; clear BK337; clear BK343; clear HB; have HO_338001 := n0_; have HO340 := n1_; have HO346 := n2_; have BK332 := n3_; have BK337 := n4_; have BK343 := n5_; have HB := n6_; clear n0_ n1_ n2_ n3_ n4_ n5_ n6_; (try clear hb); (try clear hb2); (try clear hk); (try clear hi); (try clear hge); (try clear ho0); have hcz49_0 : w48.cell? ⟨gb332, 0, none⟩ = some (.bool x333000_2) := (blk_cell BK332.out 0).trans rfl; have hcz49_1 : w48.cell? ⟨gb332, 1, none⟩ = some (.slice none 0 0) := (blk_cell BK332.out 1).trans rfl; have hfz49_0 := blk_frozen BK332.out 0; have hfz49_1 := blk_frozen BK332.out 1))
          refine bodyPost_ret (results_ct rfl _ _ gb332 44 #[.bool false, .slice none 0 0] (0, 0) _ rfl (by refine blk_put (cs := #[.bool false, .slice none 0 0]) ?_ 1 _ rfl; refine blk_put (cs := #[.bool x333000_2, .slice none 0 0]) ?_ 0 _ rfl; exact BK332.out) Try.underlying44 rfl (by kernel_rfl)) rfl ?_
          exact ⟨_, by first | rfl | (simp [errW_none, errW_some]; done) | (simp [errW_none, errW_some]; rfl) | (simp [*, errW_none, errW_some]; done) | (simp [*, errW_none, errW_some]; rfl), by first | exact Kd.R_nil _ _ _ _ _ | exact Kd.N_nil _ _ _ _ _ | exact Kd.V_nil _ _ _ _ _ | exact Kd.Q_nil _ _ _ _ _ | exact Kd.S_nil _ _ _ _ _, by repeat (first | (with_reducible first | exact HB.out | apply below_alloc | apply pw_below_drewN | apply below_drew1 | refine below_set ?_ GE332.out | refine below_set ?_ GE337.out | refine below_set ?_ GE343.out) | exact HB.out)⟩
        ·
         rw [if_neg c16] at H
         have c16b0 : (t333 == 1) = false := by simpa using c16
         (try (have c16b1 : decide (t333 = 1) = false := by simpa using c16))
         (try (have c16b2 : (t333 == 1) = false := by simpa using c16))
         (try (have c16b3 : ¬ (t333 = 1) := by simpa using c16))
         clear c16
         replace H := Option.bind_eq_some_iff.mp H
         obtain ⟨⟨t352, t353⟩, A500, H⟩ := H
         replace H : (if t353 = true then (if x338001_2.length < 3518437208883 then (waybillref7_NodeOf.l0 k2 l0 t335 (wrap64 (t341 + 4)) (IntKind.u64.wrap (x10_2 + 1)) (t333 == 1) (x338001_2 ++ [(⟨strOfNums t338, (⟨#[]⟩ : ByteArray), wrap64 (t352)⟩ : S41)])) else (none)) else (some (false, ([] : List (S41)), false))) = some (r1, r2, r3) := H
         have A50 := Aside0.mk A500
         clear A500
         by_cases c51 : t353 = true
         ·
          subst c51
          have H1 : (if x338001_2.length < 3518437208883 then (waybillref7_NodeOf.l0 k2 l0 t335 (wrap64 (t341 + 4)) (IntKind.u64.wrap (x10_2 + 1)) (t333 == 1) (x338001_2 ++ [(⟨strOfNums t338, (⟨#[]⟩ : ByteArray), wrap64 (t352)⟩ : S41)])) else (none)) = some (r1, r2, r3) := by rw [if_pos rfl] at H; exact H
          clear H
          have H := H1
          clear H1
          by_cases c52 : x338001_2.length < 3518437208883
          ·
           rw [if_pos c52] at H
           have LMc52 := Aside0.mk c52
           clear c52
           obtain ⟨y354, hy354⟩ : ∃ y_ : List (S41), y_ = (x338001_2 ++ [(⟨strOfNums t338, (⟨#[]⟩ : ByteArray), wrap64 (t352)⟩ : S41)]) := ⟨_, rfl⟩
           replace H : (waybillref7_NodeOf.l0 k2 l0 t335 (wrap64 (t341 + 4)) (IntKind.u64.wrap (x10_2 + 1)) (t333 == 1) y354) = some (r1, r2, r3) := by first | (rw [hy354]; with_reducible exact H) | (have H2_ := (Option.bind_some _ _).symm.trans H; rw [hy354]; with_reducible exact H2_) | (have H2_ := (Option.bind_some _ _).symm.trans H; with_reducible exact H2_) | with_reducible exact H | (rw [hy354]; exact H) | exact H
           have Ny354 := Aside0.mk hy354
           clear hy354
           have H' := Aside0.mk H
           clear H
           go_wp2_with (first | ((with_reducible refine gate_callee (f := 50) rfl ?_); refine goesL_ (some 53) rfl rfl Try.func50 (by kernel_rfl) rfl #[.slice A0 l0.length c0, .int .i64 x9_2, .int .i64 1] rfl (by (try simp only [List.map_toArray, List.map_cons, List.map_nil]); first | done | rfl | (simp only [List.length_drop, List.length_take]; rfl)) ?_; (with_reducible refine (waybillref1_Text.calls k2 (fun k_ => k_ < w.heap.size) _ _ l0 x9_2 1 t338 t341 true _ ?side1 A14.out).mono ?_); (case side1 => exact Kd.V_mk HC0.out (Kd.F_below (Kd.C_F (Kd.heap_int .u8) HR0.out) (by repeat (first | (with_reducible first | exact HB.out | apply below_alloc | apply pw_below_drewN | apply below_drew1 | refine below_set ?_ GE332.out | refine below_set ?_ GE337.out) | exact HB.out)))); rintro e w53 ⟨v339, rfl, ho0, hb⟩; refine ⟨_, rfl, ?_⟩; have n0_ := Aside0.mk (Kd.R_below (by exact HO_338001.out) hb); have n1_ := Aside0.mk (Kd.V_lower (Kd.V_mono (ok' := fun k_ => some k_ ≠ (u338001 : Value).ownBlock ∧ k_ ≠ gb332 ∧ k_ ≠ gb337) ho0 (fun k_ hk_ => ⟨Or.elim hk_ (fun hs_ => fun e_ => Nat.not_le.2 hs_ (Kd.R_base HO_338001.out k_ e_.symm)) (fun hn_ => (Kd.fresh' (Kd.R_lt (by exact HO_338001.out)) k_ hn_)), Or.elim hk_ (fun hs_ => fun e_ => Nat.not_le.2 hs_ (by rw [e_]; exact GW332.out)) (fun hn_ => (Kd.freshB (g := gb332) (o := .cells #[.bool x333000_2, .slice none 0 0] 44 (0, 0)) (by exact BK332.out) k_ hn_)), Or.elim hk_ (fun hs_ => fun e_ => Nat.not_le.2 hs_ (by rw [e_]; exact GW337.out)) (fun hn_ => (Kd.freshB (g := gb337) (o := .cells #[.bool (t333 == 1), u338001] 44 (0, 0)) (by exact BK337.out) k_ hn_))⟩)) (below_size (by repeat (first | (with_reducible first | exact HB.out | apply below_alloc | apply pw_below_drewN | apply below_drew1 | refine below_set ?_ GE332.out | refine below_set ?_ GE337.out) | exact HB.out)))); have n2_ := Aside0.mk (blk_below (g := gb332) (o := .cells #[.bool x333000_2, .slice none 0 0] 44 (0, 0)) (by exact BK332.out) hb); have n3_ := Aside0.mk (blk_below (g := gb337) (o := .cells #[.bool (t333 == 1), u338001] 44 (0, 0)) (by exact BK337.out) hb); have n4_ := Aside0.mk (below_step (by repeat (first | (with_reducible first | exact HB.out | apply below_alloc | apply pw_below_drewN | apply below_drew1 | refine below_set ?_ GE332.out | refine below_set ?_ GE337.out) | exact HB.out)) hb); clear HO_338001; clear BK332; clear BK337; clear HB; have HO_338001 := n0_; have HO340 := n1_; have BK332 := n2_; have BK337 := n3_; have HB := n4_; clear n0_ n1_ n2_ n3_ n4_; (try clear hb); (try clear hb2); (try clear hk); (try clear hi); (try clear hge); (try clear ho0); obtain ⟨Ao54, co54, eo54⟩ := Kd.V_slice HO340.out; subst eo54; have hcv55 := Kd.C_string (P := Try.prog) (A := Ao54) (c := co54) Try.underlying25 Try.underlying5 Try.underlying9 ((Kd.V_reads' (by exact HO340.out)).2.2)) | ((with_reducible refine gate_dst (N := 14) rfl ?_); refine box_event ?hg (N := 14) ?hd (cs := #[.string (⟨#[]⟩ : ByteArray), .string (⟨#[]⟩ : ByteArray), .int .i64 0]) (t := 41) ?hr ?_; (case hd => rfl); (case hg => rfl); (case hr => first | (go_simp; done) | (go_simp; rfl)); intro gb343 hg w56 hbox hb; have n0_ := Aside0.mk (Kd.R_below (Kd.R_elderB (by exact HO_338001.out) gb343 (Nat.le_of_eq hg.symm)) hb); have n1_ := Aside0.mk (Kd.V_below (Kd.V_elderB (by exact HO340.out) gb343 (Nat.le_of_eq hg.symm)) hb); have n2_ := Aside0.mk (blk_below (g := gb332) (o := .cells #[.bool x333000_2, .slice none 0 0] 44 (0, 0)) (by exact BK332.out) hb); have n3_ := Aside0.mk (blk_below (g := gb337) (o := .cells #[.bool (t333 == 1), u338001] 44 (0, 0)) (by exact BK337.out) hb); have n4_ := Aside0.mk (below_step (by repeat (first | (with_reducible first | exact HB.out | apply below_alloc | apply pw_below_drewN | apply below_drew1 | refine below_set ?_ GE332.out | refine below_set ?_ GE337.out) | exact HB.out)) hb); have n5_ := Aside0.mk (hbox); have n6_ := Aside0.mk ((by rw [hg]; exact (below_size (by repeat (first | (with_reducible first | exact HB.out | apply below_alloc | apply pw_below_drewN | apply below_drew1 | refine below_set ?_ GE332.out | refine below_set ?_ GE337.out) | exact HB.out))) : w.heap.size ≤ gb343)); have n7_ := Aside0.mk ((by rw [hg]; exact (below_size (by repeat (first | (with_reducible first | exact HB.out | apply below_alloc | apply pw_below_drewN | apply below_drew1 | refine below_set ?_ GE332.out | refine below_set ?_ GE337.out) | exact HB.out))) : w.heap.size ≤ gb343)); have n8_ := Aside0.mk ((by rw [hg]; exact Nat.ne_of_lt (blk_lt (g := gb332) (o := .cells #[.bool x333000_2, .slice none 0 0] 44 (0, 0)) (by exact BK332.out)) : gb332 ≠ gb343)); have n9_ := Aside0.mk ((by rw [hg]; exact Nat.ne_of_gt (blk_lt (g := gb332) (o := .cells #[.bool x333000_2, .slice none 0 0] 44 (0, 0)) (by exact BK332.out)) : gb343 ≠ gb332)); have n10_ := Aside0.mk ((by rw [hg]; exact Nat.ne_of_lt (blk_lt (g := gb337) (o := .cells #[.bool (t333 == 1), u338001] 44 (0, 0)) (by exact BK337.out)) : gb337 ≠ gb343)); have n11_ := Aside0.mk ((by rw [hg]; exact Nat.ne_of_gt (blk_lt (g := gb337) (o := .cells #[.bool (t333 == 1), u338001] 44 (0, 0)) (by exact BK337.out)) : gb343 ≠ gb337)); clear HO_338001; clear HO340; clear BK332; clear BK337; clear HB; have HO_338001 := n0_; have HO340 := n1_; have BK332 := n2_; have BK337 := n3_; have HB := n4_; have BK343 := n5_; have GW343 := n6_; have GE343 := n7_; have NB332_343 := n8_; have NB343_332 := n9_; have NB337_343 := n10_; have NB343_337 := n11_; clear n0_ n1_ n2_ n3_ n4_ n5_ n6_ n7_ n8_ n9_ n10_ n11_; clear hb hbox hg; have hnb924 := NB343_332.out; have hnc924 := NB332_343.out; have hnb925 := NB343_337.out; have hnc925 := NB337_343.out; have hcz926_0 : w56.cell? ⟨gb343, 0, none⟩ = some (.string (⟨#[]⟩ : ByteArray)) := (blk_cell BK343.out 0).trans rfl; have hcz926_1 : w56.cell? ⟨gb343, 1, none⟩ = some (.string (⟨#[]⟩ : ByteArray)) := (blk_cell BK343.out 1).trans rfl; have hcz926_2 : w56.cell? ⟨gb343, 2, none⟩ = some (.int .i64 0) := (blk_cell BK343.out 2).trans rfl; have hfz926_0 := blk_frozen BK343.out 0; have hfz926_1 := blk_frozen BK343.out 1; have hfz926_2 := blk_frozen BK343.out 2) | ((with_reducible refine gate_store (t := 41) (p := 14) rfl ?_); refine store_event (t := 41) (p := 14) (v := ?vo_w57) (w1 := (((w56.setCell ⟨gb343, 0, none⟩ (.string (strOfNums t338))).setCell ⟨gb343, 1, none⟩ (.string (⟨#[]⟩ : ByteArray))).setCell ⟨gb343, 2, none⟩ (.int .i64 0))) ?hg ?ho ?hn ?hr ?_; (case ho => rfl); (case hg => rfl); (case hn => rfl); (case hr => first | (go_simp; done) | (go_simp; rfl)); intro w57 hw; have n0_ : Aside0 (Kd.R k41 41 w57 w.heap.size (fun k_ => k_ ≠ gb343) u338001 x338001_2) := ⟨(by rw [hw]; exact (by exact Kd.R_mono (Kd.R_far (p := ⟨gb343, 2, none⟩) (Kd.R_far (p := ⟨gb343, 1, none⟩) (Kd.R_far (p := ⟨gb343, 0, none⟩) (Kd.R_mono HO_338001.out (fun k_ hk => (⟨hk, hk.2⟩ : _ ∧ k_ ≠ gb343))) (fun _ hk => hk.2) (.string (strOfNums t338))) (fun _ hk => hk.2) (.string (⟨#[]⟩ : ByteArray))) (fun _ hk => hk.2) (.int .i64 0)) (fun _ hk => hk.1.2)))⟩; have n1_ : Aside0 (Kd.V (Kd.int .u8) 5 w57 w.heap.size (fun k_ => some k_ ≠ (u338001 : Value).ownBlock ∧ k_ ≠ gb332 ∧ k_ ≠ gb337 ∧ k_ ≠ gb343) (.slice Ao54 t338.length co54) t338) := ⟨(by rw [hw]; exact (by exact Kd.V_mono (Kd.V_far (p := ⟨gb343, 2, none⟩) (Kd.V_far (p := ⟨gb343, 1, none⟩) (Kd.V_far (p := ⟨gb343, 0, none⟩) (Kd.V_mono HO340.out (fun k_ hk => (⟨hk, hk.2⟩ : _ ∧ k_ ≠ gb343))) (fun _ hk => hk.2) (.string (strOfNums t338))) (fun _ hk => hk.2) (.string (⟨#[]⟩ : ByteArray))) (fun _ hk => hk.2) (.int .i64 0)) (fun _ hk => ⟨hk.1.1.1, ⟨hk.1.1.2.1, ⟨hk.1.1.2.2, hk.1.2⟩⟩⟩)))⟩; have n2_ : Aside0 (w57.heap[gb332]? = some (.cells #[.bool x333000_2, .slice none 0 0] 44 (0, 0))) := ⟨(by rw [hw]; exact (by refine blk_far ?_ NB332_343.out _; refine blk_far ?_ NB332_343.out _; refine blk_far ?_ NB332_343.out _; exact BK332.out))⟩; have n3_ : Aside0 (w57.heap[gb337]? = some (.cells #[.bool (t333 == 1), u338001] 44 (0, 0))) := ⟨(by rw [hw]; exact (by refine blk_far ?_ NB337_343.out _; refine blk_far ?_ NB337_343.out _; refine blk_far ?_ NB337_343.out _; exact BK337.out))⟩; have n4_ : Aside0 (w57.heap[gb343]? = some (.cells #[.string (strOfNums t338), .string (⟨#[]⟩ : ByteArray), .int .i64 0] 41 (0, 0))) := ⟨(by rw [hw]; exact (by refine blk_put (cs := #[.string (strOfNums t338), .string (⟨#[]⟩ : ByteArray), .int .i64 0]) ?_ 2 _ rfl; refine blk_put (cs := #[.string (strOfNums t338), .string (⟨#[]⟩ : ByteArray), .int .i64 0]) ?_ 1 _ rfl; refine blk_put (cs := #[.string (⟨#[]⟩ : ByteArray), .string (⟨#[]⟩ : ByteArray), .int .i64 0]) ?_ 0 _ rfl; exact BK343.out))⟩; have n5_ : Aside0 (Below w.heap.size w w57) := ⟨(by rw [hw]; exact (by repeat (first | (with_reducible first | exact HB.out | apply below_alloc | apply pw_below_drewN | apply below_drew1 | refine below_set ?_ GE332.out | refine below_set ?_ GE337.out | refine below_set ?_ GE343.out) | exact HB.out)))⟩; clear hw; clear HO_338001; clear HO340; clear BK332; clear BK337; clear BK343; clear HB; have HO_338001 := n0_; have HO340 := n1_; have BK332 := n2_; have BK337 := n3_; have BK343 := n4_; have HB := n5_; clear n0_ n1_ n2_ n3_ n4_ n5_; have hnb928 := NB337_332.out; have hnc928 := NB332_337.out; have hcz929_0 : w57.cell? ⟨gb337, 0, none⟩ = some (.bool (t333 == 1)) := (blk_cell BK337.out 0).trans rfl; have hcz929_1 : w57.cell? ⟨gb337, 1, none⟩ = some (u338001) := (blk_cell BK337.out 1).trans rfl; have hfz929_0 := blk_frozen BK337.out 0; have hfz929_1 := blk_frozen BK337.out 1; have hcz93_0 : w57.cell? ⟨gb343, 0, none⟩ = some (.string (strOfNums t338)) := (blk_cell BK343.out 0).trans rfl; have hcz93_1 : w57.cell? ⟨gb343, 1, none⟩ = some (.string (⟨#[]⟩ : ByteArray)) := (blk_cell BK343.out 1).trans rfl; have hcz93_2 : w57.cell? ⟨gb343, 2, none⟩ = some (.int .i64 0) := (blk_cell BK343.out 2).trans rfl; have hfz93_0 := blk_frozen BK343.out 0; have hfz93_1 := blk_frozen BK343.out 1; have hfz93_2 := blk_frozen BK343.out 2) | ((with_reducible refine gate_callee (f := 49) rfl ?_); refine goesL_ (some 82) rfl rfl Try.func49 (by kernel_rfl) rfl #[.slice A0 l0.length c0, .int .i64 t341, .int .i64 4] rfl (by (try simp only [List.map_toArray, List.map_cons, List.map_nil]); first | done | rfl | (simp only [List.length_drop, List.length_take]; rfl)) ?_; (with_reducible refine (waybillref1_Num.calls k2 _ _ l0 t341 4 t352 true _ ?side1 ?side2 A50.out).mono ?_); (case side1 => exact Kd.C_below HR0.out (by repeat (first | (with_reducible first | exact HB.out | apply below_alloc | apply pw_below_drewN | apply below_drew1 | refine below_set ?_ GE332.out | refine below_set ?_ GE337.out | refine below_set ?_ GE343.out) | exact HB.out))); (case side2 => exact HC0.out); rintro e w58 ⟨rfl, ⟨nd, hw⟩⟩; refine ⟨_, rfl, ?_⟩; have n0_ : Aside0 (Kd.R k41 41 w58 w.heap.size (fun k_ => k_ ≠ gb343) u338001 x338001_2) := ⟨by rw [hw]; apply Kd.R_drewN; exact HO_338001.out⟩; have n1_ : Aside0 (Kd.V (Kd.int .u8) 5 w58 w.heap.size (fun k_ => some k_ ≠ (u338001 : Value).ownBlock ∧ k_ ≠ gb332 ∧ k_ ≠ gb337 ∧ k_ ≠ gb343) (.slice Ao54 t338.length co54) t338) := ⟨by rw [hw]; apply Kd.V_drewN; exact HO340.out⟩; have n2_ : Aside0 (w58.heap[gb332]? = some (.cells #[.bool x333000_2, .slice none 0 0] 44 (0, 0))) := ⟨by rw [hw]; refine blk_drewN ?_ _; exact BK332.out⟩; have n3_ : Aside0 (w58.heap[gb337]? = some (.cells #[.bool (t333 == 1), u338001] 44 (0, 0))) := ⟨by rw [hw]; refine blk_drewN ?_ _; exact BK337.out⟩; have n4_ : Aside0 (w58.heap[gb343]? = some (.cells #[.string (strOfNums t338), .string (⟨#[]⟩ : ByteArray), .int .i64 0] 41 (0, 0))) := ⟨by rw [hw]; refine blk_drewN ?_ _; exact BK343.out⟩; have n5_ : Aside0 (Below w.heap.size w w58) := ⟨by rw [hw]; apply pw_below_drewN; exact HB.out⟩; clear hw; clear HO_338001; clear HO340; clear BK332; clear BK337; clear BK343; clear HB; have HO_338001 := n0_; have HO340 := n1_; have BK332 := n2_; have BK337 := n3_; have BK343 := n4_; have HB := n5_; clear n0_ n1_ n2_ n3_ n4_ n5_; have hcz94_0 : w58.cell? ⟨gb343, 0, none⟩ = some (.string (strOfNums t338)) := (blk_cell BK343.out 0).trans rfl; have hcz94_1 : w58.cell? ⟨gb343, 1, none⟩ = some (.string (⟨#[]⟩ : ByteArray)) := (blk_cell BK343.out 1).trans rfl; have hcz94_2 : w58.cell? ⟨gb343, 2, none⟩ = some (.int .i64 0) := (blk_cell BK343.out 2).trans rfl; have hfz94_0 := blk_frozen BK343.out 0; have hfz94_1 := blk_frozen BK343.out 1; have hfz94_2 := blk_frozen BK343.out 2; have hcz95_0 : w58.cell? ⟨gb337, 0, none⟩ = some (.bool (t333 == 1)) := (blk_cell BK337.out 0).trans rfl; have hcz95_1 : w58.cell? ⟨gb337, 1, none⟩ = some (u338001) := (blk_cell BK337.out 1).trans rfl; have hfz95_0 := blk_frozen BK337.out 0; have hfz95_1 := blk_frozen BK337.out 1) | ((with_reducible refine gate_builtin (b := .append) (xs := #[.tmp 94, .tmp 96]) rfl ?_); at_builtin; refine Kd.R_append k41 (w0 := w) w.heap.size rfl (.tmp 94) (.tmp 96) 42 41 (.agg #[(.string ⟨#[]⟩), (.string ⟨#[]⟩), (.int .i64 0)]) 40 rfl Try.underlying42 info41 rfl (by decide) (by omega) u338001 x338001_2 (⟨strOfNums t338, (⟨#[]⟩ : ByteArray), wrap64 (t352)⟩ : S41) [.string (strOfNums t338), .string (⟨#[]⟩ : ByteArray), .int .i64 (wrap64 (t352))] (fun k_ => k_ ≠ gb343) (fun _ => False) rfl (by first | (go_simp; done) | (go_simp; rfl)) ?aP (fun _ hk => hk.elim) ?aF ?aO ?aB ?aS ?aL ?_; (case aP => exact k41_mkM _ _ _ (⟨strOfNums t338, (⟨#[]⟩ : ByteArray), wrap64 (t352)⟩ : S41)); (case aB => exact (by repeat (first | (with_reducible first | exact HB.out | apply below_alloc | apply pw_below_drewN | apply below_drew1 | refine below_set ?_ GE332.out | refine below_set ?_ GE337.out | refine below_set ?_ GE343.out) | exact HB.out))); (case aF => exact (fun k_ hk => Kd.freshB (g := gb343) (o := .cells #[.string (strOfNums t338), .string (⟨#[]⟩ : ByteArray), .int .i64 (wrap64 (t352))] 41 (0, 0)) (by refine blk_put (cs := #[.string (strOfNums t338), .string (⟨#[]⟩ : ByteArray), .int .i64 0]) ?_ 2 _ rfl; exact BK343.out) k_ hk)); (case aO => exact (by exact Kd.R_mono (Kd.R_far (p := ⟨gb343, 2, none⟩) (Kd.R_mono HO_338001.out (fun k_ hk => (⟨hk, hk⟩ : _ ∧ k_ ≠ gb343))) (fun _ hk => hk.2) (.int .i64 (wrap64 (t352)))) (fun _ hk => hk.1))); (case aS => exact (below_size (by repeat (first | (with_reducible first | exact HB.out | apply below_alloc | apply pw_below_drewN | apply below_drew1 | refine below_set ?_ GE332.out | refine below_set ?_ GE337.out | refine below_set ?_ GE343.out) | exact HB.out)))); (case aL => have := LMc52.out; omega); intro v355 w62 ho hb hg hat; rw [← Ny354.out] at ho; have n0_ := Aside0.mk (blk_grown (g := gb332) (o := .cells #[.bool x333000_2, .slice none 0 0] 44 (0, 0)) (by refine blk_far ?_ NB332_343.out _; exact BK332.out) hg (Kd.R_ne HO_338001.out BK332.out (by decide))); have n1_ := Aside0.mk (blk_grown (g := gb337) (o := .cells #[.bool (t333 == 1), u338001] 44 (0, 0)) (by refine blk_far ?_ NB337_343.out _; exact BK337.out) hg (Kd.R_ne HO_338001.out BK337.out (by decide))); have n2_ := Aside0.mk (Kd.V_afterv (ok := (fun k_ => k_ ≠ gb332 ∧ k_ ≠ gb337 ∧ k_ ≠ gb343)) (by exact Kd.V_mono (Kd.V_far (p := ⟨gb343, 2, none⟩) (Kd.V_mono HO340.out (fun k_ hk => (⟨hk, hk.2.2.2⟩ : _ ∧ k_ ≠ gb343))) (fun _ hk => hk.2) (.int .i64 (wrap64 (t352)))) (fun _ hk => ⟨⟨hk.1.2.1, ⟨hk.1.2.2.1, hk.1.2.2.2⟩⟩, hk.1.1⟩)) hg hat); have n3_ := Aside0.mk (blk_grown (g := gb343) (o := .cells #[.string (strOfNums t338), .string (⟨#[]⟩ : ByteArray), .int .i64 (wrap64 (t352))] 41 (0, 0)) (by refine blk_put (cs := #[.string (strOfNums t338), .string (⟨#[]⟩ : ByteArray), .int .i64 0]) ?_ 2 _ rfl; exact BK343.out) hg (Kd.R_away HO_338001.out (fun _ hk => hk))); have n4_ := Aside0.mk (hb); have n5_ := Aside0.mk (ho); clear BK332; clear BK337; clear HO340; clear BK343; clear HB; clear HO_338001; have BK332 := n0_; have BK337 := n1_; have HO340 := n2_; have BK343 := n3_; have HB := n4_; have HO356 := n5_; clear n0_ n1_ n2_ n3_ n4_ n5_; clear ho hb hg hat; obtain ⟨Ao63, co63, eo63⟩ := Kd.R_slice HO356.out; subst eo63; have hcz64_0 : w62.cell? ⟨gb337, 0, none⟩ = some (.bool (t333 == 1)) := (blk_cell BK337.out 0).trans rfl; have hcz64_1 : w62.cell? ⟨gb337, 1, none⟩ = some (u338001) := (blk_cell BK337.out 1).trans rfl; have hfz64_0 := blk_frozen BK337.out 0; have hfz64_1 := blk_frozen BK337.out 1))
           refine Handed.intro k2 ?measure ?_
           rotate_left
           go_step
           (repeat apply Exists.intro)
           refine ⟨?rel, ?fr⟩
           case fr => first | rfl | (rw [c16b0]; first | done | rfl)
           case measure => have := HJ3.out; have := HK2.out; omega
           case rel => exact ⟨(wrap64 (t341 + 4)), (IntKind.u64.wrap (x10_2 + 1)), (x333000_2), (y354), (.slice Ao63 y354.length co63), (by first | rfl | (simp; done) | (simp [*]; done)), (by first | rfl | (simp; done) | (simp [*]; done)), H', ⟨by have := HJ3.out; have := HK2.out; omega⟩, ⟨by exact Kd.R_mono (Kd.R_far (p := ⟨gb337, 1, none⟩) (Kd.R_types HO356.out BK337.out (by decide)) (fun _ hk => hk.2) (.slice Ao63 y354.length co63)) (fun _ hk => trivial)⟩, ⟨by refine blk_far ?_ NB332_337.out _; exact BK332.out⟩, ⟨by refine blk_put (cs := #[.bool (t333 == 1), u338001]) ?_ 1 _ rfl; exact BK337.out⟩, ⟨by repeat (first | (with_reducible first | exact HB.out | apply below_alloc | apply pw_below_drewN | apply below_drew1 | refine below_set ?_ GE332.out | refine below_set ?_ GE337.out | refine below_set ?_ GE343.out) | exact HB.out)⟩⟩
          ·
           rw [if_neg c52] at H
           exact absurd H (by simp)
         ·
          replace c51 := Bool.eq_false_iff.mpr c51
          subst c51
          have H1 : (some (false, ([] : List (S41)), false)) = some (r1, r2, r3) := by rw [if_neg (show ¬ (false = true) by decide)] at H; exact H
          clear H
          have H := H1
          clear H1
          simp only [Option.some.injEq, Prod.mk.injEq] at H
          obtain ⟨rfl, rfl, rfl⟩ := H
          go_wp2_with (first | ((with_reducible refine gate_callee (f := 50) rfl ?_); refine goesL_ (some 53) rfl rfl Try.func50 (by kernel_rfl) rfl #[.slice A0 l0.length c0, .int .i64 x9_2, .int .i64 1] rfl (by (try simp only [List.map_toArray, List.map_cons, List.map_nil]); first | done | rfl | (simp only [List.length_drop, List.length_take]; rfl)) ?_; (with_reducible refine (waybillref1_Text.calls k2 (fun k_ => k_ < w.heap.size) _ _ l0 x9_2 1 t338 t341 true _ ?side1 A14.out).mono ?_); (case side1 => exact Kd.V_mk HC0.out (Kd.F_below (Kd.C_F (Kd.heap_int .u8) HR0.out) (by repeat (first | (with_reducible first | exact HB.out | apply below_alloc | apply pw_below_drewN | apply below_drew1 | refine below_set ?_ GE332.out | refine below_set ?_ GE337.out) | exact HB.out)))); rintro e w65 ⟨v339, rfl, ho0, hb⟩; refine ⟨_, rfl, ?_⟩; have n0_ := Aside0.mk (Kd.R_below (by exact HO_338001.out) hb); have n1_ := Aside0.mk (Kd.V_lower (Kd.V_mono (ok' := fun k_ => some k_ ≠ (u338001 : Value).ownBlock ∧ k_ ≠ gb332 ∧ k_ ≠ gb337) ho0 (fun k_ hk_ => ⟨Or.elim hk_ (fun hs_ => fun e_ => Nat.not_le.2 hs_ (Kd.R_base HO_338001.out k_ e_.symm)) (fun hn_ => (Kd.fresh' (Kd.R_lt (by exact HO_338001.out)) k_ hn_)), Or.elim hk_ (fun hs_ => fun e_ => Nat.not_le.2 hs_ (by rw [e_]; exact GW332.out)) (fun hn_ => (Kd.freshB (g := gb332) (o := .cells #[.bool x333000_2, .slice none 0 0] 44 (0, 0)) (by exact BK332.out) k_ hn_)), Or.elim hk_ (fun hs_ => fun e_ => Nat.not_le.2 hs_ (by rw [e_]; exact GW337.out)) (fun hn_ => (Kd.freshB (g := gb337) (o := .cells #[.bool (t333 == 1), u338001] 44 (0, 0)) (by exact BK337.out) k_ hn_))⟩)) (below_size (by repeat (first | (with_reducible first | exact HB.out | apply below_alloc | apply pw_below_drewN | apply below_drew1 | refine below_set ?_ GE332.out | refine below_set ?_ GE337.out) | exact HB.out)))); have n2_ := Aside0.mk (blk_below (g := gb332) (o := .cells #[.bool x333000_2, .slice none 0 0] 44 (0, 0)) (by exact BK332.out) hb); have n3_ := Aside0.mk (blk_below (g := gb337) (o := .cells #[.bool (t333 == 1), u338001] 44 (0, 0)) (by exact BK337.out) hb); have n4_ := Aside0.mk (below_step (by repeat (first | (with_reducible first | exact HB.out | apply below_alloc | apply pw_below_drewN | apply below_drew1 | refine below_set ?_ GE332.out | refine below_set ?_ GE337.out) | exact HB.out)) hb); clear HO_338001; clear BK332; clear BK337; clear HB; have HO_338001 := n0_; have HO340 := n1_; have BK332 := n2_; have BK337 := n3_; have HB := n4_; clear n0_ n1_ n2_ n3_ n4_; (try clear hb); (try clear hb2); (try clear hk); (try clear hi); (try clear hge); (try clear ho0); obtain ⟨Ao66, co66, eo66⟩ := Kd.V_slice HO340.out; subst eo66; have hcv67 := Kd.C_string (P := Try.prog) (A := Ao66) (c := co66) Try.underlying25 Try.underlying5 Try.underlying9 ((Kd.V_reads' (by exact HO340.out)).2.2)) | ((with_reducible refine gate_dst (N := 14) rfl ?_); refine box_event ?hg (N := 14) ?hd (cs := #[.string (⟨#[]⟩ : ByteArray), .string (⟨#[]⟩ : ByteArray), .int .i64 0]) (t := 41) ?hr ?_; (case hd => rfl); (case hg => rfl); (case hr => first | (go_simp; done) | (go_simp; rfl)); intro gb343 hg w68 hbox hb; have n0_ := Aside0.mk (Kd.R_below (Kd.R_elderB (by exact HO_338001.out) gb343 (Nat.le_of_eq hg.symm)) hb); have n1_ := Aside0.mk (Kd.V_below (Kd.V_elderB (by exact HO340.out) gb343 (Nat.le_of_eq hg.symm)) hb); have n2_ := Aside0.mk (blk_below (g := gb332) (o := .cells #[.bool x333000_2, .slice none 0 0] 44 (0, 0)) (by exact BK332.out) hb); have n3_ := Aside0.mk (blk_below (g := gb337) (o := .cells #[.bool (t333 == 1), u338001] 44 (0, 0)) (by exact BK337.out) hb); have n4_ := Aside0.mk (below_step (by repeat (first | (with_reducible first | exact HB.out | apply below_alloc | apply pw_below_drewN | apply below_drew1 | refine below_set ?_ GE332.out | refine below_set ?_ GE337.out) | exact HB.out)) hb); have n5_ := Aside0.mk (hbox); have n6_ := Aside0.mk ((by rw [hg]; exact (below_size (by repeat (first | (with_reducible first | exact HB.out | apply below_alloc | apply pw_below_drewN | apply below_drew1 | refine below_set ?_ GE332.out | refine below_set ?_ GE337.out) | exact HB.out))) : w.heap.size ≤ gb343)); have n7_ := Aside0.mk ((by rw [hg]; exact (below_size (by repeat (first | (with_reducible first | exact HB.out | apply below_alloc | apply pw_below_drewN | apply below_drew1 | refine below_set ?_ GE332.out | refine below_set ?_ GE337.out) | exact HB.out))) : w.heap.size ≤ gb343)); have n8_ := Aside0.mk ((by rw [hg]; exact Nat.ne_of_lt (blk_lt (g := gb332) (o := .cells #[.bool x333000_2, .slice none 0 0] 44 (0, 0)) (by exact BK332.out)) : gb332 ≠ gb343)); have n9_ := Aside0.mk ((by rw [hg]; exact Nat.ne_of_gt (blk_lt (g := gb332) (o := .cells #[.bool x333000_2, .slice none 0 0] 44 (0, 0)) (by exact BK332.out)) : gb343 ≠ gb332)); have n10_ := Aside0.mk ((by rw [hg]; exact Nat.ne_of_lt (blk_lt (g := gb337) (o := .cells #[.bool (t333 == 1), u338001] 44 (0, 0)) (by exact BK337.out)) : gb337 ≠ gb343)); have n11_ := Aside0.mk ((by rw [hg]; exact Nat.ne_of_gt (blk_lt (g := gb337) (o := .cells #[.bool (t333 == 1), u338001] 44 (0, 0)) (by exact BK337.out)) : gb343 ≠ gb337)); clear HO_338001; clear HO340; clear BK332; clear BK337; clear HB; have HO_338001 := n0_; have HO340 := n1_; have BK332 := n2_; have BK337 := n3_; have HB := n4_; have BK343 := n5_; have GW343 := n6_; have GE343 := n7_; have NB332_343 := n8_; have NB343_332 := n9_; have NB337_343 := n10_; have NB343_337 := n11_; clear n0_ n1_ n2_ n3_ n4_ n5_ n6_ n7_ n8_ n9_ n10_ n11_; clear hb hbox hg; have hnb69 := NB343_332.out; have hnc69 := NB332_343.out; have hnb70 := NB343_337.out; have hnc70 := NB337_343.out; have hcz71_0 : w68.cell? ⟨gb343, 0, none⟩ = some (.string (⟨#[]⟩ : ByteArray)) := (blk_cell BK343.out 0).trans rfl; have hcz71_1 : w68.cell? ⟨gb343, 1, none⟩ = some (.string (⟨#[]⟩ : ByteArray)) := (blk_cell BK343.out 1).trans rfl; have hcz71_2 : w68.cell? ⟨gb343, 2, none⟩ = some (.int .i64 0) := (blk_cell BK343.out 2).trans rfl; have hfz71_0 := blk_frozen BK343.out 0; have hfz71_1 := blk_frozen BK343.out 1; have hfz71_2 := blk_frozen BK343.out 2; have hnb72 := NB337_332.out; have hnc72 := NB332_337.out; have hcz73_0 : w68.cell? ⟨gb337, 0, none⟩ = some (.bool (t333 == 1)) := (blk_cell BK337.out 0).trans rfl; have hcz73_1 : w68.cell? ⟨gb337, 1, none⟩ = some (u338001) := (blk_cell BK337.out 1).trans rfl; have hfz73_0 := blk_frozen BK337.out 0; have hfz73_1 := blk_frozen BK337.out 1) | ((with_reducible refine gate_callee (f := 49) rfl ?_); refine goesL_ (some 82) rfl rfl Try.func49 (by kernel_rfl) rfl #[.slice A0 l0.length c0, .int .i64 t341, .int .i64 4] rfl (by (try simp only [List.map_toArray, List.map_cons, List.map_nil]); first | done | rfl | (simp only [List.length_drop, List.length_take]; rfl)) ?_; (with_reducible refine (waybillref1_Num.calls k2 _ _ l0 t341 4 t352 false _ ?side1 ?side2 A50.out).mono ?_); (case side1 => exact Kd.C_below HR0.out (by repeat (first | (with_reducible first | exact HB.out | apply below_alloc | apply pw_below_drewN | apply below_drew1 | refine below_set ?_ GE332.out | refine below_set ?_ GE337.out | refine below_set ?_ GE343.out) | exact HB.out))); (case side2 => exact HC0.out); rintro e w' ⟨rfl, ⟨nd, rfl⟩⟩; refine ⟨_, rfl, ?_⟩; have hcz74_0 : w68.cell? ⟨gb332, 0, none⟩ = some (.bool x333000_2) := (blk_cell BK332.out 0).trans rfl; have hcz74_1 : w68.cell? ⟨gb332, 1, none⟩ = some (.slice none 0 0) := (blk_cell BK332.out 1).trans rfl; have hfz74_0 := blk_frozen BK332.out 0; have hfz74_1 := blk_frozen BK332.out 1))
          refine bodyPost_ret (results_ct rfl _ _ gb332 44 #[.bool false, .slice none 0 0] (0, 0) _ rfl (by refine blk_put (cs := #[.bool false, .slice none 0 0]) ?_ 1 _ rfl; refine blk_put (cs := #[.bool x333000_2, .slice none 0 0]) ?_ 0 _ rfl; refine blk_far ?_ NB332_343.out _; refine blk_far ?_ NB332_343.out _; refine blk_far ?_ NB332_343.out _; exact BK332.out) Try.underlying44 rfl (by kernel_rfl)) rfl ?_
          exact ⟨_, by first | rfl | (simp [errW_none, errW_some]; done) | (simp [errW_none, errW_some]; rfl) | (simp [*, errW_none, errW_some]; done) | (simp [*, errW_none, errW_some]; rfl), by first | exact Kd.R_nil _ _ _ _ _ | exact Kd.N_nil _ _ _ _ _ | exact Kd.V_nil _ _ _ _ _ | exact Kd.Q_nil _ _ _ _ _ | exact Kd.S_nil _ _ _ _ _, by repeat (first | (with_reducible first | exact HB.out | apply below_alloc | apply pw_below_drewN | apply below_drew1 | refine below_set ?_ GE332.out | refine below_set ?_ GE337.out | refine below_set ?_ GE343.out) | exact HB.out)⟩
       ·
        replace c15 := Bool.eq_false_iff.mpr c15
        subst c15
        have H1 : (some (false, ([] : List (S41)), false)) = some (r1, r2, r3) := by rw [if_neg (show ¬ (false = true) by decide)] at H; exact H
        clear H
        have H := H1
        clear H1
        simp only [Option.some.injEq, Prod.mk.injEq] at H
        obtain ⟨rfl, rfl, rfl⟩ := H
        go_wp2_with (first | ((with_reducible refine gate_callee (f := 50) rfl ?_); refine goesL_ (some 53) rfl rfl Try.func50 (by kernel_rfl) rfl #[.slice A0 l0.length c0, .int .i64 x9_2, .int .i64 1] rfl (by (try simp only [List.map_toArray, List.map_cons, List.map_nil]); first | done | rfl | (simp only [List.length_drop, List.length_take]; rfl)) ?_; (with_reducible refine (waybillref1_Text.calls k2 (fun k_ => k_ < w.heap.size) _ _ l0 x9_2 1 t338 t341 false _ ?side1 A14.out).mono ?_); (case side1 => exact Kd.V_mk HC0.out (Kd.F_below (Kd.C_F (Kd.heap_int .u8) HR0.out) (by repeat (first | (with_reducible first | exact HB.out | apply below_alloc | apply pw_below_drewN | apply below_drew1 | refine below_set ?_ GE332.out | refine below_set ?_ GE337.out) | exact HB.out)))); rintro e w75 ⟨v339, rfl, ho0, hb⟩; refine ⟨_, rfl, ?_⟩; have n0_ := Aside0.mk (Kd.R_below (by exact HO_338001.out) hb); have n1_ := Aside0.mk (Kd.V_lower (Kd.V_mono (ok' := fun k_ => some k_ ≠ (u338001 : Value).ownBlock ∧ k_ ≠ gb332 ∧ k_ ≠ gb337) ho0 (fun k_ hk_ => ⟨Or.elim hk_ (fun hs_ => fun e_ => Nat.not_le.2 hs_ (Kd.R_base HO_338001.out k_ e_.symm)) (fun hn_ => (Kd.fresh' (Kd.R_lt (by exact HO_338001.out)) k_ hn_)), Or.elim hk_ (fun hs_ => fun e_ => Nat.not_le.2 hs_ (by rw [e_]; exact GW332.out)) (fun hn_ => (Kd.freshB (g := gb332) (o := .cells #[.bool x333000_2, .slice none 0 0] 44 (0, 0)) (by exact BK332.out) k_ hn_)), Or.elim hk_ (fun hs_ => fun e_ => Nat.not_le.2 hs_ (by rw [e_]; exact GW337.out)) (fun hn_ => (Kd.freshB (g := gb337) (o := .cells #[.bool (t333 == 1), u338001] 44 (0, 0)) (by exact BK337.out) k_ hn_))⟩)) (below_size (by repeat (first | (with_reducible first | exact HB.out | apply below_alloc | apply pw_below_drewN | apply below_drew1 | refine below_set ?_ GE332.out | refine below_set ?_ GE337.out) | exact HB.out)))); have n2_ := Aside0.mk (blk_below (g := gb332) (o := .cells #[.bool x333000_2, .slice none 0 0] 44 (0, 0)) (by exact BK332.out) hb); have n3_ := Aside0.mk (blk_below (g := gb337) (o := .cells #[.bool (t333 == 1), u338001] 44 (0, 0)) (by exact BK337.out) hb); have n4_ := Aside0.mk (below_step (by repeat (first | (with_reducible first | exact HB.out | apply below_alloc | apply pw_below_drewN | apply below_drew1 | refine below_set ?_ GE332.out | refine below_set ?_ GE337.out) | exact HB.out)) hb); clear HO_338001; clear BK332; clear BK337; clear HB; have HO_338001 := n0_; have HO340 := n1_; have BK332 := n2_; have BK337 := n3_; have HB := n4_; clear n0_ n1_ n2_ n3_ n4_; (try clear hb); (try clear hb2); (try clear hk); (try clear hi); (try clear hge); (try clear ho0); have hnb76 := NB332_337.out; have hnc76 := NB337_332.out; have hcz77_0 : w75.cell? ⟨gb332, 0, none⟩ = some (.bool x333000_2) := (blk_cell BK332.out 0).trans rfl; have hcz77_1 : w75.cell? ⟨gb332, 1, none⟩ = some (.slice none 0 0) := (blk_cell BK332.out 1).trans rfl; have hfz77_0 := blk_frozen BK332.out 0; have hfz77_1 := blk_frozen BK332.out 1))
        refine bodyPost_ret (results_ct rfl _ _ gb332 44 #[.bool false, .slice none 0 0] (0, 0) _ rfl (by refine blk_put (cs := #[.bool false, .slice none 0 0]) ?_ 1 _ rfl; refine blk_put (cs := #[.bool x333000_2, .slice none 0 0]) ?_ 0 _ rfl; exact BK332.out) Try.underlying44 rfl (by kernel_rfl)) rfl ?_
        exact ⟨_, by first | rfl | (simp [errW_none, errW_some]; done) | (simp [errW_none, errW_some]; rfl) | (simp [*, errW_none, errW_some]; done) | (simp [*, errW_none, errW_some]; rfl), by first | exact Kd.R_nil _ _ _ _ _ | exact Kd.N_nil _ _ _ _ _ | exact Kd.V_nil _ _ _ _ _ | exact Kd.Q_nil _ _ _ _ _ | exact Kd.S_nil _ _ _ _ _, by repeat (first | (with_reducible first | exact HB.out | apply below_alloc | apply pw_below_drewN | apply below_drew1 | refine below_set ?_ GE332.out | refine below_set ?_ GE337.out) | exact HB.out)⟩
      ·
       rw [if_neg c13] at H
       have c13b0 : decide (x10_2 < t335) = false := decide_eq_false c13
       clear c13
       have H' := Aside0.mk H
       clear H
       go_wp2
       go_loopg [20] k2 (fun kq v20 w' => ∃ (x20_3 : Int) (x333000_3 : Bool), v20 = .int .i64 x20_3 ∧ Aside0 (waybillref7_NodeOf.l1 kq l0 x20_3 (t333 == 1) x338001_2 = some (r1, r2, r3)) ∧ Aside0 (kq ≤ k2) ∧ Aside0 (Kd.R k41 41 w' w.heap.size (fun _ => True) u338001 x338001_2) ∧ Aside0 (w'.heap[gb332]? = some (.cells #[.bool x333000_3, (.slice none 0 0)] 44 (0, 0))) ∧ Aside0 (w'.heap[gb337]? = some (.cells #[.bool (t333 == 1), u338001] 44 (0, 0))) ∧ Aside0 (Below w.heap.size w w'))
       case atStart => exact ⟨(x9_2), (x333000_2), (by first | rfl | (simp; done) | (simp [*]; done)), H', ⟨Nat.le_refl _⟩, ⟨by exact HO_338001.out⟩, ⟨by exact BK332.out⟩, ⟨by exact BK337.out⟩, ⟨by repeat (first | (with_reducible first | exact HB.out | apply below_alloc | apply pw_below_drewN | apply below_drew1 | refine below_set ?_ GE332.out | refine below_set ?_ GE337.out) | exact HB.out)⟩⟩
       case round =>
        clear H'
        try clear c1
        try clear c2
        try clear p2
        try clear hcv2
        try clear hcv3
        try clear c4
        try clear hcv4
        try clear c5
        try clear hcv5
        try clear c6
        try clear p6
        try clear hcv6
        try clear c7
        try clear c7b0
        try clear c8
        try clear c11
        try clear c13
        try clear c13b0
        try clear c15
        try clear c16
        try clear c16b0
        try clear c16b1
        try clear c16b2
        try clear c18
        try clear c19
        try clear hcv22
        try clear c24
        try clear c25
        try clear c28
        try clear hcv32
        try clear hcv40
        try clear c42
        try clear c43
        try clear c46
        try clear c49
        try clear c50
        try clear c51
        try clear c52
        try clear hcv55
        try clear c57
        try clear c58
        try clear c60
        try clear p64
        try clear hcv67
        try clear c69
        try clear c70
        try clear c72
        try clear c76
        try clear hcz12_0
        try clear hcz12_1
        try clear hcz26_0
        try clear hcz26_1
        try clear hcz26_2
        try clear hcz29_0
        try clear hcz29_1
        try clear hcz33_0
        try clear hcz33_1
        try clear hcz33_2
        try clear hcz34_0
        try clear hcz34_1
        try clear hcz37_0
        try clear hcz37_1
        try clear hcz44_0
        try clear hcz44_1
        try clear hcz44_2
        try clear hcz47_0
        try clear hcz47_1
        try clear hcz49_0
        try clear hcz49_1
        try clear hcz59_0
        try clear hcz59_1
        try clear hcz59_2
        try clear hcz61_0
        try clear hcz61_1
        try clear hcz64_0
        try clear hcz64_1
        try clear hcz71_0
        try clear hcz71_1
        try clear hcz71_2
        try clear hcz73_0
        try clear hcz73_1
        try clear hcz74_0
        try clear hcz74_1
        try clear hcz77_0
        try clear hcz77_1
        try clear hcz9_0
        try clear hcz9_1
        try clear hfz12_0
        try clear hfz12_1
        try clear hfz26_0
        try clear hfz26_1
        try clear hfz26_2
        try clear hfz29_0
        try clear hfz29_1
        try clear hfz33_0
        try clear hfz33_1
        try clear hfz33_2
        try clear hfz34_0
        try clear hfz34_1
        try clear hfz37_0
        try clear hfz37_1
        try clear hfz44_0
        try clear hfz44_1
        try clear hfz44_2
        try clear hfz47_0
        try clear hfz47_1
        try clear hfz49_0
        try clear hfz49_1
        try clear hfz59_0
        try clear hfz59_1
        try clear hfz59_2
        try clear hfz61_0
        try clear hfz61_1
        try clear hfz64_0
        try clear hfz64_1
        try clear hfz71_0
        try clear hfz71_1
        try clear hfz71_2
        try clear hfz73_0
        try clear hfz73_1
        try clear hfz74_0
        try clear hfz74_1
        try clear hfz77_0
        try clear hfz77_1
        try clear hfz9_0
        try clear hfz9_1
        try clear p2
        obtain ⟨x20_3, x333000_3, rfl, HA, HK3, HO_338001, BK332, BK337, HB⟩ := hrel
        cases gk with
        | zero => exact absurd HA.out (by simp [waybillref7_NodeOf.l1])
        | succ k3 =>
         have H := HA.out
         clear HA
         simp only [waybillref7_NodeOf.l1] at H
         by_cases c78 : x20_3 < (l0.length : Int)
         ·
          rw [if_pos c78] at H
          have c78b0 : decide (x20_3 < (l0.length : Int)) = true := decide_eq_true c78
          clear c78
          by_cases c79 : 0 ≤ x20_3
          ·
           rw [if_pos c79] at H
           have c79b0 : decide (0 ≤ x20_3) = true := decide_eq_true c79
           clear c79
           by_cases c80 : (rd l0 x20_3) = 0
           ·
            rw [if_pos c80] at H
            have c80b0 : ((rd l0 x20_3) == 0) = true := beq_iff_eq.mpr c80
            have c80b1 : ((rd l0 x20_3) != 0) = false := bne_eq_false_iff_eq.mpr c80
            clear c80
            have H' := Aside0.mk H
            clear H
            have p357 : 0 ≤ (x20_3 : Int) := of_decide_eq_true (by first | (with_reducible assumption) | assumption)
            have q357 : x20_3 < (l0.length : Int) := of_decide_eq_true (by first | (with_reducible assumption) | assumption)
            obtain ⟨ad357, e357, hx357_0⟩ := Kd.at_int HR0.out x20_3 p357 q357
            cases e357
            replace hx357_0 := (HB.out.cell (World.block_lt_of_cell? w _ hx357_0)).trans hx357_0
            replace p357 := eq_true p357
            replace q357 := eq_true q357
            go_wp2
            go_roundg k3
            case measure => have := HJ3.out; have := HK2.out; have := HK3.out; omega
            case rel => exact ⟨(wrap64 (x20_3 + 1)), (x333000_3), (by first | rfl | (simp; done) | (simp [*]; done)), H', ⟨by have := HJ3.out; have := HK2.out; have := HK3.out; omega⟩, ⟨by exact HO_338001.out⟩, ⟨by exact BK332.out⟩, ⟨by exact BK337.out⟩, ⟨by repeat (first | (with_reducible first | exact HB.out | apply below_alloc | apply pw_below_drewN | apply below_drew1 | refine below_set ?_ GE332.out | refine below_set ?_ GE337.out) | exact HB.out)⟩⟩
           ·
            rw [if_neg c80] at H
            have c80b0 : ((rd l0 x20_3) == 0) = false := beq_eq_false_iff_ne.mpr c80
            have c80b1 : ((rd l0 x20_3) != 0) = true := bne_iff_ne.mpr c80
            simp only [Option.some.injEq, Prod.mk.injEq] at H
            obtain ⟨rfl, rfl, rfl⟩ := H
            have p357 : 0 ≤ (x20_3 : Int) := of_decide_eq_true (by first | (with_reducible assumption) | assumption)
            have q357 : x20_3 < (l0.length : Int) := of_decide_eq_true (by first | (with_reducible assumption) | assumption)
            obtain ⟨ad357, e357, hx357_0⟩ := Kd.at_int HR0.out x20_3 p357 q357
            cases e357
            replace hx357_0 := (HB.out.cell (World.block_lt_of_cell? w _ hx357_0)).trans hx357_0
            replace p357 := eq_true p357
            replace q357 := eq_true q357
            have hnb81 := NB332_337.out
            have hnc81 := NB337_332.out
            have hcz82_0 : wr.cell? ⟨gb332, 0, none⟩ = some (.bool x333000_3) := (blk_cell BK332.out 0).trans rfl
            have hcz82_1 : wr.cell? ⟨gb332, 1, none⟩ = some (.slice none 0 0) := (blk_cell BK332.out 1).trans rfl
            have hfz82_0 := blk_frozen BK332.out 0
            have hfz82_1 := blk_frozen BK332.out 1
            go_wp2
            refine bodyPost_ret (results_ct rfl _ _ gb332 44 #[.bool false, .slice none 0 0] (0, 0) _ rfl (by refine blk_put (cs := #[.bool false, .slice none 0 0]) ?_ 1 _ rfl; refine blk_put (cs := #[.bool x333000_3, .slice none 0 0]) ?_ 0 _ rfl; exact BK332.out) Try.underlying44 rfl (by kernel_rfl)) rfl ?_
            exact ⟨_, by first | rfl | (simp [errW_none, errW_some]; done) | (simp [errW_none, errW_some]; rfl) | (simp [*, errW_none, errW_some]; done) | (simp [*, errW_none, errW_some]; rfl), by first | exact Kd.R_nil _ _ _ _ _ | exact Kd.N_nil _ _ _ _ _ | exact Kd.V_nil _ _ _ _ _ | exact Kd.Q_nil _ _ _ _ _ | exact Kd.S_nil _ _ _ _ _, by repeat (first | (with_reducible first | exact HB.out | apply below_alloc | apply pw_below_drewN | apply below_drew1 | refine below_set ?_ GE332.out | refine below_set ?_ GE337.out) | exact HB.out)⟩
          ·
           rw [if_neg c79] at H
           exact absurd H (by simp)
         ·
          rw [if_neg c78] at H
          have c78b0 : decide (x20_3 < (l0.length : Int)) = false := decide_eq_false c78
          clear c78
          replace H := Option.bind_eq_some_iff.mp H
          obtain ⟨t358, A830, H⟩ := H
          replace H : (if t358 = true then (some ((t333 == 1), x338001_2, true)) else (some (false, ([] : List (S41)), false))) = some (r1, r2, r3) := H
          have A83 := Aside0.mk A830
          clear A830
          by_cases c84 : t358 = true
          ·
           subst c84
           have H1 : (some ((t333 == 1), x338001_2, true)) = some (r1, r2, r3) := by rw [if_pos rfl] at H; exact H
           clear H
           have H := H1
           clear H1
           simp only [Option.some.injEq, Prod.mk.injEq] at H
           obtain ⟨rfl, rfl, rfl⟩ := H
           have hnb85 := NB337_332.out
           have hnc85 := NB332_337.out
           have hcz86_0 : wr.cell? ⟨gb337, 0, none⟩ = some (.bool (t333 == 1)) := (blk_cell BK337.out 0).trans rfl
           have hcz86_1 : wr.cell? ⟨gb337, 1, none⟩ = some (u338001) := (blk_cell BK337.out 1).trans rfl
           have hfz86_0 := blk_frozen BK337.out 0
           have hfz86_1 := blk_frozen BK337.out 1
           obtain ⟨Ao87, co87, eo87⟩ := Kd.R_slice HO_338001.out
           subst eo87
           go_wp2_with (first | ((with_reducible refine gate_callee (f := 23) rfl ?_); refine goesL_ (some 113) rfl rfl Try.func23 (by kernel_rfl) rfl #[.agg #[.bool (t333 == 1), .slice Ao87 x338001_2.length co87]] rfl (by (try simp only [List.map_toArray, List.map_cons, List.map_nil]); first | done | rfl | (simp only [List.length_drop, List.length_take]; rfl)) ?_; (with_reducible refine (waybillref7_NodeOk.calls k3 (t333 == 1) _ _ x338001_2 true _ ?side1 ?side2 A83.out).mono ?_); (case side1 => repeat (first | exact (Kd.R_reads' HO_338001.out).2.2 | (with_reducible refine Kd.C_alloc ?_ _) | (with_reducible refine Kd.C_drewN ?_ _) | (with_reducible refine Kd.C_drew ?_))); (case side2 => exact (Kd.R_reads' HO_338001.out).2.1); rintro e w88 ⟨rfl, hb⟩; refine ⟨_, rfl, ?_⟩; have n0_ := Aside0.mk (Kd.R_below (by exact HO_338001.out) hb); have n1_ := Aside0.mk (blk_below (g := gb332) (o := .cells #[.bool x333000_3, .slice none 0 0] 44 (0, 0)) (by exact BK332.out) hb); have n2_ := Aside0.mk (blk_below (g := gb337) (o := .cells #[.bool (t333 == 1), .slice Ao87 x338001_2.length co87] 44 (0, 0)) (by exact BK337.out) hb); have n3_ := Aside0.mk (below_step (by repeat (first | (with_reducible first | exact HB.out | apply below_alloc | apply pw_below_drewN | apply below_drew1 | refine below_set ?_ GE332.out | refine below_set ?_ GE337.out) | exact HB.out)) hb); clear HO_338001; clear BK332; clear BK337; clear HB; have HO_338001 := n0_; have BK332 := n1_; have BK337 := n2_; have HB := n3_; clear n0_ n1_ n2_ n3_; (try clear hb); (try clear hb2); (try clear hk); (try clear hi); (try clear hge); have hcz89_0 : w88.cell? ⟨gb337, 0, none⟩ = some (.bool (t333 == 1)) := (blk_cell BK337.out 0).trans rfl; have hcz89_1 : w88.cell? ⟨gb337, 1, none⟩ = some (.slice Ao87 x338001_2.length co87) := (blk_cell BK337.out 1).trans rfl; have hfz89_0 := blk_frozen BK337.out 0; have hfz89_1 := blk_frozen BK337.out 1; have hcz90_0 : w88.cell? ⟨gb332, 0, none⟩ = some (.bool x333000_3) := (blk_cell BK332.out 0).trans rfl; have hcz90_1 : w88.cell? ⟨gb332, 1, none⟩ = some (.slice none 0 0) := (blk_cell BK332.out 1).trans rfl; have hfz90_0 := blk_frozen BK332.out 0; have hfz90_1 := blk_frozen BK332.out 1))
           refine bodyPost_ret (results_ct rfl _ _ gb332 44 #[.bool (t333 == 1), .slice Ao87 x338001_2.length co87] (0, 0) _ rfl (by refine blk_put (cs := #[.bool (t333 == 1), .slice none 0 0]) ?_ 1 _ rfl; refine blk_put (cs := #[.bool x333000_3, .slice none 0 0]) ?_ 0 _ rfl; exact BK332.out) Try.underlying44 rfl (by kernel_rfl)) rfl ?_
           exact ⟨_, by first | rfl | (simp [errW_none, errW_some]; done) | (simp [errW_none, errW_some]; rfl) | (simp [*, errW_none, errW_some]; done) | (simp [*, errW_none, errW_some]; rfl), by exact Kd.R_mono (Kd.R_far (p := ⟨gb332, 1, none⟩) (Kd.R_far (p := ⟨gb332, 0, none⟩) (Kd.R_types HO_338001.out BK332.out (by decide)) (fun _ hk => hk.2) (.bool (t333 == 1))) (fun _ hk => hk.2) (.slice Ao87 x338001_2.length co87)) (fun _ hk => trivial), by repeat (first | (with_reducible first | exact HB.out | apply below_alloc | apply pw_below_drewN | apply below_drew1 | refine below_set ?_ GE332.out | refine below_set ?_ GE337.out) | exact HB.out)⟩
          ·
           replace c84 := Bool.eq_false_iff.mpr c84
           subst c84
           have H1 : (some (false, ([] : List (S41)), false)) = some (r1, r2, r3) := by rw [if_neg (show ¬ (false = true) by decide)] at H; exact H
           clear H
           have H := H1
           clear H1
           simp only [Option.some.injEq, Prod.mk.injEq] at H
           obtain ⟨rfl, rfl, rfl⟩ := H
           have hnb91 := NB337_332.out
           have hnc91 := NB332_337.out
           have hcz92_0 : wr.cell? ⟨gb337, 0, none⟩ = some (.bool (t333 == 1)) := (blk_cell BK337.out 0).trans rfl
           have hcz92_1 : wr.cell? ⟨gb337, 1, none⟩ = some (u338001) := (blk_cell BK337.out 1).trans rfl
           have hfz92_0 := blk_frozen BK337.out 0
           have hfz92_1 := blk_frozen BK337.out 1
           obtain ⟨Ao93, co93, eo93⟩ := Kd.R_slice HO_338001.out
           subst eo93
           go_wp2_with (first | ((with_reducible refine gate_callee (f := 23) rfl ?_); refine goesL_ (some 113) rfl rfl Try.func23 (by kernel_rfl) rfl #[.agg #[.bool (t333 == 1), .slice Ao93 x338001_2.length co93]] rfl (by (try simp only [List.map_toArray, List.map_cons, List.map_nil]); first | done | rfl | (simp only [List.length_drop, List.length_take]; rfl)) ?_; (with_reducible refine (waybillref7_NodeOk.calls k3 (t333 == 1) _ _ x338001_2 false _ ?side1 ?side2 A83.out).mono ?_); (case side1 => repeat (first | exact (Kd.R_reads' HO_338001.out).2.2 | (with_reducible refine Kd.C_alloc ?_ _) | (with_reducible refine Kd.C_drewN ?_ _) | (with_reducible refine Kd.C_drew ?_))); (case side2 => exact (Kd.R_reads' HO_338001.out).2.1); rintro e w94 ⟨rfl, hb⟩; refine ⟨_, rfl, ?_⟩; have n0_ := Aside0.mk (Kd.R_below (by exact HO_338001.out) hb); have n1_ := Aside0.mk (blk_below (g := gb332) (o := .cells #[.bool x333000_3, .slice none 0 0] 44 (0, 0)) (by exact BK332.out) hb); have n2_ := Aside0.mk (blk_below (g := gb337) (o := .cells #[.bool (t333 == 1), .slice Ao93 x338001_2.length co93] 44 (0, 0)) (by exact BK337.out) hb); have n3_ := Aside0.mk (below_step (by repeat (first | (with_reducible first | exact HB.out | apply below_alloc | apply pw_below_drewN | apply below_drew1 | refine below_set ?_ GE332.out | refine below_set ?_ GE337.out) | exact HB.out)) hb); clear HO_338001; clear BK332; clear BK337; clear HB; have HO_338001 := n0_; have BK332 := n1_; have BK337 := n2_; have HB := n3_; clear n0_ n1_ n2_ n3_; (try clear hb); (try clear hb2); (try clear hk); (try clear hi); (try clear hge); have hcz95_0 : w94.cell? ⟨gb332, 0, none⟩ = some (.bool x333000_3) := (blk_cell BK332.out 0).trans rfl; have hcz95_1 : w94.cell? ⟨gb332, 1, none⟩ = some (.slice none 0 0) := (blk_cell BK332.out 1).trans rfl; have hfz95_0 := blk_frozen BK332.out 0; have hfz95_1 := blk_frozen BK332.out 1))
           refine bodyPost_ret (results_ct rfl _ _ gb332 44 #[.bool false, .slice none 0 0] (0, 0) _ rfl (by refine blk_put (cs := #[.bool false, .slice none 0 0]) ?_ 1 _ rfl; refine blk_put (cs := #[.bool x333000_3, .slice none 0 0]) ?_ 0 _ rfl; exact BK332.out) Try.underlying44 rfl (by kernel_rfl)) rfl ?_
           exact ⟨_, by first | rfl | (simp [errW_none, errW_some]; done) | (simp [errW_none, errW_some]; rfl) | (simp [*, errW_none, errW_some]; done) | (simp [*, errW_none, errW_some]; rfl), by first | exact Kd.R_nil _ _ _ _ _ | exact Kd.N_nil _ _ _ _ _ | exact Kd.V_nil _ _ _ _ _ | exact Kd.Q_nil _ _ _ _ _ | exact Kd.S_nil _ _ _ _ _, by repeat (first | (with_reducible first | exact HB.out | apply below_alloc | apply pw_below_drewN | apply below_drew1 | refine below_set ?_ GE332.out | refine below_set ?_ GE337.out) | exact HB.out)⟩

end Go.Proofs.Ytfhaffpegncdiaa.PN
