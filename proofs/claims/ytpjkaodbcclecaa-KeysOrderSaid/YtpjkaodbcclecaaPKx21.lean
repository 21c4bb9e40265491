/- What functions of the given program come to, and that they do: written out of the translation by a program of this session; Lean checks it. -/
import Derived.Test.YtpjkaodbcclecaaPKx0
import Derived.Test.YtpjkaodbcclecaaPKx4
import Derived.Test.YtpjkaodbcclecaaPKx8
import Derived.Test.YtpjkaodbcclecaaPKx15
namespace Go.Proofs.Ytpjkaodbcclecaa.PK
open Go.RowKit Go.Proofs.YtpjkaodbcclecaaW.PrintWords Go.Proofs.YtpjkaodbcclecaaW.PrintLast Go.Proofs.YtpjkaodbcclecaaW.PrintMore
attribute [local go_sem] max2_int min2_int max_two min_two max_three min_three max_four min_four   -- for this text's walks alone
set_option linter.unusedVariables false
set_option linter.unusedSimpArgs false

/-! ### waybilllaw12_KeysOrder: function 13 -/
def waybilllaw12_KeysOrder.j0 : Nat → Int → Int → Bool → Int → ByteArray → ByteArray → ByteArray → Int → Option (Bool)
  | 0, _, _, _, _, _, _, _, _ => none
  | k + 1, x2, x3, x44, x440000, x440001, x440002, x440003, x440004 => if x44 = true then (none) else (if 0 ≤ (mn (x440001.size : Int) 20) then (if (mn (x440001.size : Int) 20) ≤ (x440001.size : Int) then (if 1 + (x440001.extract 0 ((mn (x440001.size : Int) 20) : Int).toNat).size ≤ 9223372036854775807 then ((keys_Text.f k 5 ((⟨#[113]⟩ : ByteArray) ++ (x440001.extract 0 ((mn (x440001.size : Int) 20) : Int).toNat)) (⟨#[]⟩ : ByteArray) (⟨#[]⟩ : ByteArray) (mx x2 1)).bind fun bt455 => ((keys_Text.f k 5 ((⟨#[113]⟩ : ByteArray) ++ (x440001.extract 0 ((mn (x440001.size : Int) 20) : Int).toNat)) (⟨#[]⟩ : ByteArray) (⟨#[]⟩ : ByteArray) (mx x3 1)).bind fun bt457 => ((keys_Text.f k 4 (⟨#[]⟩ : ByteArray) (⟨#[]⟩ : ByteArray) (⟨#[]⟩ : ByteArray) (mx x2 1)).bind fun bt459 => ((keys_Text.f k 4 (⟨#[]⟩ : ByteArray) (⟨#[]⟩ : ByteArray) (⟨#[]⟩ : ByteArray) (mx x3 1)).bind fun bt461 => (if ((Op.bytesLess bt455.1.toList bt457.1.toList) == (decide ((mx x2 1) < (mx x3 1)))) = true then (if ((Op.bytesLess bt459.1.toList bt461.1.toList) == (decide ((mx x2 1) < (mx x3 1)))) = true then ((waybilllaw12_awake.f k).bind fun t463 => (some t463)) else (none)) else (none)))))) else (none)) else (none)) else (none))
def waybilllaw12_KeysOrder.f (k : Nat) (a0_0 : Int) (a0_1 : ByteArray) (a0_2 : ByteArray) (a0_3 : ByteArray) (a0_4 : Int) (a1_0 : Int) (a1_1 : ByteArray) (a1_2 : ByteArray) (a1_3 : ByteArray) (a1_4 : Int) (a2 : Int) (a3 : Int) : Option (Bool) := (waybilllaw12_Tame.f k a0_0 a0_1 a0_2 a0_3 a0_4).bind fun bt441 => ((waybilllaw12_Tame.f k a1_0 a1_1 a1_2 a1_3 a1_4).bind fun bt446 => ((keys_Text.f k bt441.1 bt441.2.1 bt441.2.2.1 bt441.2.2.2.1 bt441.2.2.2.2).bind fun bt451 => ((keys_Text.f k bt446.1 bt446.2.1 bt446.2.2.1 bt446.2.2.2.1 bt446.2.2.2.2).bind fun bt453 => (if bt441.1 < bt446.1 then (waybilllaw12_KeysOrder.j0 k a2 a3 (!(Op.bytesLess bt451.1.toList bt453.1.toList)) bt441.1 bt441.2.1 bt441.2.2.1 bt441.2.2.2.1 bt441.2.2.2.2) else (waybilllaw12_KeysOrder.j0 k a2 a3 false bt441.1 bt441.2.1 bt441.2.2.1 bt441.2.2.2.1 bt441.2.2.2.2)))))
theorem waybilllaw12_KeysOrder.mono_l : ∀ k, (∀ y0 y1 y2 y3 y4 y5 y6 y7, LeO (waybilllaw12_KeysOrder.j0 k y0 y1 y2 y3 y4 y5 y6 y7) (waybilllaw12_KeysOrder.j0 (k + 1) y0 y1 y2 y3 y4 y5 y6 y7))
  | 0 => fun _ _ _ _ _ _ _ _ r h => by simp [waybilllaw12_KeysOrder.j0] at h
  | k + 1 => by
    have ih0 := waybilllaw12_KeysOrder.mono_l k
    · intro y0 y1 y2 y3 y4 y5 y6 y7
      unfold waybilllaw12_KeysOrder.j0
      repeat' first
      | (with_reducible exact ih0 _ _ _ _ _ _ _ _)
      | (with_reducible exact keys_Text.mono _ _ _ _ _ _)
      | (with_reducible exact waybilllaw12_Tame.mono _ _ _ _ _ _)
      | (with_reducible exact waybilllaw12_awake.mono _)
      | (with_reducible exact LeO.refl _)
      | (with_reducible exact LeO.none _)
      | (with_reducible refine LeO.ite ?_ ?_)
      | (with_reducible refine LeO.bind ?_ (fun _ => ?_))
      | exact ih0 _ _ _ _ _ _ _ _
      | exact keys_Text.mono _ _ _ _ _ _
      | exact waybilllaw12_Tame.mono _ _ _ _ _ _
      | exact waybilllaw12_awake.mono _
      | exact LeO.none _
      | refine LeO.ite ?_ ?_
      | refine LeO.bind ?_ (fun _ => ?_)
theorem waybilllaw12_KeysOrder.mono : ∀ a0 a1 a2 a3 a4 a5 a6 a7 a8 a9 a10 a11 k, LeO (waybilllaw12_KeysOrder.f k a0 a1 a2 a3 a4 a5 a6 a7 a8 a9 a10 a11) (waybilllaw12_KeysOrder.f (k + 1) a0 a1 a2 a3 a4 a5 a6 a7 a8 a9 a10 a11) := by
  intro a0 a1 a2 a3 a4 a5 a6 a7 a8 a9 a10 a11 k
  have ih0 := waybilllaw12_KeysOrder.mono_l k
  unfold waybilllaw12_KeysOrder.f
  repeat' first
      | (with_reducible exact ih0 _ _ _ _ _ _ _ _)
      | (with_reducible exact keys_Text.mono _ _ _ _ _ _)
      | (with_reducible exact waybilllaw12_Tame.mono _ _ _ _ _ _)
      | (with_reducible exact waybilllaw12_awake.mono _)
      | (with_reducible exact LeO.refl _)
      | (with_reducible exact LeO.none _)
      | (with_reducible refine LeO.ite ?_ ?_)
      | (with_reducible refine LeO.bind ?_ (fun _ => ?_))
      | exact ih0 _ _ _ _ _ _ _ _
      | exact keys_Text.mono _ _ _ _ _ _
      | exact waybilllaw12_Tame.mono _ _ _ _ _ _
      | exact waybilllaw12_awake.mono _
      | exact LeO.none _
      | refine LeO.ite ?_ ?_
      | refine LeO.bind ?_ (fun _ => ?_)
set_option maxHeartbeats 8000000 in
set_option maxRecDepth 100000 in
theorem waybilllaw12_KeysOrder.calls (k : Nat) (a0_0 : Int) (a0_1 : ByteArray) (a0_2 : ByteArray) (a0_3 : ByteArray) (a0_4 : Int) (a1_0 : Int) (a1_1 : ByteArray) (a1_2 : ByteArray) (a1_3 : ByteArray) (a1_4 : Int) (a2 : Int) (a3 : Int) (r : Bool) (w : World) (h : waybilllaw12_KeysOrder.f k a0_0 a0_1 a0_2 a0_3 a0_4 a1_0 a1_1 a1_2 a1_3 a1_4 a2 a3 = some r) :
    Calls Try.prog 13 #[.agg #[.int .i64 a0_0, .string a0_1, .string a0_2, .string a0_3, .int .u64 a0_4], .agg #[.int .i64 a1_0, .string a1_1, .string a1_2, .string a1_3, .int .u64 a1_4], .int .u64 a2, .int .u64 a3] w fun e w' => e = .returned (.bool r) ∧ Below w.heap.size w w' := by
  have hu74 := Try.underlying74
  have HB := Aside0.mk (Below.refl w.heap.size w)
  have H : ((waybilllaw12_Tame.f k a0_0 a0_1 a0_2 a0_3 a0_4).bind fun bt441 => ((waybilllaw12_Tame.f k a1_0 a1_1 a1_2 a1_3 a1_4).bind fun bt446 => ((keys_Text.f k bt441.1 bt441.2.1 bt441.2.2.1 bt441.2.2.2.1 bt441.2.2.2.2).bind fun bt451 => ((keys_Text.f k bt446.1 bt446.2.1 bt446.2.2.1 bt446.2.2.2.1 bt446.2.2.2.2).bind fun bt453 => (if bt441.1 < bt446.1 then (waybilllaw12_KeysOrder.j0 k a2 a3 (!(Op.bytesLess bt451.1.toList bt453.1.toList)) bt441.1 bt441.2.1 bt441.2.2.1 bt441.2.2.2.1 bt441.2.2.2.2) else (waybilllaw12_KeysOrder.j0 k a2 a3 false bt441.1 bt441.2.1 bt441.2.2.1 bt441.2.2.2.1 bt441.2.2.2.2)))))) = some r := h
  clear h
  replace H := Option.bind_eq_some_iff.mp H
  obtain ⟨⟨t441, t442, t443, t444, t445⟩, A50, H⟩ := H
  replace H : ((waybilllaw12_Tame.f k a1_0 a1_1 a1_2 a1_3 a1_4).bind fun bt446 => ((keys_Text.f k t441 t442 t443 t444 t445).bind fun bt451 => ((keys_Text.f k bt446.1 bt446.2.1 bt446.2.2.1 bt446.2.2.2.1 bt446.2.2.2.2).bind fun bt453 => (if t441 < bt446.1 then (waybilllaw12_KeysOrder.j0 k a2 a3 (!(Op.bytesLess bt451.1.toList bt453.1.toList)) t441 t442 t443 t444 t445) else (waybilllaw12_KeysOrder.j0 k a2 a3 false t441 t442 t443 t444 t445))))) = some r := H
  have A5 := Aside0.mk A50
  clear A50
  replace H := Option.bind_eq_some_iff.mp H
  obtain ⟨⟨t446, t447, t448, t449, t450⟩, A60, H⟩ := H
  replace H : ((keys_Text.f k t441 t442 t443 t444 t445).bind fun bt451 => ((keys_Text.f k t446 t447 t448 t449 t450).bind fun bt453 => (if t441 < t446 then (waybilllaw12_KeysOrder.j0 k a2 a3 (!(Op.bytesLess bt451.1.toList bt453.1.toList)) t441 t442 t443 t444 t445) else (waybilllaw12_KeysOrder.j0 k a2 a3 false t441 t442 t443 t444 t445)))) = some r := H
  have A6 := Aside0.mk A60
  clear A60
  replace H := Option.bind_eq_some_iff.mp H
  obtain ⟨⟨t451, t452⟩, A70, H⟩ := H
  replace H : ((keys_Text.f k t446 t447 t448 t449 t450).bind fun bt453 => (if t441 < t446 then (waybilllaw12_KeysOrder.j0 k a2 a3 (!(Op.bytesLess t451.toList bt453.1.toList)) t441 t442 t443 t444 t445) else (waybilllaw12_KeysOrder.j0 k a2 a3 false t441 t442 t443 t444 t445))) = some r := H
  have A7 := Aside0.mk A70
  clear A70
  replace H := Option.bind_eq_some_iff.mp H
  obtain ⟨⟨t453, t454⟩, A80, H⟩ := H
  replace H : (if t441 < t446 then (waybilllaw12_KeysOrder.j0 k a2 a3 (!(Op.bytesLess t451.toList t453.toList)) t441 t442 t443 t444 t445) else (waybilllaw12_KeysOrder.j0 k a2 a3 false t441 t442 t443 t444 t445)) = some r := H
  have A8 := Aside0.mk A80
  clear A80
  have HC9 := Aside0.mk H
  clear H
  go_enter Try.func13, Try.ntmps13
  try go_wp2_with (first | ((with_reducible refine gate_dst (N := 4) rfl ?_); refine box_event ?hg (N := 4) ?hd (cs := #[.int .i64 a0_0, .string a0_1, .string a0_2, .string a0_3, .int .u64 a0_4]) (t := 74) ?hr ?_; (case hd => rfl); (case hg => rfl); (case hr => first | (go_simp; done) | (go_simp; rfl)); intro gb439 hg w10 hbox hb; have n0_ := Aside0.mk (below_step (by repeat (first | (with_reducible first | exact HB.out | apply below_alloc | apply pw_below_drewN | apply below_drew1) | exact HB.out)) hb); have n1_ := Aside0.mk (hbox); have n2_ := Aside0.mk ((by rw [hg]; exact (below_size (by repeat (first | (with_reducible first | exact HB.out | apply below_alloc | apply pw_below_drewN | apply below_drew1) | exact HB.out))) : w.heap.size ≤ gb439)); have n3_ := Aside0.mk ((by rw [hg]; exact (below_size (by repeat (first | (with_reducible first | exact HB.out | apply below_alloc | apply pw_below_drewN | apply below_drew1) | exact HB.out))) : w.heap.size ≤ gb439)); clear HB; have HB := n0_; have BK439 := n1_; have GW439 := n2_; have GE439 := n3_; clear n0_ n1_ n2_ n3_; clear hb hbox hg) | ((with_reducible refine gate_dst (N := 5) rfl ?_); refine box_event ?hg (N := 5) ?hd (cs := #[.int .i64 a1_0, .string a1_1, .string a1_2, .string a1_3, .int .u64 a1_4]) (t := 74) ?hr ?_; (case hd => rfl); (case hg => rfl); (case hr => first | (go_simp; done) | (go_simp; rfl)); intro gb440 hg w11 hbox hb; have n0_ := Aside0.mk (blk_below (g := gb439) (o := .cells #[.int .i64 a0_0, .string a0_1, .string a0_2, .string a0_3, .int .u64 a0_4] 74 (0, 0)) (by (with_reducible repeat (first | refine blk_drewN ?_ _ | refine blk_drew ?_ | refine blk_alloc ?_ _)); exact BK439.out) hb); have n1_ := Aside0.mk (below_step (by repeat (first | (with_reducible first | exact HB.out | apply below_alloc | apply pw_below_drewN | apply below_drew1 | refine below_set ?_ GE439.out) | exact HB.out)) hb); have n2_ := Aside0.mk (hbox); have n3_ := Aside0.mk ((by rw [hg]; exact (below_size (by repeat (first | (with_reducible first | exact HB.out | apply below_alloc | apply pw_below_drewN | apply below_drew1 | refine below_set ?_ GE439.out) | exact HB.out))) : w.heap.size ≤ gb440)); have n4_ := Aside0.mk ((by rw [hg]; exact (below_size (by repeat (first | (with_reducible first | exact HB.out | apply below_alloc | apply pw_below_drewN | apply below_drew1 | refine below_set ?_ GE439.out) | exact HB.out))) : w.heap.size ≤ gb440)); have n5_ := Aside0.mk ((by rw [hg]; exact Nat.ne_of_lt (blk_lt (g := gb439) (o := .cells #[.int .i64 a0_0, .string a0_1, .string a0_2, .string a0_3, .int .u64 a0_4] 74 (0, 0)) (by (with_reducible repeat (first | refine blk_drewN ?_ _ | refine blk_drew ?_ | refine blk_alloc ?_ _)); exact BK439.out)) : gb439 ≠ gb440)); have n6_ := Aside0.mk ((by rw [hg]; exact Nat.ne_of_gt (blk_lt (g := gb439) (o := .cells #[.int .i64 a0_0, .string a0_1, .string a0_2, .string a0_3, .int .u64 a0_4] 74 (0, 0)) (by (with_reducible repeat (first | refine blk_drewN ?_ _ | refine blk_drew ?_ | refine blk_alloc ?_ _)); exact BK439.out)) : gb440 ≠ gb439)); clear BK439; clear HB; have BK439 := n0_; have HB := n1_; have BK440 := n2_; have GW440 := n3_; have GE440 := n4_; have NB439_440 := n5_; have NB440_439 := n6_; clear n0_ n1_ n2_ n3_ n4_ n5_ n6_; clear hb hbox hg))
  have n0_ := Aside0.mk (blk_drew BK439.out)
  have n1_ := Aside0.mk (blk_drew BK440.out)
  have n2_ := Aside0.mk (below_drew1 HB.out)
  clear BK439
  clear BK440
  clear HB
  have BK439 := n0_
  have BK440 := n1_
  have HB := n2_
  clear n0_ n1_ n2_
  refine start_ (n := 6) (S := fun w' => w'.cell? ⟨gb439, 0, none⟩ = some (.int .i64 a0_0) ∧ w'.cell? ⟨gb439, 1, none⟩ = some (.string a0_1) ∧ w'.cell? ⟨gb439, 2, none⟩ = some (.string a0_2) ∧ w'.cell? ⟨gb439, 3, none⟩ = some (.string a0_3) ∧ w'.cell? ⟨gb439, 4, none⟩ = some (.int .u64 a0_4) ∧ w'.cell? ⟨gb440, 0, none⟩ = some (.int .i64 a1_0) ∧ w'.cell? ⟨gb440, 1, none⟩ = some (.string a1_1) ∧ w'.cell? ⟨gb440, 2, none⟩ = some (.string a1_2) ∧ w'.cell? ⟨gb440, 3, none⟩ = some (.string a1_3) ∧ w'.cell? ⟨gb440, 4, none⟩ = some (.int .u64 a1_4)) (ds := [4, 5]) #[false, false, false, false, false, false] (by kernel_rfl) rfl rfl ⟨(blk_cell BK439.out 0).trans rfl, (blk_cell BK439.out 1).trans rfl, (blk_cell BK439.out 2).trans rfl, (blk_cell BK439.out 3).trans rfl, (blk_cell BK439.out 4).trans rfl, (blk_cell BK440.out 0).trans rfl, (blk_cell BK440.out 1).trans rfl, (blk_cell BK440.out 2).trans rfl, (blk_cell BK440.out 3).trans rfl, (blk_cell BK440.out 4).trans rfl⟩ (fun hHeld => ?_)
  generalize w11.drew = w12 at BK439 BK440 HB hHeld ⊢
  refine take_ (i := 0) (N := some 21) (v := ?_) (a' := ?_) #[true, false, false, false, false, false] rfl rfl (by kernel_rfl) (fun _ _ _ h => h) (Or.inl ⟨by rfl, ?_⟩) hHeld ?_ ?_
  rotate_left
  · rintro w' ⟨s0, s1, s2, s3, s4, s5, s6, s7, s8, s9⟩
    go_simp
    with_reducible rfl
  rotate_left
  · simp only [Act.put, List.setIfInBounds_toArray, List.set_cons_zero, List.set_cons_succ, i64_w, i32_w]
    rfl
  refine take_ (i := 2) (N := some 23) (v := ?_) (a' := ?_) #[true, false, true, false, false, false] rfl rfl (by kernel_rfl) (fun _ _ _ h => h) (Or.inl ⟨by rfl, ?_⟩) hHeld ?_ ?_
  rotate_left
  · rintro w' ⟨s0, s1, s2, s3, s4, s5, s6, s7, s8, s9⟩
    go_simp
    with_reducible rfl
  rotate_left
  · simp only [Act.put, List.setIfInBounds_toArray, List.set_cons_zero, List.set_cons_succ, i64_w, i32_w]
    rfl
  refine one_ (i := 1) (N := some 22) #[true, true, true, false, false, false] rfl rfl (by kernel_rfl) (by decide) (fun K hK => ?_)
  refine goes_ Try.func43 (by kernel_rfl) rfl #[.agg #[.int .i64 a0_0, .string a0_1, .string a0_2, .string a0_3, .int .u64 a0_4]] (by rfl) rfl rfl (by (try simp only [List.map_toArray, List.map_cons, List.map_nil]); first | done | rfl | (simp only [List.length_drop, List.length_take]; rfl)) ?_
  with_reducible refine (waybilllaw12_Tame.calls k a0_0 a0_1 a0_2 a0_3 a0_4 t441 t442 t443 t444 t445 _ A5.out).mono ?_
  rintro e w13 ⟨rfl, hb⟩
  refine ⟨_, rfl, ?_⟩
  have n0_ := Aside0.mk (blk_below (g := gb439) (o := .cells #[.int .i64 a0_0, .string a0_1, .string a0_2, .string a0_3, .int .u64 a0_4] 74 (0, 0)) (by (with_reducible repeat (first | refine blk_drewN ?_ _ | refine blk_drew ?_ | refine blk_alloc ?_ _)); exact BK439.out) hb)
  have n1_ := Aside0.mk (blk_below (g := gb440) (o := .cells #[.int .i64 a1_0, .string a1_1, .string a1_2, .string a1_3, .int .u64 a1_4] 74 (0, 0)) (by (with_reducible repeat (first | refine blk_drewN ?_ _ | refine blk_drew ?_ | refine blk_alloc ?_ _)); exact BK440.out) hb)
  have n2_ := Aside0.mk (below_step (by repeat (first | (with_reducible first | exact HB.out | apply below_alloc | apply pw_below_drewN | apply below_drew1 | refine below_set ?_ GE439.out | refine below_set ?_ GE440.out) | exact HB.out)) hb)
  clear BK439
  clear BK440
  clear HB
  have BK439 := n0_
  have BK440 := n1_
  have HB := n2_
  clear n0_ n1_ n2_
  (try clear hb)
  (try clear hb2)
  (try clear hk)
  (try clear hi)
  (try clear hge)
  refine hK.out _ _ ⟨(blk_cell BK439.out 0).trans rfl, (blk_cell BK439.out 1).trans rfl, (blk_cell BK439.out 2).trans rfl, (blk_cell BK439.out 3).trans rfl, (blk_cell BK439.out 4).trans rfl, (blk_cell BK440.out 0).trans rfl, (blk_cell BK440.out 1).trans rfl, (blk_cell BK440.out 2).trans rfl, (blk_cell BK440.out 3).trans rfl, (blk_cell BK440.out 4).trans rfl⟩ (fun hHeld => ?_)
  clear hK K
  refine norm_ (a' := ?_) ?_ ?_
  rotate_left
  · show Act.put _ (some 22) _ = _
    simp only [Act.put, List.setIfInBounds_toArray, List.set_cons_zero, List.set_cons_succ, i64_w, i32_w]
    rfl
  refine one_ (i := 3) (N := some 24) #[true, true, true, true, false, false] rfl rfl (by kernel_rfl) (by decide) (fun K hK => ?_)
  refine goes_ Try.func43 (by kernel_rfl) rfl #[.agg #[.int .i64 a1_0, .string a1_1, .string a1_2, .string a1_3, .int .u64 a1_4]] (by rfl) rfl rfl (by (try simp only [List.map_toArray, List.map_cons, List.map_nil]); first | done | rfl | (simp only [List.length_drop, List.length_take]; rfl)) ?_
  with_reducible refine (waybilllaw12_Tame.calls k a1_0 a1_1 a1_2 a1_3 a1_4 t446 t447 t448 t449 t450 _ A6.out).mono ?_
  rintro e w14 ⟨rfl, hb⟩
  refine ⟨_, rfl, ?_⟩
  have n0_ := Aside0.mk (blk_below (g := gb439) (o := .cells #[.int .i64 a0_0, .string a0_1, .string a0_2, .string a0_3, .int .u64 a0_4] 74 (0, 0)) (by (with_reducible repeat (first | refine blk_drewN ?_ _ | refine blk_drew ?_ | refine blk_alloc ?_ _)); exact BK439.out) hb)
  have n1_ := Aside0.mk (blk_below (g := gb440) (o := .cells #[.int .i64 a1_0, .string a1_1, .string a1_2, .string a1_3, .int .u64 a1_4] 74 (0, 0)) (by (with_reducible repeat (first | refine blk_drewN ?_ _ | refine blk_drew ?_ | refine blk_alloc ?_ _)); exact BK440.out) hb)
  have n2_ := Aside0.mk (below_step (by repeat (first | (with_reducible first | exact HB.out | apply below_alloc | apply pw_below_drewN | apply below_drew1 | refine below_set ?_ GE439.out | refine below_set ?_ GE440.out) | exact HB.out)) hb)
  clear BK439
  clear BK440
  clear HB
  have BK439 := n0_
  have BK440 := n1_
  have HB := n2_
  clear n0_ n1_ n2_
  (try clear hb)
  (try clear hb2)
  (try clear hk)
  (try clear hi)
  (try clear hge)
  refine hK.out _ _ ⟨(blk_cell BK439.out 0).trans rfl, (blk_cell BK439.out 1).trans rfl, (blk_cell BK439.out 2).trans rfl, (blk_cell BK439.out 3).trans rfl, (blk_cell BK439.out 4).trans rfl, (blk_cell BK440.out 0).trans rfl, (blk_cell BK440.out 1).trans rfl, (blk_cell BK440.out 2).trans rfl, (blk_cell BK440.out 3).trans rfl, (blk_cell BK440.out 4).trans rfl⟩ (fun hHeld => ?_)
  clear hK K
  refine norm_ (a' := ?_) ?_ ?_
  rotate_left
  · show Act.put _ (some 24) _ = _
    simp only [Act.put, List.setIfInBounds_toArray, List.set_cons_zero, List.set_cons_succ, i64_w, i32_w]
    rfl
  refine last_ (i := 4) (N := none) #[true, true, true, true, true, false] rfl rfl (by kernel_rfl) (by decide) (fun K hK => ?_)
  have hs15 : w14.cell? ⟨gb439, 0, none⟩ = some (.int .i64 a0_0) := (blk_cell BK439.out 0).trans rfl
  have hfs15 := blk_frozen BK439.out 0
  have hns15_1 := NB440_439.out
  have hms15_1 := NB439_440.out
  have hs16 : w14.cell? ⟨gb439, 1, none⟩ = some (.string a0_1) := (blk_cell BK439.out 1).trans rfl
  have hfs16 := blk_frozen BK439.out 1
  have hns16_1 := NB440_439.out
  have hms16_1 := NB439_440.out
  have hs17 : w14.cell? ⟨gb439, 2, none⟩ = some (.string a0_2) := (blk_cell BK439.out 2).trans rfl
  have hfs17 := blk_frozen BK439.out 2
  have hns17_1 := NB440_439.out
  have hms17_1 := NB439_440.out
  have hs18 : w14.cell? ⟨gb439, 3, none⟩ = some (.string a0_3) := (blk_cell BK439.out 3).trans rfl
  have hfs18 := blk_frozen BK439.out 3
  have hns18_1 := NB440_439.out
  have hms18_1 := NB439_440.out
  have hs19 : w14.cell? ⟨gb439, 4, none⟩ = some (.int .u64 a0_4) := (blk_cell BK439.out 4).trans rfl
  have hfs19 := blk_frozen BK439.out 4
  have hns19_1 := NB440_439.out
  have hms19_1 := NB439_440.out
  refine skip_ (w1 := ?_) (by rfl) rfl ?_ ?_
  rotate_left
  · go_simp
    rfl
  refine hK.out _ _ ?_
  clear hK K
  refine last_ (i := 5) (N := none) #[true, true, true, true, true, true] rfl rfl (by kernel_rfl) (by decide) (fun K hK => ?_)
  have hs20 : w14.cell? ⟨gb440, 0, none⟩ = some (.int .i64 a1_0) := (blk_cell BK440.out 0).trans rfl
  have hfs20 := blk_frozen BK440.out 0
  have hns20_0 := NB439_440.out
  have hms20_0 := NB440_439.out
  have hs21 : w14.cell? ⟨gb440, 1, none⟩ = some (.string a1_1) := (blk_cell BK440.out 1).trans rfl
  have hfs21 := blk_frozen BK440.out 1
  have hns21_0 := NB439_440.out
  have hms21_0 := NB440_439.out
  have hs22 : w14.cell? ⟨gb440, 2, none⟩ = some (.string a1_2) := (blk_cell BK440.out 2).trans rfl
  have hfs22 := blk_frozen BK440.out 2
  have hns22_0 := NB439_440.out
  have hms22_0 := NB440_439.out
  have hs23 : w14.cell? ⟨gb440, 3, none⟩ = some (.string a1_3) := (blk_cell BK440.out 3).trans rfl
  have hfs23 := blk_frozen BK440.out 3
  have hns23_0 := NB439_440.out
  have hms23_0 := NB440_439.out
  have hs24 : w14.cell? ⟨gb440, 4, none⟩ = some (.int .u64 a1_4) := (blk_cell BK440.out 4).trans rfl
  have hfs24 := blk_frozen BK440.out 4
  have hns24_0 := NB439_440.out
  have hms24_0 := NB440_439.out
  refine skip_ (w1 := ?_) (by rfl) rfl ?_ ?_
  rotate_left
  · go_simp
    rfl
  refine hK.out _ _ ?_
  clear hK K
  refine done_ (by kernel_rfl) ?_
  have hnb25 := NB439_440.out
  have hnc25 := NB440_439.out
  have hcz26_0 : w14.cell? ⟨gb439, 0, none⟩ = some (.int .i64 a0_0) := (blk_cell BK439.out 0).trans rfl
  have hcz26_1 : w14.cell? ⟨gb439, 1, none⟩ = some (.string a0_1) := (blk_cell BK439.out 1).trans rfl
  have hcz26_2 : w14.cell? ⟨gb439, 2, none⟩ = some (.string a0_2) := (blk_cell BK439.out 2).trans rfl
  have hcz26_3 : w14.cell? ⟨gb439, 3, none⟩ = some (.string a0_3) := (blk_cell BK439.out 3).trans rfl
  have hcz26_4 : w14.cell? ⟨gb439, 4, none⟩ = some (.int .u64 a0_4) := (blk_cell BK439.out 4).trans rfl
  have hfz26_0 := blk_frozen BK439.out 0
  have hfz26_1 := blk_frozen BK439.out 1
  have hfz26_2 := blk_frozen BK439.out 2
  have hfz26_3 := blk_frozen BK439.out 3
  have hfz26_4 := blk_frozen BK439.out 4
  go_upto_region 4 with (first | ((with_reducible refine gate_callee (f := 38) rfl ?_); refine goesL_ (some 27) rfl rfl Try.func38 (by kernel_rfl) rfl #[.agg #[.int .i64 t441, .string t442, .string t443, .string t444, .int .u64 t445]] rfl (by (try simp only [List.map_toArray, List.map_cons, List.map_nil]); first | done | rfl | (simp only [List.length_drop, List.length_take]; rfl)) ?_; (with_reducible refine (keys_Text.calls k t441 t442 t443 t444 t445 t451 t452 _ A7.out).mono ?_); rintro e w27 ⟨rfl, hb⟩; refine ⟨_, rfl, ?_⟩; have n0_ := Aside0.mk (blk_below (g := gb439) (o := .cells #[.int .i64 t441, .string t442, .string t443, .string t444, .int .u64 t445] 74 (0, 0)) (by (with_reducible repeat (first | refine blk_drewN ?_ _ | refine blk_drew ?_ | refine blk_alloc ?_ _)); refine blk_far ?_ NB439_440.out _; (with_reducible repeat (first | refine blk_drewN ?_ _ | refine blk_drew ?_ | refine blk_alloc ?_ _)); refine blk_far ?_ NB439_440.out _; (with_reducible repeat (first | refine blk_drewN ?_ _ | refine blk_drew ?_ | refine blk_alloc ?_ _)); refine blk_far ?_ NB439_440.out _; (with_reducible repeat (first | refine blk_drewN ?_ _ | refine blk_drew ?_ | refine blk_alloc ?_ _)); refine blk_far ?_ NB439_440.out _; (with_reducible repeat (first | refine blk_drewN ?_ _ | refine blk_drew ?_ | refine blk_alloc ?_ _)); refine blk_far ?_ NB439_440.out _; (with_reducible repeat (first | refine blk_drewN ?_ _ | refine blk_drew ?_ | refine blk_alloc ?_ _)); refine blk_put (cs := #[.int .i64 t441, .string t442, .string t443, .string t444, .int .u64 a0_4]) ?_ 4 _ rfl; (with_reducible repeat (first | refine blk_drewN ?_ _ | refine blk_drew ?_ | refine blk_alloc ?_ _)); refine blk_put (cs := #[.int .i64 t441, .string t442, .string t443, .string a0_3, .int .u64 a0_4]) ?_ 3 _ rfl; (with_reducible repeat (first | refine blk_drewN ?_ _ | refine blk_drew ?_ | refine blk_alloc ?_ _)); refine blk_put (cs := #[.int .i64 t441, .string t442, .string a0_2, .string a0_3, .int .u64 a0_4]) ?_ 2 _ rfl; (with_reducible repeat (first | refine blk_drewN ?_ _ | refine blk_drew ?_ | refine blk_alloc ?_ _)); refine blk_put (cs := #[.int .i64 t441, .string a0_1, .string a0_2, .string a0_3, .int .u64 a0_4]) ?_ 1 _ rfl; (with_reducible repeat (first | refine blk_drewN ?_ _ | refine blk_drew ?_ | refine blk_alloc ?_ _)); refine blk_put (cs := #[.int .i64 a0_0, .string a0_1, .string a0_2, .string a0_3, .int .u64 a0_4]) ?_ 0 _ rfl; (with_reducible repeat (first | refine blk_drewN ?_ _ | refine blk_drew ?_ | refine blk_alloc ?_ _)); exact BK439.out) hb); have n1_ := Aside0.mk (blk_below (g := gb440) (o := .cells #[.int .i64 t446, .string t447, .string t448, .string t449, .int .u64 t450] 74 (0, 0)) (by (with_reducible repeat (first | refine blk_drewN ?_ _ | refine blk_drew ?_ | refine blk_alloc ?_ _)); refine blk_put (cs := #[.int .i64 t446, .string t447, .string t448, .string t449, .int .u64 a1_4]) ?_ 4 _ rfl; (with_reducible repeat (first | refine blk_drewN ?_ _ | refine blk_drew ?_ | refine blk_alloc ?_ _)); refine blk_put (cs := #[.int .i64 t446, .string t447, .string t448, .string a1_3, .int .u64 a1_4]) ?_ 3 _ rfl; (with_reducible repeat (first | refine blk_drewN ?_ _ | refine blk_drew ?_ | refine blk_alloc ?_ _)); refine blk_put (cs := #[.int .i64 t446, .string t447, .string a1_2, .string a1_3, .int .u64 a1_4]) ?_ 2 _ rfl; (with_reducible repeat (first | refine blk_drewN ?_ _ | refine blk_drew ?_ | refine blk_alloc ?_ _)); refine blk_put (cs := #[.int .i64 t446, .string a1_1, .string a1_2, .string a1_3, .int .u64 a1_4]) ?_ 1 _ rfl; (with_reducible repeat (first | refine blk_drewN ?_ _ | refine blk_drew ?_ | refine blk_alloc ?_ _)); refine blk_put (cs := #[.int .i64 a1_0, .string a1_1, .string a1_2, .string a1_3, .int .u64 a1_4]) ?_ 0 _ rfl; (with_reducible repeat (first | refine blk_drewN ?_ _ | refine blk_drew ?_ | refine blk_alloc ?_ _)); refine blk_far ?_ NB440_439.out _; (with_reducible repeat (first | refine blk_drewN ?_ _ | refine blk_drew ?_ | refine blk_alloc ?_ _)); refine blk_far ?_ NB440_439.out _; (with_reducible repeat (first | refine blk_drewN ?_ _ | refine blk_drew ?_ | refine blk_alloc ?_ _)); refine blk_far ?_ NB440_439.out _; (with_reducible repeat (first | refine blk_drewN ?_ _ | refine blk_drew ?_ | refine blk_alloc ?_ _)); refine blk_far ?_ NB440_439.out _; (with_reducible repeat (first | refine blk_drewN ?_ _ | refine blk_drew ?_ | refine blk_alloc ?_ _)); refine blk_far ?_ NB440_439.out _; (with_reducible repeat (first | refine blk_drewN ?_ _ | refine blk_drew ?_ | refine blk_alloc ?_ _)); exact BK440.out) hb); have n2_ := Aside0.mk (below_step (by repeat (first | (with_reducible first | exact HB.out | apply below_alloc | apply pw_below_drewN | apply below_drew1 | refine below_set ?_ GE439.out | refine below_set ?_ GE440.out) | exact HB.out)) hb); clear BK439; clear BK440; clear HB; have BK439 := n0_; have BK440 := n1_; have HB := n2_; clear n0_ n1_ n2_; (try clear hb); (try clear hb2); (try clear hk); (try clear hi); (try clear hge); have hcz28_0 : w27.cell? ⟨gb440, 0, none⟩ = some (.int .i64 t446) := (blk_cell BK440.out 0).trans rfl; have hcz28_1 : w27.cell? ⟨gb440, 1, none⟩ = some (.string t447) := (blk_cell BK440.out 1).trans rfl; have hcz28_2 : w27.cell? ⟨gb440, 2, none⟩ = some (.string t448) := (blk_cell BK440.out 2).trans rfl; have hcz28_3 : w27.cell? ⟨gb440, 3, none⟩ = some (.string t449) := (blk_cell BK440.out 3).trans rfl; have hcz28_4 : w27.cell? ⟨gb440, 4, none⟩ = some (.int .u64 t450) := (blk_cell BK440.out 4).trans rfl; have hfz28_0 := blk_frozen BK440.out 0; have hfz28_1 := blk_frozen BK440.out 1; have hfz28_2 := blk_frozen BK440.out 2; have hfz28_3 := blk_frozen BK440.out 3; have hfz28_4 := blk_frozen BK440.out 4) | ((with_reducible refine gate_callee (f := 38) rfl ?_); refine goesL_ (some 32) rfl rfl Try.func38 (by kernel_rfl) rfl #[.agg #[.int .i64 t446, .string t447, .string t448, .string t449, .int .u64 t450]] rfl (by (try simp only [List.map_toArray, List.map_cons, List.map_nil]); first | done | rfl | (simp only [List.length_drop, List.length_take]; rfl)) ?_; (with_reducible refine (keys_Text.calls k t446 t447 t448 t449 t450 t453 t454 _ A8.out).mono ?_); rintro e w29 ⟨rfl, hb⟩; refine ⟨_, rfl, ?_⟩; have n0_ := Aside0.mk (blk_below (g := gb439) (o := .cells #[.int .i64 t441, .string t442, .string t443, .string t444, .int .u64 t445] 74 (0, 0)) (by (with_reducible repeat (first | refine blk_drewN ?_ _ | refine blk_drew ?_ | refine blk_alloc ?_ _)); exact BK439.out) hb); have n1_ := Aside0.mk (blk_below (g := gb440) (o := .cells #[.int .i64 t446, .string t447, .string t448, .string t449, .int .u64 t450] 74 (0, 0)) (by (with_reducible repeat (first | refine blk_drewN ?_ _ | refine blk_drew ?_ | refine blk_alloc ?_ _)); exact BK440.out) hb); have n2_ := Aside0.mk (below_step (by repeat (first | (with_reducible first | exact HB.out | apply below_alloc | apply pw_below_drewN | apply below_drew1 | refine below_set ?_ GE439.out | refine below_set ?_ GE440.out) | exact HB.out)) hb); clear BK439; clear BK440; clear HB; have BK439 := n0_; have BK440 := n1_; have HB := n2_; clear n0_ n1_ n2_; (try clear hb); (try clear hb2); (try clear hk); (try clear hi); (try clear hge)))
  (try simp only [Act.put, List.setIfInBounds_toArray, List.set_cons_zero, List.set_cons_succ])
  go_cut [44] (fun v44 wc => ∃ (kq : Nat) (x44_8 : Bool), v44 = .bool x44_8 ∧ Aside0 (waybilllaw12_KeysOrder.j0 kq a2 a3 x44_8 t441 t442 t443 t444 t445 = some r) ∧ Aside0 (kq ≤ k) ∧ Aside0 (wc.heap[gb439]? = some (.cells #[.int .i64 t441, .string t442, .string t443, .string t444, .int .u64 t445] 74 (0, 0))) ∧ Aside0 (wc.heap[gb440]? = some (.cells #[.int .i64 t446, .string t447, .string t448, .string t449, .int .u64 t450] 74 (0, 0))) ∧ Aside0 (Below w.heap.size w wc))
  case first =>
    have H := HC9.out
    clear HC9
    by_cases c30 : t441 < t446
    · rw [if_pos c30] at H
      have c30b0 : decide (t441 < t446) = true := decide_eq_true c30
      clear c30
      (first | rw [c30b0] | rw [c30b2] | rw [c30b1] | (simp only [i64_w, i32_w]; rw [c30b0]) | skip)
      have H' := Aside0.mk H
      clear H
      have hnb31 := NB439_440.out
      have hnc31 := NB440_439.out
      have hcz32_0 : w29.cell? ⟨gb439, 0, none⟩ = some (.int .i64 t441) := (blk_cell BK439.out 0).trans rfl
      have hcz32_1 : w29.cell? ⟨gb439, 1, none⟩ = some (.string t442) := (blk_cell BK439.out 1).trans rfl
      have hcz32_2 : w29.cell? ⟨gb439, 2, none⟩ = some (.string t443) := (blk_cell BK439.out 2).trans rfl
      have hcz32_3 : w29.cell? ⟨gb439, 3, none⟩ = some (.string t444) := (blk_cell BK439.out 3).trans rfl
      have hcz32_4 : w29.cell? ⟨gb439, 4, none⟩ = some (.int .u64 t445) := (blk_cell BK439.out 4).trans rfl
      have hfz32_0 := blk_frozen BK439.out 0
      have hfz32_1 := blk_frozen BK439.out 1
      have hfz32_2 := blk_frozen BK439.out 2
      have hfz32_3 := blk_frozen BK439.out 3
      have hfz32_4 := blk_frozen BK439.out 4
      have hcz33_0 : w29.cell? ⟨gb440, 0, none⟩ = some (.int .i64 t446) := (blk_cell BK440.out 0).trans rfl
      have hcz33_1 : w29.cell? ⟨gb440, 1, none⟩ = some (.string t447) := (blk_cell BK440.out 1).trans rfl
      have hcz33_2 : w29.cell? ⟨gb440, 2, none⟩ = some (.string t448) := (blk_cell BK440.out 2).trans rfl
      have hcz33_3 : w29.cell? ⟨gb440, 3, none⟩ = some (.string t449) := (blk_cell BK440.out 3).trans rfl
      have hcz33_4 : w29.cell? ⟨gb440, 4, none⟩ = some (.int .u64 t450) := (blk_cell BK440.out 4).trans rfl
      have hfz33_0 := blk_frozen BK440.out 0
      have hfz33_1 := blk_frozen BK440.out 1
      have hfz33_2 := blk_frozen BK440.out 2
      have hfz33_3 := blk_frozen BK440.out 3
      have hfz33_4 := blk_frozen BK440.out 4
      go_wp2
      go_meet
      case rel => exact ⟨_, (!(Op.bytesLess t451.toList t453.toList)), (by first | rfl | (simp; done) | (simp [*]; done)), H', ⟨by first | omega | exact Nat.le_refl _⟩, ⟨by (with_reducible repeat (first | refine blk_drewN ?_ _ | refine blk_drew ?_ | refine blk_alloc ?_ _)); exact BK439.out⟩, ⟨by (with_reducible repeat (first | refine blk_drewN ?_ _ | refine blk_drew ?_ | refine blk_alloc ?_ _)); exact BK440.out⟩, ⟨by repeat (first | (with_reducible first | exact HB.out | apply below_alloc | apply pw_below_drewN | apply below_drew1 | refine below_set ?_ GE439.out | refine below_set ?_ GE440.out) | exact HB.out)⟩⟩
    · rw [if_neg c30] at H
      have c30b0 : decide (t441 < t446) = false := decide_eq_false c30
      clear c30
      (first | rw [c30b0] | rw [c30b2] | rw [c30b1] | (simp only [i64_w, i32_w]; rw [c30b0]) | skip)
      have H' := Aside0.mk H
      clear H
      have hnb34 := NB439_440.out
      have hnc34 := NB440_439.out
      have hcz35_0 : w29.cell? ⟨gb439, 0, none⟩ = some (.int .i64 t441) := (blk_cell BK439.out 0).trans rfl
      have hcz35_1 : w29.cell? ⟨gb439, 1, none⟩ = some (.string t442) := (blk_cell BK439.out 1).trans rfl
      have hcz35_2 : w29.cell? ⟨gb439, 2, none⟩ = some (.string t443) := (blk_cell BK439.out 2).trans rfl
      have hcz35_3 : w29.cell? ⟨gb439, 3, none⟩ = some (.string t444) := (blk_cell BK439.out 3).trans rfl
      have hcz35_4 : w29.cell? ⟨gb439, 4, none⟩ = some (.int .u64 t445) := (blk_cell BK439.out 4).trans rfl
      have hfz35_0 := blk_frozen BK439.out 0
      have hfz35_1 := blk_frozen BK439.out 1
      have hfz35_2 := blk_frozen BK439.out 2
      have hfz35_3 := blk_frozen BK439.out 3
      have hfz35_4 := blk_frozen BK439.out 4
      have hcz36_0 : w29.cell? ⟨gb440, 0, none⟩ = some (.int .i64 t446) := (blk_cell BK440.out 0).trans rfl
      have hcz36_1 : w29.cell? ⟨gb440, 1, none⟩ = some (.string t447) := (blk_cell BK440.out 1).trans rfl
      have hcz36_2 : w29.cell? ⟨gb440, 2, none⟩ = some (.string t448) := (blk_cell BK440.out 2).trans rfl
      have hcz36_3 : w29.cell? ⟨gb440, 3, none⟩ = some (.string t449) := (blk_cell BK440.out 3).trans rfl
      have hcz36_4 : w29.cell? ⟨gb440, 4, none⟩ = some (.int .u64 t450) := (blk_cell BK440.out 4).trans rfl
      have hfz36_0 := blk_frozen BK440.out 0
      have hfz36_1 := blk_frozen BK440.out 1
      have hfz36_2 := blk_frozen BK440.out 2
      have hfz36_3 := blk_frozen BK440.out 3
      have hfz36_4 := blk_frozen BK440.out 4
      go_wp2
      go_meet
      case rel => exact ⟨_, (false), (by first | rfl | (simp; done) | (simp [*]; done)), H', ⟨by first | omega | exact Nat.le_refl _⟩, ⟨by (with_reducible repeat (first | refine blk_drewN ?_ _ | refine blk_drew ?_ | refine blk_alloc ?_ _)); exact BK439.out⟩, ⟨by (with_reducible repeat (first | refine blk_drewN ?_ _ | refine blk_drew ?_ | refine blk_alloc ?_ _)); exact BK440.out⟩, ⟨by repeat (first | (with_reducible first | exact HB.out | apply below_alloc | apply pw_below_drewN | apply below_drew1 | refine below_set ?_ GE439.out | refine below_set ?_ GE440.out) | exact HB.out)⟩⟩
  case rest =>
    clear HC9
    try clear c1
    try clear c2
    try clear p2
    try clear c3
    try clear c4
    try clear c13
    try clear c25
    try clear c30
    try clear c30b0
    try clear c31
    try clear c34
    try clear hcz26_0
    try clear hcz26_1
    try clear hcz26_2
    try clear hcz26_3
    try clear hcz26_4
    try clear hcz28_0
    try clear hcz28_1
    try clear hcz28_2
    try clear hcz28_3
    try clear hcz28_4
    try clear hcz32_0
    try clear hcz32_1
    try clear hcz32_2
    try clear hcz32_3
    try clear hcz32_4
    try clear hcz33_0
    try clear hcz33_1
    try clear hcz33_2
    try clear hcz33_3
    try clear hcz33_4
    try clear hcz35_0
    try clear hcz35_1
    try clear hcz35_2
    try clear hcz35_3
    try clear hcz35_4
    try clear hcz36_0
    try clear hcz36_1
    try clear hcz36_2
    try clear hcz36_3
    try clear hcz36_4
    try clear hfz26_0
    try clear hfz26_1
    try clear hfz26_2
    try clear hfz26_3
    try clear hfz26_4
    try clear hfz28_0
    try clear hfz28_1
    try clear hfz28_2
    try clear hfz28_3
    try clear hfz28_4
    try clear hfz32_0
    try clear hfz32_1
    try clear hfz32_2
    try clear hfz32_3
    try clear hfz32_4
    try clear hfz33_0
    try clear hfz33_1
    try clear hfz33_2
    try clear hfz33_3
    try clear hfz33_4
    try clear hfz35_0
    try clear hfz35_1
    try clear hfz35_2
    try clear hfz35_3
    try clear hfz35_4
    try clear hfz36_0
    try clear hfz36_1
    try clear hfz36_2
    try clear hfz36_3
    try clear hfz36_4
    obtain ⟨kq, x44_8, rfl, HA, HJ8, BK439, BK440, HB⟩ := hcut
    cases kq with
    | zero => exact absurd HA.out (by simp [waybilllaw12_KeysOrder.j0])
    | succ kj8 =>
      have H := HA.out
      clear HA
      simp only [waybilllaw12_KeysOrder.j0] at H
      by_cases c37 : x44_8 = true
      · subst c37
        have H1 : (none) = some r := by rw [if_pos rfl] at H; exact H
        clear H
        have H := H1
        clear H1
        exact absurd H (by simp)
      · replace c37 := Bool.eq_false_iff.mpr c37
        subst c37
        have H1 : (if 0 ≤ (mn (t442.size : Int) 20) then (if (mn (t442.size : Int) 20) ≤ (t442.size : Int) then (if 1 + (t442.extract 0 ((mn (t442.size : Int) 20) : Int).toNat).size ≤ 9223372036854775807 then ((keys_Text.f kj8 5 ((⟨#[113]⟩ : ByteArray) ++ (t442.extract 0 ((mn (t442.size : Int) 20) : Int).toNat)) (⟨#[]⟩ : ByteArray) (⟨#[]⟩ : ByteArray) (mx a2 1)).bind fun bt455 => ((keys_Text.f kj8 5 ((⟨#[113]⟩ : ByteArray) ++ (t442.extract 0 ((mn (t442.size : Int) 20) : Int).toNat)) (⟨#[]⟩ : ByteArray) (⟨#[]⟩ : ByteArray) (mx a3 1)).bind fun bt457 => ((keys_Text.f kj8 4 (⟨#[]⟩ : ByteArray) (⟨#[]⟩ : ByteArray) (⟨#[]⟩ : ByteArray) (mx a2 1)).bind fun bt459 => ((keys_Text.f kj8 4 (⟨#[]⟩ : ByteArray) (⟨#[]⟩ : ByteArray) (⟨#[]⟩ : ByteArray) (mx a3 1)).bind fun bt461 => (if ((Op.bytesLess bt455.1.toList bt457.1.toList) == (decide ((mx a2 1) < (mx a3 1)))) = true then (if ((Op.bytesLess bt459.1.toList bt461.1.toList) == (decide ((mx a2 1) < (mx a3 1)))) = true then ((waybilllaw12_awake.f kj8).bind fun t463 => (some t463)) else (none)) else (none)))))) else (none)) else (none)) else (none)) = some r := by rw [if_neg (show ¬ (false = true) by decide)] at H; exact H
        clear H
        have H := H1
        clear H1
        obtain ⟨ji38, hji38⟩ : ∃ j_ : Int, (mx a2 1) = j_ := ⟨_, rfl⟩
        replace H : (if 0 ≤ (mn (t442.size : Int) 20) then (if (mn (t442.size : Int) 20) ≤ (t442.size : Int) then (if 1 + (t442.extract 0 ((mn (t442.size : Int) 20) : Int).toNat).size ≤ 9223372036854775807 then ((keys_Text.f kj8 5 ((⟨#[113]⟩ : ByteArray) ++ (t442.extract 0 ((mn (t442.size : Int) 20) : Int).toNat)) (⟨#[]⟩ : ByteArray) (⟨#[]⟩ : ByteArray) (ji38)).bind fun bt455 => ((keys_Text.f kj8 5 ((⟨#[113]⟩ : ByteArray) ++ (t442.extract 0 ((mn (t442.size : Int) 20) : Int).toNat)) (⟨#[]⟩ : ByteArray) (⟨#[]⟩ : ByteArray) (mx a3 1)).bind fun bt457 => ((keys_Text.f kj8 4 (⟨#[]⟩ : ByteArray) (⟨#[]⟩ : ByteArray) (⟨#[]⟩ : ByteArray) (ji38)).bind fun bt459 => ((keys_Text.f kj8 4 (⟨#[]⟩ : ByteArray) (⟨#[]⟩ : ByteArray) (⟨#[]⟩ : ByteArray) (mx a3 1)).bind fun bt461 => (if ((Op.bytesLess bt455.1.toList bt457.1.toList) == (decide ((ji38) < (mx a3 1)))) = true then (if ((Op.bytesLess bt459.1.toList bt461.1.toList) == (decide ((ji38) < (mx a3 1)))) = true then ((waybilllaw12_awake.f kj8).bind fun t463 => (some t463)) else (none)) else (none)))))) else (none)) else (none)) else (none)) = some r := by first | (rw [hji38] at H; exact H) | (simp only [hji38] at H ⊢; exact H)
        have hji38_ : (if a2 < 1 then 1 else a2) = ji38 := hji38
        obtain ⟨ji39, hji39⟩ : ∃ j_ : Int, (mx a3 1) = j_ := ⟨_, rfl⟩
        replace H : (if 0 ≤ (mn (t442.size : Int) 20) then (if (mn (t442.size : Int) 20) ≤ (t442.size : Int) then (if 1 + (t442.extract 0 ((mn (t442.size : Int) 20) : Int).toNat).size ≤ 9223372036854775807 then ((keys_Text.f kj8 5 ((⟨#[113]⟩ : ByteArray) ++ (t442.extract 0 ((mn (t442.size : Int) 20) : Int).toNat)) (⟨#[]⟩ : ByteArray) (⟨#[]⟩ : ByteArray) (ji38)).bind fun bt455 => ((keys_Text.f kj8 5 ((⟨#[113]⟩ : ByteArray) ++ (t442.extract 0 ((mn (t442.size : Int) 20) : Int).toNat)) (⟨#[]⟩ : ByteArray) (⟨#[]⟩ : ByteArray) (ji39)).bind fun bt457 => ((keys_Text.f kj8 4 (⟨#[]⟩ : ByteArray) (⟨#[]⟩ : ByteArray) (⟨#[]⟩ : ByteArray) (ji38)).bind fun bt459 => ((keys_Text.f kj8 4 (⟨#[]⟩ : ByteArray) (⟨#[]⟩ : ByteArray) (⟨#[]⟩ : ByteArray) (ji39)).bind fun bt461 => (if ((Op.bytesLess bt455.1.toList bt457.1.toList) == (decide ((ji38) < (ji39)))) = true then (if ((Op.bytesLess bt459.1.toList bt461.1.toList) == (decide ((ji38) < (ji39)))) = true then ((waybilllaw12_awake.f kj8).bind fun t463 => (some t463)) else (none)) else (none)))))) else (none)) else (none)) else (none)) = some r := by first | (rw [hji39] at H; exact H) | (simp only [hji39] at H ⊢; exact H)
        (try (have hji39l : 1 ≤ ji39 := by (rw [← hji39]; unfold mx; (repeat' split) <;> omega)))
        (try (have hji39m : 0 ≤ ji39 := by omega))
        have hji39_ : (if a3 < 1 then 1 else a3) = ji39 := hji39
        obtain ⟨ji40, hji40⟩ : ∃ j_ : Int, (mn (t442.size : Int) 20) = j_ := ⟨_, rfl⟩
        replace H : (if 0 ≤ (ji40) then (if (ji40) ≤ (t442.size : Int) then (if 1 + (t442.extract 0 ((ji40) : Int).toNat).size ≤ 9223372036854775807 then ((keys_Text.f kj8 5 ((⟨#[113]⟩ : ByteArray) ++ (t442.extract 0 ((ji40) : Int).toNat)) (⟨#[]⟩ : ByteArray) (⟨#[]⟩ : ByteArray) (ji38)).bind fun bt455 => ((keys_Text.f kj8 5 ((⟨#[113]⟩ : ByteArray) ++ (t442.extract 0 ((ji40) : Int).toNat)) (⟨#[]⟩ : ByteArray) (⟨#[]⟩ : ByteArray) (ji39)).bind fun bt457 => ((keys_Text.f kj8 4 (⟨#[]⟩ : ByteArray) (⟨#[]⟩ : ByteArray) (⟨#[]⟩ : ByteArray) (ji38)).bind fun bt459 => ((keys_Text.f kj8 4 (⟨#[]⟩ : ByteArray) (⟨#[]⟩ : ByteArray) (⟨#[]⟩ : ByteArray) (ji39)).bind fun bt461 => (if ((Op.bytesLess bt455.1.toList bt457.1.toList) == (decide ((ji38) < (ji39)))) = true then (if ((Op.bytesLess bt459.1.toList bt461.1.toList) == (decide ((ji38) < (ji39)))) = true then ((waybilllaw12_awake.f kj8).bind fun t463 => (some t463)) else (none)) else (none)))))) else (none)) else (none)) else (none)) = some r := by first | (rw [hji40] at H; exact H) | (simp only [hji40] at H ⊢; exact H)
        have hji40_ : (if 20 < (t442.size : Int) then 20 else (t442.size : Int)) = ji40 := hji40
        (try (have hji40u : ji40 ≤ 20 := by (rw [← hji40]; unfold mn; (repeat' split) <;> omega)))
        (try (have hji40v : ¬ (9223372036854775807 < 1 + ji40.toNat) := by omega))
        by_cases c41 : 0 ≤ (ji40)
        · rw [if_pos c41] at H
          have c41b0 := eq_true c41
          have c41b1 : decide (0 ≤ (ji40)) = true := decide_eq_true c41
          clear c41
          by_cases c42 : (ji40) ≤ (t442.size : Int)
          · rw [if_pos c42] at H
            have c42b0 := eq_true c42
            have c42b1 : decide ((ji40) ≤ (t442.size : Int)) = true := decide_eq_true c42
            clear c42
            by_cases c43 : 1 + (t442.extract 0 ((ji40) : Int).toNat).size ≤ 9223372036854775807
            · rw [if_pos c43] at H
              have c43b0 := eq_true c43
              have c43b1 : decide (1 + (t442.extract 0 ((ji40) : Int).toNat).size ≤ 9223372036854775807) = true := decide_eq_true c43
              try have c43b2 : (9223372036854775807 < 1 + (t442.extract 0 ((ji40) : Int).toNat).size) = False := eq_false (Nat.not_lt.2 c43)
              replace H := Option.bind_eq_some_iff.mp H
              obtain ⟨⟨t455, t456⟩, A440, H⟩ := H
              replace H : ((keys_Text.f kj8 5 ((⟨#[113]⟩ : ByteArray) ++ (t442.extract 0 ((ji40) : Int).toNat)) (⟨#[]⟩ : ByteArray) (⟨#[]⟩ : ByteArray) (ji39)).bind fun bt457 => ((keys_Text.f kj8 4 (⟨#[]⟩ : ByteArray) (⟨#[]⟩ : ByteArray) (⟨#[]⟩ : ByteArray) (ji38)).bind fun bt459 => ((keys_Text.f kj8 4 (⟨#[]⟩ : ByteArray) (⟨#[]⟩ : ByteArray) (⟨#[]⟩ : ByteArray) (ji39)).bind fun bt461 => (if ((Op.bytesLess t455.toList bt457.1.toList) == (decide ((ji38) < (ji39)))) = true then (if ((Op.bytesLess bt459.1.toList bt461.1.toList) == (decide ((ji38) < (ji39)))) = true then ((waybilllaw12_awake.f kj8).bind fun t463 => (some t463)) else (none)) else (none))))) = some r := H
              have A44 := Aside0.mk A440
              clear A440
              have c46b0 := eq_true (of_decide_eq_true (by first | (with_reducible assumption) | assumption) : 0 ≤ (ji40))
              have c47b0 := eq_true (of_decide_eq_true (by first | (with_reducible assumption) | assumption) : (ji40) ≤ (t442.size : Int))
              replace H := Option.bind_eq_some_iff.mp H
              obtain ⟨⟨t457, t458⟩, A480, H⟩ := H
              replace H : ((keys_Text.f kj8 4 (⟨#[]⟩ : ByteArray) (⟨#[]⟩ : ByteArray) (⟨#[]⟩ : ByteArray) (ji38)).bind fun bt459 => ((keys_Text.f kj8 4 (⟨#[]⟩ : ByteArray) (⟨#[]⟩ : ByteArray) (⟨#[]⟩ : ByteArray) (ji39)).bind fun bt461 => (if ((Op.bytesLess t455.toList t457.toList) == (decide ((ji38) < (ji39)))) = true then (if ((Op.bytesLess bt459.1.toList bt461.1.toList) == (decide ((ji38) < (ji39)))) = true then ((waybilllaw12_awake.f kj8).bind fun t463 => (some t463)) else (none)) else (none)))) = some r := H
              have A48 := Aside0.mk A480
              clear A480
              replace H := Option.bind_eq_some_iff.mp H
              obtain ⟨⟨t459, t460⟩, A490, H⟩ := H
              replace H : ((keys_Text.f kj8 4 (⟨#[]⟩ : ByteArray) (⟨#[]⟩ : ByteArray) (⟨#[]⟩ : ByteArray) (ji39)).bind fun bt461 => (if ((Op.bytesLess t455.toList t457.toList) == (decide ((ji38) < (ji39)))) = true then (if ((Op.bytesLess t459.toList bt461.1.toList) == (decide ((ji38) < (ji39)))) = true then ((waybilllaw12_awake.f kj8).bind fun t463 => (some t463)) else (none)) else (none))) = some r := H
              have A49 := Aside0.mk A490
              clear A490
              replace H := Option.bind_eq_some_iff.mp H
              obtain ⟨⟨t461, t462⟩, A500, H⟩ := H
              replace H : (if ((Op.bytesLess t455.toList t457.toList) == (decide ((ji38) < (ji39)))) = true then (if ((Op.bytesLess t459.toList t461.toList) == (decide ((ji38) < (ji39)))) = true then ((waybilllaw12_awake.f kj8).bind fun t463 => (some t463)) else (none)) else (none)) = some r := H
              have A50 := Aside0.mk A500
              clear A500
              by_cases c51 : ((Op.bytesLess t455.toList t457.toList) == (decide ((ji38) < (ji39)))) = true
              · rw [if_pos c51] at H
                have c51b0 : ((Op.bytesLess t455.toList t457.toList) == (decide ((ji38) < (ji39)))) = true := c51
                (try (have c51b1 : decide ((Op.bytesLess t455.toList t457.toList) = (decide ((ji38) < (ji39)))) = true := by simpa using c51))
                (try (have c51b2 : ((Op.bytesLess t455.toList t457.toList) == (decide ((ji38) < (ji39)))) = true := by simpa using c51))
                clear c51
                by_cases c52 : ((Op.bytesLess t459.toList t461.toList) == (decide ((ji38) < (ji39)))) = true
                · rw [if_pos c52] at H
                  have c52b0 : ((Op.bytesLess t459.toList t461.toList) == (decide ((ji38) < (ji39)))) = true := c52
                  (try (have c52b1 : decide ((Op.bytesLess t459.toList t461.toList) = (decide ((ji38) < (ji39)))) = true := by simpa using c52))
                  (try (have c52b2 : ((Op.bytesLess t459.toList t461.toList) == (decide ((ji38) < (ji39)))) = true := by simpa using c52))
                  clear c52
                  replace H := Option.bind_eq_some_iff.mp H
                  obtain ⟨t463, A530, H⟩ := H
                  replace H : (some t463) = some r := H
                  have A53 := Aside0.mk A530
                  clear A530
                  obtain rfl := Option.some.inj H
                  have hnb54 := NB439_440.out
                  have hnc54 := NB440_439.out
                  have hcz55_0 : wc.cell? ⟨gb439, 0, none⟩ = some (.int .i64 t441) := (blk_cell BK439.out 0).trans rfl
                  have hcz55_1 : wc.cell? ⟨gb439, 1, none⟩ = some (.string t442) := (blk_cell BK439.out 1).trans rfl
                  have hcz55_2 : wc.cell? ⟨gb439, 2, none⟩ = some (.string t443) := (blk_cell BK439.out 2).trans rfl
                  have hcz55_3 : wc.cell? ⟨gb439, 3, none⟩ = some (.string t444) := (blk_cell BK439.out 3).trans rfl
                  have hcz55_4 : wc.cell? ⟨gb439, 4, none⟩ = some (.int .u64 t445) := (blk_cell BK439.out 4).trans rfl
                  have hfz55_0 := blk_frozen BK439.out 0
                  have hfz55_1 := blk_frozen BK439.out 1
                  have hfz55_2 := blk_frozen BK439.out 2
                  have hfz55_3 := blk_frozen BK439.out 3
                  have hfz55_4 := blk_frozen BK439.out 4
                  go_wp2_with (first | ((with_reducible refine gate_callee (f := 38) rfl ?_); refine goesL_ (some 60) rfl rfl Try.func38 (by kernel_rfl) rfl #[.agg #[.int .i64 5, .string ((⟨#[113]⟩ : ByteArray) ++ (t442.extract 0 ((ji40) : Int).toNat)), .string (⟨#[]⟩ : ByteArray), .string (⟨#[]⟩ : ByteArray), .int .u64 ji38]] rfl (by (try simp only [List.map_toArray, List.map_cons, List.map_nil]); first | done | (simp only [hji38, hji40]; rfl) | rfl | (simp only [List.length_drop, List.length_take]; rfl)) ?_; (with_reducible refine (keys_Text.calls kj8 5 ((⟨#[113]⟩ : ByteArray) ++ (t442.extract 0 ((ji40) : Int).toNat)) (⟨#[]⟩ : ByteArray) (⟨#[]⟩ : ByteArray) ji38 t455 t456 _ A44.out).mono ?_); rintro e w56 ⟨rfl, hb⟩; refine ⟨_, rfl, ?_⟩; have n0_ := Aside0.mk (blk_below (g := gb439) (o := .cells #[.int .i64 t441, .string t442, .string t443, .string t444, .int .u64 t445] 74 (0, 0)) (by (with_reducible repeat (first | refine blk_drewN ?_ _ | refine blk_drew ?_ | refine blk_alloc ?_ _)); exact BK439.out) hb); have n1_ := Aside0.mk (blk_below (g := gb440) (o := .cells #[.int .i64 t446, .string t447, .string t448, .string t449, .int .u64 t450] 74 (0, 0)) (by (with_reducible repeat (first | refine blk_drewN ?_ _ | refine blk_drew ?_ | refine blk_alloc ?_ _)); exact BK440.out) hb); have n2_ := Aside0.mk (below_step (by repeat (first | (with_reducible first | exact HB.out | apply below_alloc | apply pw_below_drewN | apply below_drew1 | refine below_set ?_ GE439.out | refine below_set ?_ GE440.out) | exact HB.out)) hb); clear BK439; clear BK440; clear HB; have BK439 := n0_; have BK440 := n1_; have HB := n2_; clear n0_ n1_ n2_; (try clear hb); (try clear hb2); (try clear hk); (try clear hi); (try clear hge); have hcz57_0 : w56.cell? ⟨gb439, 0, none⟩ = some (.int .i64 t441) := (blk_cell BK439.out 0).trans rfl; have hcz57_1 : w56.cell? ⟨gb439, 1, none⟩ = some (.string t442) := (blk_cell BK439.out 1).trans rfl; have hcz57_2 : w56.cell? ⟨gb439, 2, none⟩ = some (.string t443) := (blk_cell BK439.out 2).trans rfl; have hcz57_3 : w56.cell? ⟨gb439, 3, none⟩ = some (.string t444) := (blk_cell BK439.out 3).trans rfl; have hcz57_4 : w56.cell? ⟨gb439, 4, none⟩ = some (.int .u64 t445) := (blk_cell BK439.out 4).trans rfl; have hfz57_0 := blk_frozen BK439.out 0; have hfz57_1 := blk_frozen BK439.out 1; have hfz57_2 := blk_frozen BK439.out 2; have hfz57_3 := blk_frozen BK439.out 3; have hfz57_4 := blk_frozen BK439.out 4) | ((with_reducible refine gate_callee (f := 38) rfl ?_); refine goesL_ (some 74) rfl rfl Try.func38 (by kernel_rfl) rfl #[.agg #[.int .i64 5, .string ((⟨#[113]⟩ : ByteArray) ++ (t442.extract 0 ((ji40) : Int).toNat)), .string (⟨#[]⟩ : ByteArray), .string (⟨#[]⟩ : ByteArray), .int .u64 ji39]] rfl (by (try simp only [List.map_toArray, List.map_cons, List.map_nil]); first | done | (simp only [hji39, hji40]; rfl) | rfl | (simp only [List.length_drop, List.length_take]; rfl)) ?_; (with_reducible refine (keys_Text.calls kj8 5 ((⟨#[113]⟩ : ByteArray) ++ (t442.extract 0 ((ji40) : Int).toNat)) (⟨#[]⟩ : ByteArray) (⟨#[]⟩ : ByteArray) ji39 t457 t458 _ A48.out).mono ?_); rintro e w58 ⟨rfl, hb⟩; refine ⟨_, rfl, ?_⟩; have n0_ := Aside0.mk (blk_below (g := gb439) (o := .cells #[.int .i64 t441, .string t442, .string t443, .string t444, .int .u64 t445] 74 (0, 0)) (by (with_reducible repeat (first | refine blk_drewN ?_ _ | refine blk_drew ?_ | refine blk_alloc ?_ _)); exact BK439.out) hb); have n1_ := Aside0.mk (blk_below (g := gb440) (o := .cells #[.int .i64 t446, .string t447, .string t448, .string t449, .int .u64 t450] 74 (0, 0)) (by (with_reducible repeat (first | refine blk_drewN ?_ _ | refine blk_drew ?_ | refine blk_alloc ?_ _)); exact BK440.out) hb); have n2_ := Aside0.mk (below_step (by repeat (first | (with_reducible first | exact HB.out | apply below_alloc | apply pw_below_drewN | apply below_drew1 | refine below_set ?_ GE439.out | refine below_set ?_ GE440.out) | exact HB.out)) hb); clear BK439; clear BK440; clear HB; have BK439 := n0_; have BK440 := n1_; have HB := n2_; clear n0_ n1_ n2_; (try clear hb); (try clear hb2); (try clear hk); (try clear hi); (try clear hge)) | ((with_reducible refine gate_callee (f := 38) rfl ?_); refine goesL_ (some 80) rfl rfl Try.func38 (by kernel_rfl) rfl #[.agg #[.int .i64 4, .string (⟨#[]⟩ : ByteArray), .string (⟨#[]⟩ : ByteArray), .string (⟨#[]⟩ : ByteArray), .int .u64 ji38]] rfl (by (try simp only [List.map_toArray, List.map_cons, List.map_nil]); first | done | (simp only [hji38]; rfl) | rfl | (simp only [List.length_drop, List.length_take]; rfl)) ?_; (with_reducible refine (keys_Text.calls kj8 4 (⟨#[]⟩ : ByteArray) (⟨#[]⟩ : ByteArray) (⟨#[]⟩ : ByteArray) ji38 t459 t460 _ A49.out).mono ?_); rintro e w59 ⟨rfl, hb⟩; refine ⟨_, rfl, ?_⟩; have n0_ := Aside0.mk (blk_below (g := gb439) (o := .cells #[.int .i64 t441, .string t442, .string t443, .string t444, .int .u64 t445] 74 (0, 0)) (by (with_reducible repeat (first | refine blk_drewN ?_ _ | refine blk_drew ?_ | refine blk_alloc ?_ _)); exact BK439.out) hb); have n1_ := Aside0.mk (blk_below (g := gb440) (o := .cells #[.int .i64 t446, .string t447, .string t448, .string t449, .int .u64 t450] 74 (0, 0)) (by (with_reducible repeat (first | refine blk_drewN ?_ _ | refine blk_drew ?_ | refine blk_alloc ?_ _)); exact BK440.out) hb); have n2_ := Aside0.mk (below_step (by repeat (first | (with_reducible first | exact HB.out | apply below_alloc | apply pw_below_drewN | apply below_drew1 | refine below_set ?_ GE439.out | refine below_set ?_ GE440.out) | exact HB.out)) hb); clear BK439; clear BK440; clear HB; have BK439 := n0_; have BK440 := n1_; have HB := n2_; clear n0_ n1_ n2_; (try clear hb); (try clear hb2); (try clear hk); (try clear hi); (try clear hge)) | ((with_reducible refine gate_callee (f := 38) rfl ?_); refine goesL_ (some 86) rfl rfl Try.func38 (by kernel_rfl) rfl #[.agg #[.int .i64 4, .string (⟨#[]⟩ : ByteArray), .string (⟨#[]⟩ : ByteArray), .string (⟨#[]⟩ : ByteArray), .int .u64 ji39]] rfl (by (try simp only [List.map_toArray, List.map_cons, List.map_nil]); first | done | (simp only [hji39]; rfl) | rfl | (simp only [List.length_drop, List.length_take]; rfl)) ?_; (with_reducible refine (keys_Text.calls kj8 4 (⟨#[]⟩ : ByteArray) (⟨#[]⟩ : ByteArray) (⟨#[]⟩ : ByteArray) ji39 t461 t462 _ A50.out).mono ?_); rintro e w60 ⟨rfl, hb⟩; refine ⟨_, rfl, ?_⟩; have n0_ := Aside0.mk (blk_below (g := gb439) (o := .cells #[.int .i64 t441, .string t442, .string t443, .string t444, .int .u64 t445] 74 (0, 0)) (by (with_reducible repeat (first | refine blk_drewN ?_ _ | refine blk_drew ?_ | refine blk_alloc ?_ _)); exact BK439.out) hb); have n1_ := Aside0.mk (blk_below (g := gb440) (o := .cells #[.int .i64 t446, .string t447, .string t448, .string t449, .int .u64 t450] 74 (0, 0)) (by (with_reducible repeat (first | refine blk_drewN ?_ _ | refine blk_drew ?_ | refine blk_alloc ?_ _)); exact BK440.out) hb); have n2_ := Aside0.mk (below_step (by repeat (first | (with_reducible first | exact HB.out | apply below_alloc | apply pw_below_drewN | apply below_drew1 | refine below_set ?_ GE439.out | refine below_set ?_ GE440.out) | exact HB.out)) hb); clear BK439; clear BK440; clear HB; have BK439 := n0_; have BK440 := n1_; have HB := n2_; clear n0_ n1_ n2_; (try clear hb); (try clear hb2); (try clear hk); (try clear hi); (try clear hge)) | (go_at_call 37; (with_reducible refine (waybilllaw12_awake.calls kj8  t463 _ A53.out).mono ?_); rintro e w61 ⟨rfl, hb⟩; have n0_ := Aside0.mk (blk_below (g := gb439) (o := .cells #[.int .i64 t441, .string t442, .string t443, .string t444, .int .u64 t445] 74 (0, 0)) (by (with_reducible repeat (first | refine blk_drewN ?_ _ | refine blk_drew ?_ | refine blk_alloc ?_ _)); exact BK439.out) hb); have n1_ := Aside0.mk (blk_below (g := gb440) (o := .cells #[.int .i64 t446, .string t447, .string t448, .string t449, .int .u64 t450] 74 (0, 0)) (by (with_reducible repeat (first | refine blk_drewN ?_ _ | refine blk_drew ?_ | refine blk_alloc ?_ _)); exact BK440.out) hb); have n2_ := Aside0.mk (below_step (by repeat (first | (with_reducible first | exact HB.out | apply below_alloc | apply pw_below_drewN | apply below_drew1 | refine below_set ?_ GE439.out | refine below_set ?_ GE440.out) | exact HB.out)) hb); clear BK439; clear BK440; clear HB; have BK439 := n0_; have BK440 := n1_; have HB := n2_; clear n0_ n1_ n2_; (try clear hb); (try clear hb2); (try clear hk); (try clear hi); (try clear hge)))
                  all_goals first | (go_ret; exact ⟨by first | rfl | (simp [errW_none, errW_some]; done) | (simp [errW_none, errW_some]; rfl) | (simp only [← hji38, ← hji39, ← hji40]; first | rfl | (simp [errW_none, errW_some]; done) | (simp [errW_none, errW_some]; rfl)) | (simp [*, errW_none, errW_some]; done) | (simp [*, errW_none, errW_some]; rfl), by repeat (first | (with_reducible first | exact HB.out | apply below_alloc | apply pw_below_drewN | apply below_drew1 | refine below_set ?_ GE439.out | refine below_set ?_ GE440.out) | exact HB.out)⟩) | (exfalso; simp_all; done)
                · rw [if_neg c52] at H
                  exact absurd H (by simp)
              · rw [if_neg c51] at H
                exact absurd H (by simp)
            · rw [if_neg c43] at H
              exact absurd H (by simp)
          · rw [if_neg c42] at H
            exact absurd H (by simp)
        · rw [if_neg c41] at H
          exact absurd H (by simp)

end Go.Proofs.Ytpjkaodbcclecaa.PK
