/- What functions of the given program come to: printed; Lean checks it. -/
import Derived.Test.YtpjkaodbcclecaaPKx0
namespace Go.Proofs.Ytpjkaodbcclecaa.PK
open Go.RowKit Go.Proofs.YtpjkaodbcclecaaW.PrintWords Go.Proofs.YtpjkaodbcclecaaW.PrintLast Go.Proofs.YtpjkaodbcclecaaW.PrintMore
attribute [local go_sem] max2_int min2_int max_two min_two max_three min_three max_four min_four
set_option linter.unusedVariables false
set_option linter.unusedSimpArgs false

/-! ### waybilllaw12_Tame: function 43 -/
def waybilllaw12_Tame.j0 : Nat → Int → ByteArray → ByteArray → ByteArray → Int → Int → ByteArray → ByteArray → ByteArray → Int → Option (Int × ByteArray × ByteArray × ByteArray × Int)
 | 0, _, _, _, _, _, _, _, _, _, _ => none
 | k + 1, x301000, x301001, x301002, x301003, x301004, x303000, x303001, x303002, x303003, x303004 => if x303000 = 3 then (if 0 ≤ (mn (x301002.size : Int) 29) then (if (mn (x301002.size : Int) 29) ≤ (x301002.size : Int) then (if 1 + (x301002.extract 0 ((mn (x301002.size : Int) 29) : Int).toNat).size ≤ 9223372036854775807 then (if 0 ≤ (mn (x301003.size : Int) 60) then (if (mn (x301003.size : Int) 60) ≤ (x301003.size : Int) then (if x303000 ≥ 4 then (some (x303000, x303001, (⟨#[98]⟩ : ByteArray) ++ (x301002.extract 0 ((mn (x301002.size : Int) 29) : Int).toNat), x301003.extract 0 ((mn (x301003.size : Int) 60) : Int).toNat, mx x301004 1)) else (some (x303000, x303001, (⟨#[98]⟩ : ByteArray) ++ (x301002.extract 0 ((mn (x301002.size : Int) 29) : Int).toNat), x301003.extract 0 ((mn (x301003.size : Int) 60) : Int).toNat, x303004))) else (none)) else (none)) else (none)) else (none)) else (none)) else (if x303000 ≥ 4 then (some (x303000, x303001, x303002, x303003, mx x301004 1)) else (some (x303000, x303001, x303002, x303003, x303004)))
def waybilllaw12_Tame.f (k : Nat) (a0_0 : Int) (a0_1 : ByteArray) (a0_2 : ByteArray) (a0_3 : ByteArray) (a0_4 : Int) : Option (Int × ByteArray × ByteArray × ByteArray × Int) := if (wrap64 ((Int.tmod (wrap64 ((Int.tmod a0_0 5) + 5)) 5) + 1)) = 4 then (waybilllaw12_Tame.j0 k a0_0 a0_1 a0_2 a0_3 a0_4 (wrap64 ((Int.tmod (wrap64 ((Int.tmod a0_0 5) + 5)) 5) + 1)) (⟨#[]⟩ : ByteArray) (⟨#[]⟩ : ByteArray) (⟨#[]⟩ : ByteArray) 0) else (if 0 ≤ (mn (a0_1.size : Int) 29) then (if (mn (a0_1.size : Int) 29) ≤ (a0_1.size : Int) then (if 1 + (a0_1.extract 0 ((mn (a0_1.size : Int) 29) : Int).toNat).size ≤ 9223372036854775807 then (waybilllaw12_Tame.j0 k a0_0 a0_1 a0_2 a0_3 a0_4 (wrap64 ((Int.tmod (wrap64 ((Int.tmod a0_0 5) + 5)) 5) + 1)) ((⟨#[97]⟩ : ByteArray) ++ (a0_1.extract 0 ((mn (a0_1.size : Int) 29) : Int).toNat)) (⟨#[]⟩ : ByteArray) (⟨#[]⟩ : ByteArray) 0) else (none)) else (none)) else (none))
theorem waybilllaw12_Tame.mono_l : ∀ k, (∀ y0 y1 y2 y3 y4 y5 y6 y7 y8 y9, LeO (waybilllaw12_Tame.j0 k y0 y1 y2 y3 y4 y5 y6 y7 y8 y9) (waybilllaw12_Tame.j0 (k + 1) y0 y1 y2 y3 y4 y5 y6 y7 y8 y9))
 | 0 => fun _ _ _ _ _ _ _ _ _ _ r h => by simp [waybilllaw12_Tame.j0] at h
 | k + 1 => by
  have ih0 := waybilllaw12_Tame.mono_l k
  ·
   intro y0 y1 y2 y3 y4 y5 y6 y7 y8 y9
   unfold waybilllaw12_Tame.j0
   repeat' first
   | (with_reducible exact ih0 _ _ _ _ _ _ _ _ _ _)
   | (with_reducible exact LeO.refl _)
   | (with_reducible exact LeO.none _)
   | (with_reducible refine LeO.ite ?_ ?_)
   | (with_reducible refine LeO.bind ?_ (fun _ => ?_))
   | exact ih0 _ _ _ _ _ _ _ _ _ _
   | exact LeO.none _
   | refine LeO.ite ?_ ?_
   | refine LeO.bind ?_ (fun _ => ?_)
theorem waybilllaw12_Tame.mono : ∀ a0 a1 a2 a3 a4 k, LeO (waybilllaw12_Tame.f k a0 a1 a2 a3 a4) (waybilllaw12_Tame.f (k + 1) a0 a1 a2 a3 a4) := by
 intro a0 a1 a2 a3 a4 k
 have ih0 := waybilllaw12_Tame.mono_l k
 unfold waybilllaw12_Tame.f
 repeat' first
   | (with_reducible exact ih0 _ _ _ _ _ _ _ _ _ _)
   | (with_reducible exact LeO.refl _)
   | (with_reducible exact LeO.none _)
   | (with_reducible refine LeO.ite ?_ ?_)
   | (with_reducible refine LeO.bind ?_ (fun _ => ?_))
   | exact ih0 _ _ _ _ _ _ _ _ _ _
   | exact LeO.none _
   | refine LeO.ite ?_ ?_
   | refine LeO.bind ?_ (fun _ => ?_)
def waybilllaw12_Tame.T5 : Bool × List (List Nat × List Nat) := (true, [([], []), ([0], [0]), ([], []), ([2], [2]), ([3], [3]), ([4], [4]), ([1, 5], [1, 5]), ([6], [6]), ([], []), ([8], [8]), ([], []), ([10], [10]), ([11], [11]), ([12], [12]), ([9, 13], [9, 13]), ([0, 1, 2, 3, 4, 5, 6, 7], []), ([15, 7, 0, 1, 2, 3, 4, 5, 6, 7], [7, 15]), ([0, 1, 2, 3, 4, 5, 6, 7, 8, 9, 10, 11, 12, 13, 14, 15, 16], []), ([17, 14, 16, 0, 1, 2, 3, 4, 5, 6, 7, 8, 9, 10, 11, 12, 13, 14, 15, 16], [14, 17])])
def waybilllaw12_Tame.B5 : List Nat := [0, 1, 0, 4, 12, 28, 63, 127, 0, 256, 0, 1024, 3072, 7168, 16128, 255, 33023, 131071, 262143]
theorem waybilllaw12_Tame.tab5 : rtab .any (opsOf Try.f43 5) = waybilllaw12_Tame.T5 := by kernel_rfl
theorem waybilllaw12_Tame.bits5 : waitsOk waybilllaw12_Tame.T5.2 waybilllaw12_Tame.B5 = true := by kernel_rfl
set_option maxHeartbeats 8000000 in
set_option maxRecDepth 100000 in
theorem waybilllaw12_Tame.calls (k : Nat) (a0_0 : Int) (a0_1 : ByteArray) (a0_2 : ByteArray) (a0_3 : ByteArray) (a0_4 : Int) (r1 : Int) (r2 : ByteArray) (r3 : ByteArray) (r4 : ByteArray) (r5 : Int) (w : World) (h : waybilllaw12_Tame.f k a0_0 a0_1 a0_2 a0_3 a0_4 = some (r1, r2, r3, r4, r5)) :
  Calls Try.prog 43 #[.agg #[.int .i64 a0_0, .string a0_1, .string a0_2, .string a0_3, .int .u64 a0_4]] w fun e w' => e = .returned (.agg #[.int .i64 r1, .string r2, .string r3, .string r4, .int .u64 r5]) ∧ Below w.heap.size w w' := by
 have hu74 := Try.underlying74
 have HB := Aside0.mk (Below.refl w.heap.size w)
 have H : (if (wrap64 ((Int.tmod (wrap64 ((Int.tmod a0_0 5) + 5)) 5) + 1)) = 4 then (waybilllaw12_Tame.j0 k a0_0 a0_1 a0_2 a0_3 a0_4 (wrap64 ((Int.tmod (wrap64 ((Int.tmod a0_0 5) + 5)) 5) + 1)) (⟨#[]⟩ : ByteArray) (⟨#[]⟩ : ByteArray) (⟨#[]⟩ : ByteArray) 0) else (if 0 ≤ (mn (a0_1.size : Int) 29) then (if (mn (a0_1.size : Int) 29) ≤ (a0_1.size : Int) then (if 1 + (a0_1.extract 0 ((mn (a0_1.size : Int) 29) : Int).toNat).size ≤ 9223372036854775807 then (waybilllaw12_Tame.j0 k a0_0 a0_1 a0_2 a0_3 a0_4 (wrap64 ((Int.tmod (wrap64 ((Int.tmod a0_0 5) + 5)) 5) + 1)) ((⟨#[97]⟩ : ByteArray) ++ (a0_1.extract 0 ((mn (a0_1.size : Int) 29) : Int).toNat)) (⟨#[]⟩ : ByteArray) (⟨#[]⟩ : ByteArray) 0) else (none)) else (none)) else (none))) = some (r1, r2, r3, r4, r5) := h
 clear h
 have HC2 := Aside0.mk H
 clear H
 go_enter Try.func43, Try.ntmps43
 go_upto_if 13 with (first | ((with_reducible refine gate_dst (N := 1) rfl ?_); refine box_event ?hg (N := 1) ?hd (cs := #[.int .i64 a0_0, .string a0_1, .string a0_2, .string a0_3, .int .u64 a0_4]) (t := 74) ?hr ?_; (case hd => rfl); (case hg => rfl); (case hr => first | (go_simp; done) | (go_simp; rfl)); intro gb300 hg w3 hbox hb; have n0_ := Aside0.mk (below_step (by repeat (with_reducible first | exact HB.out | apply below_alloc)) hb); have n1_ := Aside0.mk (hbox); have n2_ := Aside0.mk ((by rw [hg]; exact (below_size (by repeat (with_reducible first | exact HB.out | apply below_alloc))) : w.heap.size ≤ gb300)); have n3_ := Aside0.mk ((by rw [hg]; exact (below_size (by repeat (with_reducible first | exact HB.out | apply below_alloc))) : w.heap.size ≤ gb300)); clear HB; have HB := n0_; have BK300 := n1_; have GW300 := n2_; have GE300 := n3_; clear n0_ n1_ n2_ n3_; clear hb hbox hg) | ((with_reducible refine gate_dst (N := 2) rfl ?_); refine box_event ?hg (N := 2) ?hd (cs := #[.int .i64 0, .string (⟨#[]⟩ : ByteArray), .string (⟨#[]⟩ : ByteArray), .string (⟨#[]⟩ : ByteArray), .int .u64 0]) (t := 74) ?hr ?_; (case hd => rfl); (case hg => rfl); (case hr => first | (go_simp; done) | (go_simp; rfl)); intro gb301 hg w4 hbox hb; have n0_ := Aside0.mk (blk_below (g := gb300) (o := .cells #[.int .i64 a0_0, .string a0_1, .string a0_2, .string a0_3, .int .u64 a0_4] 74 (0, 0)) (by exact BK300.out) hb); have n1_ := Aside0.mk (below_step (by repeat (with_reducible first | exact HB.out | apply below_alloc | refine below_set ?_ GE300.out)) hb); have n2_ := Aside0.mk (hbox); have n3_ := Aside0.mk ((by rw [hg]; exact (below_size (by repeat (with_reducible first | exact HB.out | apply below_alloc | refine below_set ?_ GE300.out))) : w.heap.size ≤ gb301)); have n4_ := Aside0.mk ((by rw [hg]; exact (below_size (by repeat (with_reducible first | exact HB.out | apply below_alloc | refine below_set ?_ GE300.out))) : w.heap.size ≤ gb301)); have n5_ := Aside0.mk ((by rw [hg]; exact Nat.ne_of_lt (blk_lt (g := gb300) (o := .cells #[.int .i64 a0_0, .string a0_1, .string a0_2, .string a0_3, .int .u64 a0_4] 74 (0, 0)) (by exact BK300.out)) : gb300 ≠ gb301)); have n6_ := Aside0.mk ((by rw [hg]; exact Nat.ne_of_gt (blk_lt (g := gb300) (o := .cells #[.int .i64 a0_0, .string a0_1, .string a0_2, .string a0_3, .int .u64 a0_4] 74 (0, 0)) (by exact BK300.out)) : gb301 ≠ gb300)); clear BK300; clear HB; have BK300 := n0_; have HB := n1_; have BK301 := n2_; have GW301 := n3_; have GE301 := n4_; have NB300_301 := n5_; have NB301_300 := n6_; clear n0_ n1_ n2_ n3_ n4_ n5_ n6_; clear hb hbox hg; have hnb5 := NB300_301.out; have hnc5 := NB301_300.out; have hcz6_0 : w4.cell? ⟨gb300, 0, none⟩ = some (.int .i64 a0_0) := (blk_cell BK300.out 0).trans rfl; have hcz6_1 : w4.cell? ⟨gb300, 1, none⟩ = some (.string a0_1) := (blk_cell BK300.out 1).trans rfl; have hcz6_2 : w4.cell? ⟨gb300, 2, none⟩ = some (.string a0_2) := (blk_cell BK300.out 2).trans rfl; have hcz6_3 : w4.cell? ⟨gb300, 3, none⟩ = some (.string a0_3) := (blk_cell BK300.out 3).trans rfl; have hcz6_4 : w4.cell? ⟨gb300, 4, none⟩ = some (.int .u64 a0_4) := (blk_cell BK300.out 4).trans rfl; have hfz6_0 := blk_frozen BK300.out 0; have hfz6_1 := blk_frozen BK300.out 1; have hfz6_2 := blk_frozen BK300.out 2; have hfz6_3 := blk_frozen BK300.out 3; have hfz6_4 := blk_frozen BK300.out 4) | ((with_reducible refine gate_dst (N := 3) rfl ?_); refine box_event ?hg (N := 3) ?hd (cs := #[.int .i64 0, .string (⟨#[]⟩ : ByteArray), .string (⟨#[]⟩ : ByteArray), .string (⟨#[]⟩ : ByteArray), .int .u64 0]) (t := 74) ?hr ?_; (case hd => rfl); (case hg => rfl); (case hr => first | (go_simp; done) | (go_simp; rfl)); intro gb302 hg w7 hbox hb; have n0_ := Aside0.mk (blk_below (g := gb300) (o := .cells #[.int .i64 a0_0, .string a0_1, .string a0_2, .string a0_3, .int .u64 a0_4] 74 (0, 0)) (by exact BK300.out) hb); have n1_ := Aside0.mk (blk_below (g := gb301) (o := .cells #[.int .i64 0, .string (⟨#[]⟩ : ByteArray), .string (⟨#[]⟩ : ByteArray), .string (⟨#[]⟩ : ByteArray), .int .u64 0] 74 (0, 0)) (by exact BK301.out) hb); have n2_ := Aside0.mk (below_step (by repeat (with_reducible first | exact HB.out | apply below_alloc | refine below_set ?_ GE300.out | refine below_set ?_ GE301.out)) hb); have n3_ := Aside0.mk (hbox); have n4_ := Aside0.mk ((by rw [hg]; exact (below_size (by repeat (with_reducible first | exact HB.out | apply below_alloc | refine below_set ?_ GE300.out | refine below_set ?_ GE301.out))) : w.heap.size ≤ gb302)); have n5_ := Aside0.mk ((by rw [hg]; exact (below_size (by repeat (with_reducible first | exact HB.out | apply below_alloc | refine below_set ?_ GE300.out | refine below_set ?_ GE301.out))) : w.heap.size ≤ gb302)); have n6_ := Aside0.mk ((by rw [hg]; exact Nat.ne_of_lt (blk_lt (g := gb300) (o := .cells #[.int .i64 a0_0, .string a0_1, .string a0_2, .string a0_3, .int .u64 a0_4] 74 (0, 0)) (by exact BK300.out)) : gb300 ≠ gb302)); have n7_ := Aside0.mk ((by rw [hg]; exact Nat.ne_of_gt (blk_lt (g := gb300) (o := .cells #[.int .i64 a0_0, .string a0_1, .string a0_2, .string a0_3, .int .u64 a0_4] 74 (0, 0)) (by exact BK300.out)) : gb302 ≠ gb300)); have n8_ := Aside0.mk ((by rw [hg]; exact Nat.ne_of_lt (blk_lt (g := gb301) (o := .cells #[.int .i64 0, .string (⟨#[]⟩ : ByteArray), .string (⟨#[]⟩ : ByteArray), .string (⟨#[]⟩ : ByteArray), .int .u64 0] 74 (0, 0)) (by exact BK301.out)) : gb301 ≠ gb302)); have n9_ := Aside0.mk ((by rw [hg]; exact Nat.ne_of_gt (blk_lt (g := gb301) (o := .cells #[.int .i64 0, .string (⟨#[]⟩ : ByteArray), .string (⟨#[]⟩ : ByteArray), .string (⟨#[]⟩ : ByteArray), .int .u64 0] 74 (0, 0)) (by exact BK301.out)) : gb302 ≠ gb301)); clear BK300; clear BK301; clear HB; have BK300 := n0_; have BK301 := n1_; have HB := n2_; have BK302 := n3_; have GW302 := n4_; have GE302 := n5_; have NB300_302 := n6_; have NB302_300 := n7_; have NB301_302 := n8_; have NB302_301 := n9_; clear n0_ n1_ n2_ n3_ n4_ n5_ n6_ n7_ n8_ n9_; clear hb hbox hg; have hnb8 := NB302_300.out; have hnc8 := NB300_302.out; have hnb9 := NB302_301.out; have hnc9 := NB301_302.out; have hcz10_0 : w7.cell? ⟨gb302, 0, none⟩ = some (.int .i64 0) := (blk_cell BK302.out 0).trans rfl; have hcz10_1 : w7.cell? ⟨gb302, 1, none⟩ = some (.string (⟨#[]⟩ : ByteArray)) := (blk_cell BK302.out 1).trans rfl; have hcz10_2 : w7.cell? ⟨gb302, 2, none⟩ = some (.string (⟨#[]⟩ : ByteArray)) := (blk_cell BK302.out 2).trans rfl; have hcz10_3 : w7.cell? ⟨gb302, 3, none⟩ = some (.string (⟨#[]⟩ : ByteArray)) := (blk_cell BK302.out 3).trans rfl; have hcz10_4 : w7.cell? ⟨gb302, 4, none⟩ = some (.int .u64 0) := (blk_cell BK302.out 4).trans rfl; have hfz10_0 := blk_frozen BK302.out 0; have hfz10_1 := blk_frozen BK302.out 1; have hfz10_2 := blk_frozen BK302.out 2; have hfz10_3 := blk_frozen BK302.out 3; have hfz10_4 := blk_frozen BK302.out 4))
 (try simp only [Act.put, List.setIfInBounds_toArray, List.set_cons_zero, List.set_cons_succ])
 go_cut [] (fun wc => ∃ (kq : Nat) (x303001_1 : ByteArray), Aside0 (waybilllaw12_Tame.j0 kq a0_0 a0_1 a0_2 a0_3 a0_4 (wrap64 ((Int.tmod (wrap64 ((Int.tmod a0_0 5) + 5)) 5) + 1)) x303001_1 (⟨#[]⟩ : ByteArray) (⟨#[]⟩ : ByteArray) 0 = some (r1, r2, r3, r4, r5)) ∧ Aside0 (kq ≤ k) ∧ Aside0 (wc.heap[gb300]? = some (.cells #[.int .i64 a0_0, .string a0_1, .string a0_2, .string a0_3, .int .u64 a0_4] 74 (0, 0))) ∧ Aside0 (wc.heap[gb301]? = some (.cells #[.int .i64 0, .string (⟨#[]⟩ : ByteArray), .string (⟨#[]⟩ : ByteArray), .string (⟨#[]⟩ : ByteArray), .int .u64 0] 74 (0, 0))) ∧ Aside0 (wc.heap[gb302]? = some (.cells #[.int .i64 (wrap64 ((Int.tmod (wrap64 ((Int.tmod a0_0 5) + 5)) 5) + 1)), .string x303001_1, .string (⟨#[]⟩ : ByteArray), .string (⟨#[]⟩ : ByteArray), .int .u64 0] 74 (0, 0))) ∧ Aside0 (Below w.heap.size w wc))
 case first =>
  have H := HC2.out
  clear HC2
  by_cases c11 : (wrap64 ((Int.tmod (wrap64 ((Int.tmod a0_0 5) + 5)) 5) + 1)) = 4
  ·
   rw [if_pos c11] at H
   have c11b0 : ((wrap64 ((Int.tmod (wrap64 ((Int.tmod a0_0 5) + 5)) 5) + 1)) == 4) = true := beq_iff_eq.mpr c11
   have c11b1 : ((wrap64 ((Int.tmod (wrap64 ((Int.tmod a0_0 5) + 5)) 5) + 1)) != 4) = false := bne_eq_false_iff_eq.mpr c11
   clear c11
   (first | rw [c11b0] | rw [c11b2] | rw [c11b1] | (simp only [i64_w, i32_w]; rw [c11b0]) | skip)
   have H' := Aside0.mk H
   clear H
   go_wp2
   go_meet
   case rel => exact ⟨_, ((⟨#[]⟩ : ByteArray)), H', ⟨by first | omega | exact Nat.le_refl _⟩, ⟨by refine blk_far ?_ NB300_302.out _; refine blk_far ?_ NB300_302.out _; refine blk_far ?_ NB300_302.out _; refine blk_far ?_ NB300_302.out _; refine blk_far ?_ NB300_302.out _; exact BK300.out⟩, ⟨by refine blk_far ?_ NB301_302.out _; refine blk_far ?_ NB301_302.out _; refine blk_far ?_ NB301_302.out _; refine blk_far ?_ NB301_302.out _; refine blk_far ?_ NB301_302.out _; exact BK301.out⟩, ⟨by refine blk_put (cs := #[.int .i64 (wrap64 ((Int.tmod (wrap64 ((Int.tmod a0_0 5) + 5)) 5) + 1)), .string (⟨#[]⟩ : ByteArray), .string (⟨#[]⟩ : ByteArray), .string (⟨#[]⟩ : ByteArray), .int .u64 0]) ?_ 4 _ rfl; refine blk_put (cs := #[.int .i64 (wrap64 ((Int.tmod (wrap64 ((Int.tmod a0_0 5) + 5)) 5) + 1)), .string (⟨#[]⟩ : ByteArray), .string (⟨#[]⟩ : ByteArray), .string (⟨#[]⟩ : ByteArray), .int .u64 0]) ?_ 3 _ rfl; refine blk_put (cs := #[.int .i64 (wrap64 ((Int.tmod (wrap64 ((Int.tmod a0_0 5) + 5)) 5) + 1)), .string (⟨#[]⟩ : ByteArray), .string (⟨#[]⟩ : ByteArray), .string (⟨#[]⟩ : ByteArray), .int .u64 0]) ?_ 2 _ rfl; refine blk_put (cs := #[.int .i64 (wrap64 ((Int.tmod (wrap64 ((Int.tmod a0_0 5) + 5)) 5) + 1)), .string (⟨#[]⟩ : ByteArray), .string (⟨#[]⟩ : ByteArray), .string (⟨#[]⟩ : ByteArray), .int .u64 0]) ?_ 1 _ rfl; refine blk_put (cs := #[.int .i64 0, .string (⟨#[]⟩ : ByteArray), .string (⟨#[]⟩ : ByteArray), .string (⟨#[]⟩ : ByteArray), .int .u64 0]) ?_ 0 _ rfl; exact BK302.out⟩, ⟨by repeat (with_reducible first | exact HB.out | apply below_alloc | refine below_set ?_ GE300.out | refine below_set ?_ GE301.out | refine below_set ?_ GE302.out)⟩⟩
  ·
   rw [if_neg c11] at H
   have c11b0 : ((wrap64 ((Int.tmod (wrap64 ((Int.tmod a0_0 5) + 5)) 5) + 1)) == 4) = false := beq_eq_false_iff_ne.mpr c11
   have c11b1 : ((wrap64 ((Int.tmod (wrap64 ((Int.tmod a0_0 5) + 5)) 5) + 1)) != 4) = true := bne_iff_ne.mpr c11
   (first | rw [c11b0] | rw [c11b2] | rw [c11b1] | (simp only [i64_w, i32_w]; rw [c11b0]) | skip)
   obtain ⟨ji12, hji12⟩ : ∃ j_ : Int, (mn (a0_1.size : Int) 29) = j_ := ⟨_, rfl⟩
   replace H : (if 0 ≤ (ji12) then (if (ji12) ≤ (a0_1.size : Int) then (if 1 + (a0_1.extract 0 ((ji12) : Int).toNat).size ≤ 9223372036854775807 then (waybilllaw12_Tame.j0 k a0_0 a0_1 a0_2 a0_3 a0_4 (wrap64 ((Int.tmod (wrap64 ((Int.tmod a0_0 5) + 5)) 5) + 1)) ((⟨#[97]⟩ : ByteArray) ++ (a0_1.extract 0 ((ji12) : Int).toNat)) (⟨#[]⟩ : ByteArray) (⟨#[]⟩ : ByteArray) 0) else (none)) else (none)) else (none)) = some (r1, r2, r3, r4, r5) := by first | (rw [hji12] at H; exact H) | (simp only [hji12] at H ⊢; exact H)
   (try (have hji12h : ji12 ≤ 29 := by (rw [← hji12]; unfold mn; (repeat' split) <;> omega)))
   (try (have hji12g : ji12 ≤ 64 := by omega))
   (try (have hji12l : 0 ≤ ji12 := by (rw [← hji12]; unfold mn; (repeat' split) <;> omega)))
   (try (have hji12m : 0 ≤ ji12 := by omega))
   have hji12_ : (if 29 < (a0_1.size : Int) then 29 else (a0_1.size : Int)) = ji12 := hji12
   (try (have hji12u : ji12 ≤ 29 := by (rw [← hji12]; unfold mn; (repeat' split) <;> omega)))
   (try (have hji12v : ¬ (9223372036854775807 < 1 + ji12.toNat) := by omega))
   by_cases c13 : 0 ≤ (ji12)
   ·
    rw [if_pos c13] at H
    have c13b0 := eq_true c13
    have c13b1 : decide (0 ≤ (ji12)) = true := decide_eq_true c13
    clear c13
    by_cases c14 : (ji12) ≤ (a0_1.size : Int)
    ·
     rw [if_pos c14] at H
     have c14b0 := eq_true c14
     have c14b1 : decide ((ji12) ≤ (a0_1.size : Int)) = true := decide_eq_true c14
     clear c14
     by_cases c15 : 1 + (a0_1.extract 0 ((ji12) : Int).toNat).size ≤ 9223372036854775807
     ·
      rw [if_pos c15] at H
      have c15b0 := eq_true c15
      have c15b1 : decide (1 + (a0_1.extract 0 ((ji12) : Int).toNat).size ≤ 9223372036854775807) = true := decide_eq_true c15
      try have c15b2 : (9223372036854775807 < 1 + (a0_1.extract 0 ((ji12) : Int).toNat).size) = False := eq_false (Nat.not_lt.2 c15)
      have H' := Aside0.mk H
      clear H
      have hnb16 := NB300_301.out
      have hnc16 := NB301_300.out
      have hnb17 := NB300_302.out
      have hnc17 := NB302_300.out
      have hcz18_0 : w7.cell? ⟨gb300, 0, none⟩ = some (.int .i64 a0_0) := (blk_cell BK300.out 0).trans rfl
      have hcz18_1 : w7.cell? ⟨gb300, 1, none⟩ = some (.string a0_1) := (blk_cell BK300.out 1).trans rfl
      have hcz18_2 : w7.cell? ⟨gb300, 2, none⟩ = some (.string a0_2) := (blk_cell BK300.out 2).trans rfl
      have hcz18_3 : w7.cell? ⟨gb300, 3, none⟩ = some (.string a0_3) := (blk_cell BK300.out 3).trans rfl
      have hcz18_4 : w7.cell? ⟨gb300, 4, none⟩ = some (.int .u64 a0_4) := (blk_cell BK300.out 4).trans rfl
      have hfz18_0 := blk_frozen BK300.out 0
      have hfz18_1 := blk_frozen BK300.out 1
      have hfz18_2 := blk_frozen BK300.out 2
      have hfz18_3 := blk_frozen BK300.out 3
      have hfz18_4 := blk_frozen BK300.out 4
      have hnb19 := NB302_301.out
      have hnc19 := NB301_302.out
      have hcz20_0 : w7.cell? ⟨gb302, 0, none⟩ = some (.int .i64 0) := (blk_cell BK302.out 0).trans rfl
      have hcz20_1 : w7.cell? ⟨gb302, 1, none⟩ = some (.string (⟨#[]⟩ : ByteArray)) := (blk_cell BK302.out 1).trans rfl
      have hcz20_2 : w7.cell? ⟨gb302, 2, none⟩ = some (.string (⟨#[]⟩ : ByteArray)) := (blk_cell BK302.out 2).trans rfl
      have hcz20_3 : w7.cell? ⟨gb302, 3, none⟩ = some (.string (⟨#[]⟩ : ByteArray)) := (blk_cell BK302.out 3).trans rfl
      have hcz20_4 : w7.cell? ⟨gb302, 4, none⟩ = some (.int .u64 0) := (blk_cell BK302.out 4).trans rfl
      have hfz20_0 := blk_frozen BK302.out 0
      have hfz20_1 := blk_frozen BK302.out 1
      have hfz20_2 := blk_frozen BK302.out 2
      have hfz20_3 := blk_frozen BK302.out 3
      have hfz20_4 := blk_frozen BK302.out 4
      go_wp2
      go_meet
      case rel => exact ⟨_, ((⟨#[97]⟩ : ByteArray) ++ (a0_1.extract 0 ((ji12) : Int).toNat)), H', ⟨by first | omega | exact Nat.le_refl _⟩, ⟨by refine blk_far ?_ NB300_302.out _; refine blk_far ?_ NB300_302.out _; refine blk_far ?_ NB300_302.out _; refine blk_far ?_ NB300_302.out _; refine blk_far ?_ NB300_302.out _; refine blk_far ?_ NB300_302.out _; exact BK300.out⟩, ⟨by refine blk_far ?_ NB301_302.out _; refine blk_far ?_ NB301_302.out _; refine blk_far ?_ NB301_302.out _; refine blk_far ?_ NB301_302.out _; refine blk_far ?_ NB301_302.out _; refine blk_far ?_ NB301_302.out _; exact BK301.out⟩, ⟨by refine blk_put (cs := #[.int .i64 (wrap64 ((Int.tmod (wrap64 ((Int.tmod a0_0 5) + 5)) 5) + 1)), .string (⟨#[]⟩ : ByteArray), .string (⟨#[]⟩ : ByteArray), .string (⟨#[]⟩ : ByteArray), .int .u64 0]) ?_ 1 _ rfl; refine blk_put (cs := #[.int .i64 (wrap64 ((Int.tmod (wrap64 ((Int.tmod a0_0 5) + 5)) 5) + 1)), .string (⟨#[]⟩ : ByteArray), .string (⟨#[]⟩ : ByteArray), .string (⟨#[]⟩ : ByteArray), .int .u64 0]) ?_ 4 _ rfl; refine blk_put (cs := #[.int .i64 (wrap64 ((Int.tmod (wrap64 ((Int.tmod a0_0 5) + 5)) 5) + 1)), .string (⟨#[]⟩ : ByteArray), .string (⟨#[]⟩ : ByteArray), .string (⟨#[]⟩ : ByteArray), .int .u64 0]) ?_ 3 _ rfl; refine blk_put (cs := #[.int .i64 (wrap64 ((Int.tmod (wrap64 ((Int.tmod a0_0 5) + 5)) 5) + 1)), .string (⟨#[]⟩ : ByteArray), .string (⟨#[]⟩ : ByteArray), .string (⟨#[]⟩ : ByteArray), .int .u64 0]) ?_ 2 _ rfl; refine blk_put (cs := #[.int .i64 (wrap64 ((Int.tmod (wrap64 ((Int.tmod a0_0 5) + 5)) 5) + 1)), .string (⟨#[]⟩ : ByteArray), .string (⟨#[]⟩ : ByteArray), .string (⟨#[]⟩ : ByteArray), .int .u64 0]) ?_ 1 _ rfl; refine blk_put (cs := #[.int .i64 0, .string (⟨#[]⟩ : ByteArray), .string (⟨#[]⟩ : ByteArray), .string (⟨#[]⟩ : ByteArray), .int .u64 0]) ?_ 0 _ rfl; exact BK302.out⟩, ⟨by repeat (with_reducible first | exact HB.out | apply below_alloc | refine below_set ?_ GE300.out | refine below_set ?_ GE301.out | refine below_set ?_ GE302.out)⟩⟩
     ·
      rw [if_neg c15] at H
      exact absurd H (by simp)
    ·
     rw [if_neg c14] at H
     exact absurd H (by simp)
   ·
    rw [if_neg c13] at H
    exact absurd H (by simp)
 case rest =>
  clear HC2
  (try clear c1); (try clear p2); (try clear c4); (try clear c5); (try clear p6); (try clear c8); (try clear c9); (try clear c11); (try clear c11b0); (try clear c11b1); (try clear c13); (try clear c13b0); (try clear c13b1); (try clear c14); (try clear c14b0); (try clear c14b1); (try clear c15); (try clear c15b0); (try clear c15b1); (try clear c15b2); (try clear c16); (try clear c17); (try clear c19); (try clear hcz10_0); (try clear hcz10_1); (try clear hcz10_2); (try clear hcz10_3); (try clear hcz10_4); (try clear hcz18_0); (try clear hcz18_1); (try clear hcz18_2); (try clear hcz18_3); (try clear hcz18_4); (try clear hcz20_0); (try clear hcz20_1); (try clear hcz20_2); (try clear hcz20_3); (try clear hcz20_4); (try clear hcz6_0); (try clear hcz6_1); (try clear hcz6_2); (try clear hcz6_3); (try clear hcz6_4); (try clear hfz10_0); (try clear hfz10_1); (try clear hfz10_2); (try clear hfz10_3); (try clear hfz10_4); (try clear hfz18_0); (try clear hfz18_1); (try clear hfz18_2); (try clear hfz18_3); (try clear hfz18_4); (try clear hfz20_0); (try clear hfz20_1); (try clear hfz20_2); (try clear hfz20_3); (try clear hfz20_4); (try clear hfz6_0); (try clear hfz6_1); (try clear hfz6_2); (try clear hfz6_3); (try clear hfz6_4)
  obtain ⟨kq, x303001_1, HA, HJ1, BK300, BK301, BK302, HB⟩ := hcut
  cases kq with
  | zero => exact absurd HA.out (by simp [waybilllaw12_Tame.j0])
  | succ kj1 =>
   have H := HA.out
   clear HA
   simp only [waybilllaw12_Tame.j0] at H
   by_cases c21 : (wrap64 ((Int.tmod (wrap64 ((Int.tmod a0_0 5) + 5)) 5) + 1)) = 3
   ·
    rw [if_pos c21] at H
    have c21b0 : ((wrap64 ((Int.tmod (wrap64 ((Int.tmod a0_0 5) + 5)) 5) + 1)) == 3) = true := beq_iff_eq.mpr c21
    have c21b1 : ((wrap64 ((Int.tmod (wrap64 ((Int.tmod a0_0 5) + 5)) 5) + 1)) != 3) = false := bne_eq_false_iff_eq.mpr c21
    clear c21
    obtain ⟨ji22, hji22⟩ : ∃ j_ : Int, (mn (a0_2.size : Int) 29) = j_ := ⟨_, rfl⟩
    replace H : (if 0 ≤ (ji22) then (if (ji22) ≤ (a0_2.size : Int) then (if 1 + (a0_2.extract 0 ((ji22) : Int).toNat).size ≤ 9223372036854775807 then (if 0 ≤ (mn (a0_3.size : Int) 60) then (if (mn (a0_3.size : Int) 60) ≤ (a0_3.size : Int) then (if (wrap64 ((Int.tmod (wrap64 ((Int.tmod a0_0 5) + 5)) 5) + 1)) ≥ 4 then (some ((wrap64 ((Int.tmod (wrap64 ((Int.tmod a0_0 5) + 5)) 5) + 1)), x303001_1, (⟨#[98]⟩ : ByteArray) ++ (a0_2.extract 0 ((ji22) : Int).toNat), a0_3.extract 0 ((mn (a0_3.size : Int) 60) : Int).toNat, mx a0_4 1)) else (some ((wrap64 ((Int.tmod (wrap64 ((Int.tmod a0_0 5) + 5)) 5) + 1)), x303001_1, (⟨#[98]⟩ : ByteArray) ++ (a0_2.extract 0 ((ji22) : Int).toNat), a0_3.extract 0 ((mn (a0_3.size : Int) 60) : Int).toNat, 0))) else (none)) else (none)) else (none)) else (none)) else (none)) = some (r1, r2, r3, r4, r5) := by first | (rw [hji22] at H; exact H) | (simp only [hji22] at H ⊢; exact H)
    have hji22_ : (if 29 < (a0_2.size : Int) then 29 else (a0_2.size : Int)) = ji22 := hji22
    (try (have hji22u : ji22 ≤ 29 := by (rw [← hji22]; unfold mn; (repeat' split) <;> omega)))
    (try (have hji22v : ¬ (9223372036854775807 < 1 + ji22.toNat) := by omega))
    by_cases c23 : 0 ≤ (ji22)
    ·
     rw [if_pos c23] at H
     have c23b0 := eq_true c23
     have c23b1 : decide (0 ≤ (ji22)) = true := decide_eq_true c23
     clear c23
     by_cases c24 : (ji22) ≤ (a0_2.size : Int)
     ·
      rw [if_pos c24] at H
      have c24b0 := eq_true c24
      have c24b1 : decide ((ji22) ≤ (a0_2.size : Int)) = true := decide_eq_true c24
      clear c24
      by_cases c25 : 1 + (a0_2.extract 0 ((ji22) : Int).toNat).size ≤ 9223372036854775807
      ·
       rw [if_pos c25] at H
       have c25b0 := eq_true c25
       have c25b1 : decide (1 + (a0_2.extract 0 ((ji22) : Int).toNat).size ≤ 9223372036854775807) = true := decide_eq_true c25
       try have c25b2 : (9223372036854775807 < 1 + (a0_2.extract 0 ((ji22) : Int).toNat).size) = False := eq_false (Nat.not_lt.2 c25)
       obtain ⟨ji26, hji26⟩ : ∃ j_ : Int, (mn (a0_3.size : Int) 60) = j_ := ⟨_, rfl⟩
       replace H : (if 0 ≤ (ji26) then (if (ji26) ≤ (a0_3.size : Int) then (if (wrap64 ((Int.tmod (wrap64 ((Int.tmod a0_0 5) + 5)) 5) + 1)) ≥ 4 then (some ((wrap64 ((Int.tmod (wrap64 ((Int.tmod a0_0 5) + 5)) 5) + 1)), x303001_1, (⟨#[98]⟩ : ByteArray) ++ (a0_2.extract 0 ((ji22) : Int).toNat), a0_3.extract 0 ((ji26) : Int).toNat, mx a0_4 1)) else (some ((wrap64 ((Int.tmod (wrap64 ((Int.tmod a0_0 5) + 5)) 5) + 1)), x303001_1, (⟨#[98]⟩ : ByteArray) ++ (a0_2.extract 0 ((ji22) : Int).toNat), a0_3.extract 0 ((ji26) : Int).toNat, 0))) else (none)) else (none)) = some (r1, r2, r3, r4, r5) := by first | (rw [hji26] at H; exact H) | (simp only [hji26] at H ⊢; exact H)
       have hji26_ : (if 60 < (a0_3.size : Int) then 60 else (a0_3.size : Int)) = ji26 := hji26
       (try (have hji26u : ji26 ≤ 60 := by (rw [← hji26]; unfold mn; (repeat' split) <;> omega)))
       (try (have hji26v : ¬ (9223372036854775807 < 1 + ji26.toNat) := by omega))
       by_cases c27 : 0 ≤ (ji26)
       ·
        rw [if_pos c27] at H
        have c27b0 := eq_true c27
        have c27b1 : decide (0 ≤ (ji26)) = true := decide_eq_true c27
        clear c27
        by_cases c28 : (ji26) ≤ (a0_3.size : Int)
        ·
         rw [if_pos c28] at H
         have c28b0 := eq_true c28
         have c28b1 : decide ((ji26) ≤ (a0_3.size : Int)) = true := decide_eq_true c28
         clear c28
         by_cases c29 : (wrap64 ((Int.tmod (wrap64 ((Int.tmod a0_0 5) + 5)) 5) + 1)) ≥ 4
         ·
          rw [if_pos c29] at H
          have c29b0 : decide (4 ≤ (wrap64 ((Int.tmod (wrap64 ((Int.tmod a0_0 5) + 5)) 5) + 1))) = true := decide_eq_true c29
          clear c29
          obtain ⟨ji30, hji30⟩ : ∃ j_ : Int, (mx a0_4 1) = j_ := ⟨_, rfl⟩
          replace H : (some ((wrap64 ((Int.tmod (wrap64 ((Int.tmod a0_0 5) + 5)) 5) + 1)), x303001_1, (⟨#[98]⟩ : ByteArray) ++ (a0_2.extract 0 ((ji22) : Int).toNat), a0_3.extract 0 ((ji26) : Int).toNat, ji30)) = some (r1, r2, r3, r4, r5) := by first | (rw [hji30] at H; exact H) | (simp only [hji30] at H ⊢; exact H)
          have hji30_ : (if a0_4 < 1 then 1 else a0_4) = ji30 := hji30
          simp only [Option.some.injEq, Prod.mk.injEq] at H
          obtain ⟨rfl, rfl, rfl, rfl, rfl⟩ := H
          have hnb31 := NB302_300.out
          have hnc31 := NB300_302.out
          have hnb32 := NB302_301.out
          have hnc32 := NB301_302.out
          have hcz33_0 : wc.cell? ⟨gb302, 0, none⟩ = some (.int .i64 (wrap64 ((Int.tmod (wrap64 ((Int.tmod a0_0 5) + 5)) 5) + 1))) := (blk_cell BK302.out 0).trans rfl
          have hcz33_1 : wc.cell? ⟨gb302, 1, none⟩ = some (.string x303001_1) := (blk_cell BK302.out 1).trans rfl
          have hcz33_2 : wc.cell? ⟨gb302, 2, none⟩ = some (.string (⟨#[]⟩ : ByteArray)) := (blk_cell BK302.out 2).trans rfl
          have hcz33_3 : wc.cell? ⟨gb302, 3, none⟩ = some (.string (⟨#[]⟩ : ByteArray)) := (blk_cell BK302.out 3).trans rfl
          have hcz33_4 : wc.cell? ⟨gb302, 4, none⟩ = some (.int .u64 0) := (blk_cell BK302.out 4).trans rfl
          have hfz33_0 := blk_frozen BK302.out 0
          have hfz33_1 := blk_frozen BK302.out 1
          have hfz33_2 := blk_frozen BK302.out 2
          have hfz33_3 := blk_frozen BK302.out 3
          have hfz33_4 := blk_frozen BK302.out 4
          try go_wp2
          have n0_ := Aside0.mk (blk_drew BK300.out)
          have n1_ := Aside0.mk (blk_drew BK301.out)
          have n2_ := Aside0.mk (blk_drew BK302.out)
          have n3_ := Aside0.mk (below_drew1 HB.out)
          clear BK300
          clear BK301
          clear BK302
          clear HB
          have BK300 := n0_
          have BK301 := n1_
          have BK302 := n2_
          have HB := n3_
          clear n0_ n1_ n2_ n3_
          refine start_ (n := 19) (S := fun w' => w'.cell? ⟨gb300, 0, none⟩ = some (.int .i64 a0_0) ∧ w'.cell? ⟨gb300, 1, none⟩ = some (.string a0_1) ∧ w'.cell? ⟨gb300, 2, none⟩ = some (.string a0_2) ∧ w'.cell? ⟨gb300, 3, none⟩ = some (.string a0_3) ∧ w'.cell? ⟨gb300, 4, none⟩ = some (.int .u64 a0_4)) (ds := []) #[false, false, false, false, false, false, false, false, false, false, false, false, false, false, false, false, false, false, false] (by kernel_rfl) rfl rfl ⟨(blk_cell BK300.out 0).trans rfl, (blk_cell BK300.out 1).trans rfl, (blk_cell BK300.out 2).trans rfl, (blk_cell BK300.out 3).trans rfl, (blk_cell BK300.out 4).trans rfl⟩ (fun hHeld => ?_); refine with_tabW waybilllaw12_Tame.tab5 waybilllaw12_Tame.bits5 (fun HT_ HW_ => ?_)
          generalize wc.drew = w34 at BK300 BK301 BK302 HB hHeld ⊢
          refine pure_ (i := 0) (N := some 26) (v := ?_) (a' := ?_) #[true, false, false, false, false, false, false, false, false, false, false, false, false, false, false, false, false, false, false] rfl rfl (any_of HT_.out (by kernel_rfl)) (fun _ _ _ h => h) (Or.inl ⟨by rfl, ?_⟩) ?_ ?_
          rotate_left
          ·
           intro w'
           go_simp
           with_reducible rfl
          rotate_left
          ·
           simp only [Act.put, List.setIfInBounds_toArray, List.set_cons_zero, List.set_cons_succ, i64_w, i32_w]
           rfl
          refine pure_ (i := 2) (N := some 28) (v := ?_) (a' := ?_) #[true, false, true, false, false, false, false, false, false, false, false, false, false, false, false, false, false, false, false] rfl rfl (any_of HT_.out (by kernel_rfl)) (fun _ _ _ h => h) (Or.inl ⟨by rfl, ?_⟩) ?_ ?_
          rotate_left
          ·
           intro w'
           go_simp
           with_reducible rfl
          rotate_left
          ·
           simp only [Act.put, List.setIfInBounds_toArray, List.set_cons_zero, List.set_cons_succ, i64_w, i32_w]
           rfl
          refine pure_ (i := 8) (N := some 34) (v := ?_) (a' := ?_) #[true, false, true, false, false, false, false, false, true, false, false, false, false, false, false, false, false, false, false] rfl rfl (any_of HT_.out (by kernel_rfl)) (fun _ _ _ h => h) (Or.inl ⟨by rfl, ?_⟩) ?_ ?_
          rotate_left
          ·
           intro w'
           go_simp
           with_reducible rfl
          rotate_left
          ·
           simp only [Act.put, List.setIfInBounds_toArray, List.set_cons_zero, List.set_cons_succ, i64_w, i32_w]
           rfl
          refine pure_ (i := 10) (N := some 36) (v := ?_) (a' := ?_) #[true, false, true, false, false, false, false, false, true, false, true, false, false, false, false, false, false, false, false] rfl rfl (any_of HT_.out (by kernel_rfl)) (fun _ _ _ h => h) (Or.inl ⟨by rfl, ?_⟩) ?_ ?_
          rotate_left
          ·
           intro w'
           go_simp
           with_reducible rfl
          rotate_left
          ·
           simp only [Act.put, List.setIfInBounds_toArray, List.set_cons_zero, List.set_cons_succ, i64_w, i32_w]
           rfl
          refine take_ (i := 1) (N := some 27) (v := ?_) (a' := ?_) #[true, true, true, false, false, false, false, false, true, false, true, false, false, false, false, false, false, false, false] rfl rfl (take_ofW HT_.out HW_.out (by kernel_rfl)) (fun _ _ _ h => h) (Or.inl ⟨by rfl, ?_⟩) hHeld ?_ ?_
          rotate_left
          ·
           rintro w' ⟨s0, s1, s2, s3, s4⟩
           go_simp
           with_reducible rfl
          rotate_left
          ·
           simp only [Act.put, List.setIfInBounds_toArray, List.set_cons_zero, List.set_cons_succ, i64_w, i32_w]
           rfl
          refine take_ (i := 3) (N := some 29) (v := ?_) (a' := ?_) #[true, true, true, true, false, false, false, false, true, false, true, false, false, false, false, false, false, false, false] rfl rfl (take_ofW HT_.out HW_.out (by kernel_rfl)) (fun _ _ _ h => h) (Or.inl ⟨by rfl, ?_⟩) hHeld ?_ ?_
          rotate_left
          ·
           rintro w' ⟨s0, s1, s2, s3, s4⟩
           go_simp
           with_reducible rfl
          rotate_left
          ·
           simp only [Act.put, List.setIfInBounds_toArray, List.set_cons_zero, List.set_cons_succ, i64_w, i32_w]
           rfl
          refine pure_ (i := 4) (N := some 30) (v := ?_) (a' := ?_) #[true, true, true, true, true, false, false, false, true, false, true, false, false, false, false, false, false, false, false] rfl rfl (any_of HT_.out (by kernel_rfl)) (fun _ _ _ h => h) (Or.inl ⟨by rfl, ?_⟩) ?_ ?_
          rotate_left
          ·
           intro w'
           go_simp
           with_reducible rfl
          rotate_left
          ·
           simp only [Act.put, List.setIfInBounds_toArray, List.set_cons_zero, List.set_cons_succ, i64_w, i32_w]
           rfl
          refine pure_ (i := 5) (N := some 31) (v := ?_) (a' := ?_) #[true, true, true, true, true, true, false, false, true, false, true, false, false, false, false, false, false, false, false] rfl rfl (any_of HT_.out (by kernel_rfl)) (fun _ _ _ h => h) (Or.inl ⟨by rfl, ?_⟩) ?_ ?_
          rotate_left
          ·
           intro w'
           go_simp
           with_reducible rfl
          rotate_left
          ·
           simp only [Act.put, List.setIfInBounds_toArray, List.set_cons_zero, List.set_cons_succ, i64_w, i32_w]
           rfl
          refine pure_ (i := 6) (N := some 32) (v := ?_) (a' := ?_) #[true, true, true, true, true, true, true, false, true, false, true, false, false, false, false, false, false, false, false] rfl rfl (any_of HT_.out (by kernel_rfl)) (fun _ _ _ h => h) (Or.inl ⟨by rfl, ?_⟩) ?_ ?_
          rotate_left
          ·
           intro w'
           go_simp
           with_reducible rfl
          rotate_left
          ·
           simp only [Act.put, List.setIfInBounds_toArray, List.set_cons_zero, List.set_cons_succ, i64_w, i32_w]
           rfl
          refine pure_ (i := 7) (N := some 33) (v := ?_) (a' := ?_) #[true, true, true, true, true, true, true, true, true, false, true, false, false, false, false, false, false, false, false] rfl rfl (any_of HT_.out (by kernel_rfl)) (fun _ _ _ h => h) (Or.inl ⟨by rfl, ?_⟩) ?_ ?_
          rotate_left
          ·
           intro w'
           go_simp
           with_reducible rfl
          rotate_left
          ·
           simp only [Act.put, List.setIfInBounds_toArray, List.set_cons_zero, List.set_cons_succ, i64_w, i32_w]
           rfl
          refine pure_ (i := 15) (N := some 41) (v := ?_) (a' := ?_) #[true, true, true, true, true, true, true, true, true, false, true, false, false, false, false, true, false, false, false] rfl rfl (any_of HT_.out (by kernel_rfl)) (fun _ _ _ h => h) (Or.inl ⟨by rfl, ?_⟩) ?_ ?_
          rotate_left
          ·
           intro w'
           go_simp
           with_reducible rfl
          rotate_left
          ·
           simp only [Act.put, List.setIfInBounds_toArray, List.set_cons_zero, List.set_cons_succ, i64_w, i32_w]
           rfl
          refine take_ (i := 9) (N := some 35) (v := ?_) (a' := ?_) #[true, true, true, true, true, true, true, true, true, true, true, false, false, false, false, true, false, false, false] rfl rfl (take_ofW HT_.out HW_.out (by kernel_rfl)) (fun _ _ _ h => h) (Or.inl ⟨by rfl, ?_⟩) hHeld ?_ ?_
          rotate_left
          ·
           rintro w' ⟨s0, s1, s2, s3, s4⟩
           go_simp
           with_reducible rfl
          rotate_left
          ·
           simp only [Act.put, List.setIfInBounds_toArray, List.set_cons_zero, List.set_cons_succ, i64_w, i32_w]
           rfl
          refine take_ (i := 11) (N := some 37) (v := ?_) (a' := ?_) #[true, true, true, true, true, true, true, true, true, true, true, true, false, false, false, true, false, false, false] rfl rfl (take_ofW HT_.out HW_.out (by kernel_rfl)) (fun _ _ _ h => h) (Or.inl ⟨by rfl, ?_⟩) hHeld ?_ ?_
          rotate_left
          ·
           rintro w' ⟨s0, s1, s2, s3, s4⟩
           go_simp
           with_reducible rfl
          rotate_left
          ·
           simp only [Act.put, List.setIfInBounds_toArray, List.set_cons_zero, List.set_cons_succ, i64_w, i32_w]
           rfl
          refine pure_ (i := 12) (N := some 38) (v := ?_) (a' := ?_) #[true, true, true, true, true, true, true, true, true, true, true, true, true, false, false, true, false, false, false] rfl rfl (any_of HT_.out (by kernel_rfl)) (fun _ _ _ h => h) (Or.inl ⟨by rfl, ?_⟩) ?_ ?_
          rotate_left
          ·
           intro w'
           go_simp
           with_reducible rfl
          rotate_left
          ·
           simp only [Act.put, List.setIfInBounds_toArray, List.set_cons_zero, List.set_cons_succ, i64_w, i32_w]
           rfl
          refine pure_ (i := 13) (N := some 39) (v := ?_) (a' := ?_) #[true, true, true, true, true, true, true, true, true, true, true, true, true, true, false, true, false, false, false] rfl rfl (any_of HT_.out (by kernel_rfl)) (fun _ _ _ h => h) (Or.inl ⟨by rfl, ?_⟩) ?_ ?_
          rotate_left
          ·
           intro w'
           go_simp
           with_reducible rfl
          rotate_left
          ·
           simp only [Act.put, List.setIfInBounds_toArray, List.set_cons_zero, List.set_cons_succ, i64_w, i32_w]
           rfl
          refine pure_ (i := 14) (N := some 40) (v := ?_) (a' := ?_) #[true, true, true, true, true, true, true, true, true, true, true, true, true, true, true, true, false, false, false] rfl rfl (any_of HT_.out (by kernel_rfl)) (fun _ _ _ h => h) (Or.inl ⟨by rfl, ?_⟩) ?_ ?_
          rotate_left
          ·
           intro w'
           go_simp
           with_reducible rfl
          rotate_left
          ·
           simp only [Act.put, List.setIfInBounds_toArray, List.set_cons_zero, List.set_cons_succ, i64_w, i32_w]
           rfl
          refine one_ (i := 16) (N := none) #[true, true, true, true, true, true, true, true, true, true, true, true, true, true, true, true, true, false, false] rfl rfl (one_of HT_.out (by kernel_rfl)) (by decide) (fun K hK => ?_)
          have hs35 : w34.cell? ⟨gb302, 2, none⟩ = some (.string (⟨#[]⟩ : ByteArray)) := (blk_cell BK302.out 2).trans rfl
          have hfs35 := blk_frozen BK302.out 2
          have hns35_0 := NB300_302.out
          have hns35_1 := NB301_302.out
          have hms35_0 := NB302_300.out
          have hms35_1 := NB302_301.out
          refine skip_ (w1 := ?_) (by rfl) rfl ?_ ?_
          rotate_left
          ·
           go_simp
           rfl
          refine hK.out _ _ ⟨((cell_far (p := ⟨gb302, _, none⟩) NB300_302.out _).trans (hHeld.1)), ((cell_far (p := ⟨gb302, _, none⟩) NB300_302.out _).trans (hHeld.2.1)), ((cell_far (p := ⟨gb302, _, none⟩) NB300_302.out _).trans (hHeld.2.2.1)), ((cell_far (p := ⟨gb302, _, none⟩) NB300_302.out _).trans (hHeld.2.2.2.1)), ((cell_far (p := ⟨gb302, _, none⟩) NB300_302.out _).trans (hHeld.2.2.2.2))⟩ (fun hHeld => ?_)
          clear hK K
          refine pure_ (i := 17) (N := some 42) (v := ?_) (a' := ?_) #[true, true, true, true, true, true, true, true, true, true, true, true, true, true, true, true, true, true, false] rfl rfl (any_of HT_.out (by kernel_rfl)) (fun _ _ _ h => h) (Or.inl ⟨by rfl, ?_⟩) ?_ ?_
          rotate_left
          ·
           intro w'
           go_simp
           with_reducible rfl
          rotate_left
          ·
           simp only [Act.put, List.setIfInBounds_toArray, List.set_cons_zero, List.set_cons_succ, i64_w, i32_w]
           rfl
          refine one_ (i := 18) (N := none) #[true, true, true, true, true, true, true, true, true, true, true, true, true, true, true, true, true, true, true] rfl rfl (one_of HT_.out (by kernel_rfl)) (by decide) (fun K hK => ?_)
          have hs36 : w34.cell? ⟨gb302, 3, none⟩ = some (.string (⟨#[]⟩ : ByteArray)) := (blk_cell BK302.out 3).trans rfl
          have hfs36 := blk_frozen BK302.out 3
          have hns36_0 := NB300_302.out
          have hns36_1 := NB301_302.out
          have hms36_0 := NB302_300.out
          have hms36_1 := NB302_301.out
          refine skip_ (w1 := ?_) (by rfl) rfl ?_ ?_
          rotate_left
          ·
           go_simp
           rfl
          refine hK.out _ _ ⟨((cell_far (p := ⟨gb302, _, none⟩) NB300_302.out _).trans (hHeld.1)), ((cell_far (p := ⟨gb302, _, none⟩) NB300_302.out _).trans (hHeld.2.1)), ((cell_far (p := ⟨gb302, _, none⟩) NB300_302.out _).trans (hHeld.2.2.1)), ((cell_far (p := ⟨gb302, _, none⟩) NB300_302.out _).trans (hHeld.2.2.2.1)), ((cell_far (p := ⟨gb302, _, none⟩) NB300_302.out _).trans (hHeld.2.2.2.2))⟩ (fun hHeld => ?_)
          clear hK K
          refine done_ (done_of HT_.out (by kernel_rfl)) ?_
          have hcz37_0 : w34.cell? ⟨gb302, 0, none⟩ = some (.int .i64 (wrap64 ((Int.tmod (wrap64 ((Int.tmod a0_0 5) + 5)) 5) + 1))) := (blk_cell BK302.out 0).trans rfl
          have hcz37_1 : w34.cell? ⟨gb302, 1, none⟩ = some (.string x303001_1) := (blk_cell BK302.out 1).trans rfl
          have hcz37_2 : w34.cell? ⟨gb302, 2, none⟩ = some (.string (⟨#[]⟩ : ByteArray)) := (blk_cell BK302.out 2).trans rfl
          have hcz37_3 : w34.cell? ⟨gb302, 3, none⟩ = some (.string (⟨#[]⟩ : ByteArray)) := (blk_cell BK302.out 3).trans rfl
          have hcz37_4 : w34.cell? ⟨gb302, 4, none⟩ = some (.int .u64 0) := (blk_cell BK302.out 4).trans rfl
          have hfz37_0 := blk_frozen BK302.out 0
          have hfz37_1 := blk_frozen BK302.out 1
          have hfz37_2 := blk_frozen BK302.out 2
          have hfz37_3 := blk_frozen BK302.out 3
          have hfz37_4 := blk_frozen BK302.out 4
          have hnb38 := NB300_301.out
          have hnc38 := NB301_300.out
          have hcz39_0 : w34.cell? ⟨gb300, 0, none⟩ = some (.int .i64 a0_0) := (blk_cell BK300.out 0).trans rfl
          have hcz39_1 : w34.cell? ⟨gb300, 1, none⟩ = some (.string a0_1) := (blk_cell BK300.out 1).trans rfl
          have hcz39_2 : w34.cell? ⟨gb300, 2, none⟩ = some (.string a0_2) := (blk_cell BK300.out 2).trans rfl
          have hcz39_3 : w34.cell? ⟨gb300, 3, none⟩ = some (.string a0_3) := (blk_cell BK300.out 3).trans rfl
          have hcz39_4 : w34.cell? ⟨gb300, 4, none⟩ = some (.int .u64 a0_4) := (blk_cell BK300.out 4).trans rfl
          have hfz39_0 := blk_frozen BK300.out 0
          have hfz39_1 := blk_frozen BK300.out 1
          have hfz39_2 := blk_frozen BK300.out 2
          have hfz39_3 := blk_frozen BK300.out 3
          have hfz39_4 := blk_frozen BK300.out 4
          have hcz40_0 : w34.cell? ⟨gb301, 0, none⟩ = some (.int .i64 0) := (blk_cell BK301.out 0).trans rfl
          have hcz40_1 : w34.cell? ⟨gb301, 1, none⟩ = some (.string (⟨#[]⟩ : ByteArray)) := (blk_cell BK301.out 1).trans rfl
          have hcz40_2 : w34.cell? ⟨gb301, 2, none⟩ = some (.string (⟨#[]⟩ : ByteArray)) := (blk_cell BK301.out 2).trans rfl
          have hcz40_3 : w34.cell? ⟨gb301, 3, none⟩ = some (.string (⟨#[]⟩ : ByteArray)) := (blk_cell BK301.out 3).trans rfl
          have hcz40_4 : w34.cell? ⟨gb301, 4, none⟩ = some (.int .u64 0) := (blk_cell BK301.out 4).trans rfl
          have hfz40_0 := blk_frozen BK301.out 0
          have hfz40_1 := blk_frozen BK301.out 1
          have hfz40_2 := blk_frozen BK301.out 2
          have hfz40_3 := blk_frozen BK301.out 3
          have hfz40_4 := blk_frozen BK301.out 4
          try go_wp2
          refine bodyPost_ret (results_cell_row rfl _ _ gb301 74 #[.int .i64 (wrap64 ((Int.tmod (wrap64 ((Int.tmod a0_0 5) + 5)) 5) + 1)), .string x303001_1, .string ((⟨#[98]⟩ : ByteArray) ++ (a0_2.extract 0 ((ji22) : Int).toNat)), .string (a0_3.extract 0 ((ji26) : Int).toNat), .int .u64 ji30] (0, 0) _ rfl (by refine blk_put (cs := #[.int .i64 (wrap64 ((Int.tmod (wrap64 ((Int.tmod a0_0 5) + 5)) 5) + 1)), .string x303001_1, .string ((⟨#[98]⟩ : ByteArray) ++ (a0_2.extract 0 ((ji22) : Int).toNat)), .string (a0_3.extract 0 ((ji26) : Int).toNat), .int .u64 0]) ?_ 4 _ rfl; refine blk_put (cs := #[.int .i64 (wrap64 ((Int.tmod (wrap64 ((Int.tmod a0_0 5) + 5)) 5) + 1)), .string x303001_1, .string ((⟨#[98]⟩ : ByteArray) ++ (a0_2.extract 0 ((ji22) : Int).toNat)), .string (⟨#[]⟩ : ByteArray), .int .u64 0]) ?_ 3 _ rfl; refine blk_put (cs := #[.int .i64 (wrap64 ((Int.tmod (wrap64 ((Int.tmod a0_0 5) + 5)) 5) + 1)), .string x303001_1, .string (⟨#[]⟩ : ByteArray), .string (⟨#[]⟩ : ByteArray), .int .u64 0]) ?_ 2 _ rfl; refine blk_put (cs := #[.int .i64 (wrap64 ((Int.tmod (wrap64 ((Int.tmod a0_0 5) + 5)) 5) + 1)), .string (⟨#[]⟩ : ByteArray), .string (⟨#[]⟩ : ByteArray), .string (⟨#[]⟩ : ByteArray), .int .u64 0]) ?_ 1 _ rfl; refine blk_put (cs := #[.int .i64 0, .string (⟨#[]⟩ : ByteArray), .string (⟨#[]⟩ : ByteArray), .string (⟨#[]⟩ : ByteArray), .int .u64 0]) ?_ 0 _ rfl; refine blk_far ?_ NB301_302.out _; refine blk_far ?_ NB301_302.out _; refine blk_far ?_ NB301_302.out _; exact BK301.out) Try.underlying74 rfl (by kernel_rfl)) rfl ?_
          exact ⟨by first | rfl | (simp [errW_none, errW_some]; done) | (simp [errW_none, errW_some]; rfl) | (simp only [← hji22, ← hji26, ← hji30]; first | rfl | (simp [errW_none, errW_some]; done) | (simp [errW_none, errW_some]; rfl)) | (simp [*, errW_none, errW_some]; done) | (simp [*, errW_none, errW_some]; rfl), by repeat (with_reducible first | exact HB.out | apply below_alloc | refine below_set ?_ GE300.out | refine below_set ?_ GE301.out | refine below_set ?_ GE302.out)⟩
         ·
          rw [if_neg c29] at H
          have c29b0 : decide (4 ≤ (wrap64 ((Int.tmod (wrap64 ((Int.tmod a0_0 5) + 5)) 5) + 1))) = false := decide_eq_false c29
          clear c29
          simp only [Option.some.injEq, Prod.mk.injEq] at H
          obtain ⟨rfl, rfl, rfl, rfl, rfl⟩ := H
          have hnb41 := NB302_300.out
          have hnc41 := NB300_302.out
          have hnb42 := NB302_301.out
          have hnc42 := NB301_302.out
          have hcz43_0 : wc.cell? ⟨gb302, 0, none⟩ = some (.int .i64 (wrap64 ((Int.tmod (wrap64 ((Int.tmod a0_0 5) + 5)) 5) + 1))) := (blk_cell BK302.out 0).trans rfl
          have hcz43_1 : wc.cell? ⟨gb302, 1, none⟩ = some (.string x303001_1) := (blk_cell BK302.out 1).trans rfl
          have hcz43_2 : wc.cell? ⟨gb302, 2, none⟩ = some (.string (⟨#[]⟩ : ByteArray)) := (blk_cell BK302.out 2).trans rfl
          have hcz43_3 : wc.cell? ⟨gb302, 3, none⟩ = some (.string (⟨#[]⟩ : ByteArray)) := (blk_cell BK302.out 3).trans rfl
          have hcz43_4 : wc.cell? ⟨gb302, 4, none⟩ = some (.int .u64 0) := (blk_cell BK302.out 4).trans rfl
          have hfz43_0 := blk_frozen BK302.out 0
          have hfz43_1 := blk_frozen BK302.out 1
          have hfz43_2 := blk_frozen BK302.out 2
          have hfz43_3 := blk_frozen BK302.out 3
          have hfz43_4 := blk_frozen BK302.out 4
          try go_wp2
          have n0_ := Aside0.mk (blk_drew BK300.out)
          have n1_ := Aside0.mk (blk_drew BK301.out)
          have n2_ := Aside0.mk (blk_drew BK302.out)
          have n3_ := Aside0.mk (below_drew1 HB.out)
          clear BK300
          clear BK301
          clear BK302
          clear HB
          have BK300 := n0_
          have BK301 := n1_
          have BK302 := n2_
          have HB := n3_
          clear n0_ n1_ n2_ n3_
          refine start_ (n := 19) (S := fun w' => w'.cell? ⟨gb300, 0, none⟩ = some (.int .i64 a0_0) ∧ w'.cell? ⟨gb300, 1, none⟩ = some (.string a0_1) ∧ w'.cell? ⟨gb300, 2, none⟩ = some (.string a0_2) ∧ w'.cell? ⟨gb300, 3, none⟩ = some (.string a0_3) ∧ w'.cell? ⟨gb300, 4, none⟩ = some (.int .u64 a0_4)) (ds := []) #[false, false, false, false, false, false, false, false, false, false, false, false, false, false, false, false, false, false, false] (by kernel_rfl) rfl rfl ⟨(blk_cell BK300.out 0).trans rfl, (blk_cell BK300.out 1).trans rfl, (blk_cell BK300.out 2).trans rfl, (blk_cell BK300.out 3).trans rfl, (blk_cell BK300.out 4).trans rfl⟩ (fun hHeld => ?_); refine with_tabW waybilllaw12_Tame.tab5 waybilllaw12_Tame.bits5 (fun HT_ HW_ => ?_)
          generalize wc.drew = w44 at BK300 BK301 BK302 HB hHeld ⊢
          refine pure_ (i := 0) (N := some 26) (v := ?_) (a' := ?_) #[true, false, false, false, false, false, false, false, false, false, false, false, false, false, false, false, false, false, false] rfl rfl (any_of HT_.out (by kernel_rfl)) (fun _ _ _ h => h) (Or.inl ⟨by rfl, ?_⟩) ?_ ?_
          rotate_left
          ·
           intro w'
           go_simp
           with_reducible rfl
          rotate_left
          ·
           simp only [Act.put, List.setIfInBounds_toArray, List.set_cons_zero, List.set_cons_succ, i64_w, i32_w]
           rfl
          refine pure_ (i := 2) (N := some 28) (v := ?_) (a' := ?_) #[true, false, true, false, false, false, false, false, false, false, false, false, false, false, false, false, false, false, false] rfl rfl (any_of HT_.out (by kernel_rfl)) (fun _ _ _ h => h) (Or.inl ⟨by rfl, ?_⟩) ?_ ?_
          rotate_left
          ·
           intro w'
           go_simp
           with_reducible rfl
          rotate_left
          ·
           simp only [Act.put, List.setIfInBounds_toArray, List.set_cons_zero, List.set_cons_succ, i64_w, i32_w]
           rfl
          refine pure_ (i := 8) (N := some 34) (v := ?_) (a' := ?_) #[true, false, true, false, false, false, false, false, true, false, false, false, false, false, false, false, false, false, false] rfl rfl (any_of HT_.out (by kernel_rfl)) (fun _ _ _ h => h) (Or.inl ⟨by rfl, ?_⟩) ?_ ?_
          rotate_left
          ·
           intro w'
           go_simp
           with_reducible rfl
          rotate_left
          ·
           simp only [Act.put, List.setIfInBounds_toArray, List.set_cons_zero, List.set_cons_succ, i64_w, i32_w]
           rfl
          refine pure_ (i := 10) (N := some 36) (v := ?_) (a' := ?_) #[true, false, true, false, false, false, false, false, true, false, true, false, false, false, false, false, false, false, false] rfl rfl (any_of HT_.out (by kernel_rfl)) (fun _ _ _ h => h) (Or.inl ⟨by rfl, ?_⟩) ?_ ?_
          rotate_left
          ·
           intro w'
           go_simp
           with_reducible rfl
          rotate_left
          ·
           simp only [Act.put, List.setIfInBounds_toArray, List.set_cons_zero, List.set_cons_succ, i64_w, i32_w]
           rfl
          refine take_ (i := 1) (N := some 27) (v := ?_) (a' := ?_) #[true, true, true, false, false, false, false, false, true, false, true, false, false, false, false, false, false, false, false] rfl rfl (take_ofW HT_.out HW_.out (by kernel_rfl)) (fun _ _ _ h => h) (Or.inl ⟨by rfl, ?_⟩) hHeld ?_ ?_
          rotate_left
          ·
           rintro w' ⟨s0, s1, s2, s3, s4⟩
           go_simp
           with_reducible rfl
          rotate_left
          ·
           simp only [Act.put, List.setIfInBounds_toArray, List.set_cons_zero, List.set_cons_succ, i64_w, i32_w]
           rfl
          refine take_ (i := 3) (N := some 29) (v := ?_) (a' := ?_) #[true, true, true, true, false, false, false, false, true, false, true, false, false, false, false, false, false, false, false] rfl rfl (take_ofW HT_.out HW_.out (by kernel_rfl)) (fun _ _ _ h => h) (Or.inl ⟨by rfl, ?_⟩) hHeld ?_ ?_
          rotate_left
          ·
           rintro w' ⟨s0, s1, s2, s3, s4⟩
           go_simp
           with_reducible rfl
          rotate_left
          ·
           simp only [Act.put, List.setIfInBounds_toArray, List.set_cons_zero, List.set_cons_succ, i64_w, i32_w]
           rfl
          refine pure_ (i := 4) (N := some 30) (v := ?_) (a' := ?_) #[true, true, true, true, true, false, false, false, true, false, true, false, false, false, false, false, false, false, false] rfl rfl (any_of HT_.out (by kernel_rfl)) (fun _ _ _ h => h) (Or.inl ⟨by rfl, ?_⟩) ?_ ?_
          rotate_left
          ·
           intro w'
           go_simp
           with_reducible rfl
          rotate_left
          ·
           simp only [Act.put, List.setIfInBounds_toArray, List.set_cons_zero, List.set_cons_succ, i64_w, i32_w]
           rfl
          refine pure_ (i := 5) (N := some 31) (v := ?_) (a' := ?_) #[true, true, true, true, true, true, false, false, true, false, true, false, false, false, false, false, false, false, false] rfl rfl (any_of HT_.out (by kernel_rfl)) (fun _ _ _ h => h) (Or.inl ⟨by rfl, ?_⟩) ?_ ?_
          rotate_left
          ·
           intro w'
           go_simp
           with_reducible rfl
          rotate_left
          ·
           simp only [Act.put, List.setIfInBounds_toArray, List.set_cons_zero, List.set_cons_succ, i64_w, i32_w]
           rfl
          refine pure_ (i := 6) (N := some 32) (v := ?_) (a' := ?_) #[true, true, true, true, true, true, true, false, true, false, true, false, false, false, false, false, false, false, false] rfl rfl (any_of HT_.out (by kernel_rfl)) (fun _ _ _ h => h) (Or.inl ⟨by rfl, ?_⟩) ?_ ?_
          rotate_left
          ·
           intro w'
           go_simp
           with_reducible rfl
          rotate_left
          ·
           simp only [Act.put, List.setIfInBounds_toArray, List.set_cons_zero, List.set_cons_succ, i64_w, i32_w]
           rfl
          refine pure_ (i := 7) (N := some 33) (v := ?_) (a' := ?_) #[true, true, true, true, true, true, true, true, true, false, true, false, false, false, false, false, false, false, false] rfl rfl (any_of HT_.out (by kernel_rfl)) (fun _ _ _ h => h) (Or.inl ⟨by rfl, ?_⟩) ?_ ?_
          rotate_left
          ·
           intro w'
           go_simp
           with_reducible rfl
          rotate_left
          ·
           simp only [Act.put, List.setIfInBounds_toArray, List.set_cons_zero, List.set_cons_succ, i64_w, i32_w]
           rfl
          refine pure_ (i := 15) (N := some 41) (v := ?_) (a' := ?_) #[true, true, true, true, true, true, true, true, true, false, true, false, false, false, false, true, false, false, false] rfl rfl (any_of HT_.out (by kernel_rfl)) (fun _ _ _ h => h) (Or.inl ⟨by rfl, ?_⟩) ?_ ?_
          rotate_left
          ·
           intro w'
           go_simp
           with_reducible rfl
          rotate_left
          ·
           simp only [Act.put, List.setIfInBounds_toArray, List.set_cons_zero, List.set_cons_succ, i64_w, i32_w]
           rfl
          refine take_ (i := 9) (N := some 35) (v := ?_) (a' := ?_) #[true, true, true, true, true, true, true, true, true, true, true, false, false, false, false, true, false, false, false] rfl rfl (take_ofW HT_.out HW_.out (by kernel_rfl)) (fun _ _ _ h => h) (Or.inl ⟨by rfl, ?_⟩) hHeld ?_ ?_
          rotate_left
          ·
           rintro w' ⟨s0, s1, s2, s3, s4⟩
           go_simp
           with_reducible rfl
          rotate_left
          ·
           simp only [Act.put, List.setIfInBounds_toArray, List.set_cons_zero, List.set_cons_succ, i64_w, i32_w]
           rfl
          refine take_ (i := 11) (N := some 37) (v := ?_) (a' := ?_) #[true, true, true, true, true, true, true, true, true, true, true, true, false, false, false, true, false, false, false] rfl rfl (take_ofW HT_.out HW_.out (by kernel_rfl)) (fun _ _ _ h => h) (Or.inl ⟨by rfl, ?_⟩) hHeld ?_ ?_
          rotate_left
          ·
           rintro w' ⟨s0, s1, s2, s3, s4⟩
           go_simp
           with_reducible rfl
          rotate_left
          ·
           simp only [Act.put, List.setIfInBounds_toArray, List.set_cons_zero, List.set_cons_succ, i64_w, i32_w]
           rfl
          refine pure_ (i := 12) (N := some 38) (v := ?_) (a' := ?_) #[true, true, true, true, true, true, true, true, true, true, true, true, true, false, false, true, false, false, false] rfl rfl (any_of HT_.out (by kernel_rfl)) (fun _ _ _ h => h) (Or.inl ⟨by rfl, ?_⟩) ?_ ?_
          rotate_left
          ·
           intro w'
           go_simp
           with_reducible rfl
          rotate_left
          ·
           simp only [Act.put, List.setIfInBounds_toArray, List.set_cons_zero, List.set_cons_succ, i64_w, i32_w]
           rfl
          refine pure_ (i := 13) (N := some 39) (v := ?_) (a' := ?_) #[true, true, true, true, true, true, true, true, true, true, true, true, true, true, false, true, false, false, false] rfl rfl (any_of HT_.out (by kernel_rfl)) (fun _ _ _ h => h) (Or.inl ⟨by rfl, ?_⟩) ?_ ?_
          rotate_left
          ·
           intro w'
           go_simp
           with_reducible rfl
          rotate_left
          ·
           simp only [Act.put, List.setIfInBounds_toArray, List.set_cons_zero, List.set_cons_succ, i64_w, i32_w]
           rfl
          refine pure_ (i := 14) (N := some 40) (v := ?_) (a' := ?_) #[true, true, true, true, true, true, true, true, true, true, true, true, true, true, true, true, false, false, false] rfl rfl (any_of HT_.out (by kernel_rfl)) (fun _ _ _ h => h) (Or.inl ⟨by rfl, ?_⟩) ?_ ?_
          rotate_left
          ·
           intro w'
           go_simp
           with_reducible rfl
          rotate_left
          ·
           simp only [Act.put, List.setIfInBounds_toArray, List.set_cons_zero, List.set_cons_succ, i64_w, i32_w]
           rfl
          refine one_ (i := 16) (N := none) #[true, true, true, true, true, true, true, true, true, true, true, true, true, true, true, true, true, false, false] rfl rfl (one_of HT_.out (by kernel_rfl)) (by decide) (fun K hK => ?_)
          have hs45 : w44.cell? ⟨gb302, 2, none⟩ = some (.string (⟨#[]⟩ : ByteArray)) := (blk_cell BK302.out 2).trans rfl
          have hfs45 := blk_frozen BK302.out 2
          have hns45_0 := NB300_302.out
          have hns45_1 := NB301_302.out
          have hms45_0 := NB302_300.out
          have hms45_1 := NB302_301.out
          refine skip_ (w1 := ?_) (by rfl) rfl ?_ ?_
          rotate_left
          ·
           go_simp
           rfl
          refine hK.out _ _ ⟨((cell_far (p := ⟨gb302, _, none⟩) NB300_302.out _).trans (hHeld.1)), ((cell_far (p := ⟨gb302, _, none⟩) NB300_302.out _).trans (hHeld.2.1)), ((cell_far (p := ⟨gb302, _, none⟩) NB300_302.out _).trans (hHeld.2.2.1)), ((cell_far (p := ⟨gb302, _, none⟩) NB300_302.out _).trans (hHeld.2.2.2.1)), ((cell_far (p := ⟨gb302, _, none⟩) NB300_302.out _).trans (hHeld.2.2.2.2))⟩ (fun hHeld => ?_)
          clear hK K
          refine pure_ (i := 17) (N := some 42) (v := ?_) (a' := ?_) #[true, true, true, true, true, true, true, true, true, true, true, true, true, true, true, true, true, true, false] rfl rfl (any_of HT_.out (by kernel_rfl)) (fun _ _ _ h => h) (Or.inl ⟨by rfl, ?_⟩) ?_ ?_
          rotate_left
          ·
           intro w'
           go_simp
           with_reducible rfl
          rotate_left
          ·
           simp only [Act.put, List.setIfInBounds_toArray, List.set_cons_zero, List.set_cons_succ, i64_w, i32_w]
           rfl
          refine one_ (i := 18) (N := none) #[true, true, true, true, true, true, true, true, true, true, true, true, true, true, true, true, true, true, true] rfl rfl (one_of HT_.out (by kernel_rfl)) (by decide) (fun K hK => ?_)
          have hs46 : w44.cell? ⟨gb302, 3, none⟩ = some (.string (⟨#[]⟩ : ByteArray)) := (blk_cell BK302.out 3).trans rfl
          have hfs46 := blk_frozen BK302.out 3
          have hns46_0 := NB300_302.out
          have hns46_1 := NB301_302.out
          have hms46_0 := NB302_300.out
          have hms46_1 := NB302_301.out
          refine skip_ (w1 := ?_) (by rfl) rfl ?_ ?_
          rotate_left
          ·
           go_simp
           rfl
          refine hK.out _ _ ⟨((cell_far (p := ⟨gb302, _, none⟩) NB300_302.out _).trans (hHeld.1)), ((cell_far (p := ⟨gb302, _, none⟩) NB300_302.out _).trans (hHeld.2.1)), ((cell_far (p := ⟨gb302, _, none⟩) NB300_302.out _).trans (hHeld.2.2.1)), ((cell_far (p := ⟨gb302, _, none⟩) NB300_302.out _).trans (hHeld.2.2.2.1)), ((cell_far (p := ⟨gb302, _, none⟩) NB300_302.out _).trans (hHeld.2.2.2.2))⟩ (fun hHeld => ?_)
          clear hK K
          refine done_ (done_of HT_.out (by kernel_rfl)) ?_
          have hcz47_0 : w44.cell? ⟨gb302, 0, none⟩ = some (.int .i64 (wrap64 ((Int.tmod (wrap64 ((Int.tmod a0_0 5) + 5)) 5) + 1))) := (blk_cell BK302.out 0).trans rfl
          have hcz47_1 : w44.cell? ⟨gb302, 1, none⟩ = some (.string x303001_1) := (blk_cell BK302.out 1).trans rfl
          have hcz47_2 : w44.cell? ⟨gb302, 2, none⟩ = some (.string (⟨#[]⟩ : ByteArray)) := (blk_cell BK302.out 2).trans rfl
          have hcz47_3 : w44.cell? ⟨gb302, 3, none⟩ = some (.string (⟨#[]⟩ : ByteArray)) := (blk_cell BK302.out 3).trans rfl
          have hcz47_4 : w44.cell? ⟨gb302, 4, none⟩ = some (.int .u64 0) := (blk_cell BK302.out 4).trans rfl
          have hfz47_0 := blk_frozen BK302.out 0
          have hfz47_1 := blk_frozen BK302.out 1
          have hfz47_2 := blk_frozen BK302.out 2
          have hfz47_3 := blk_frozen BK302.out 3
          have hfz47_4 := blk_frozen BK302.out 4
          have hnb48 := NB301_300.out
          have hnc48 := NB300_301.out
          have hcz49_0 : w44.cell? ⟨gb301, 0, none⟩ = some (.int .i64 0) := (blk_cell BK301.out 0).trans rfl
          have hcz49_1 : w44.cell? ⟨gb301, 1, none⟩ = some (.string (⟨#[]⟩ : ByteArray)) := (blk_cell BK301.out 1).trans rfl
          have hcz49_2 : w44.cell? ⟨gb301, 2, none⟩ = some (.string (⟨#[]⟩ : ByteArray)) := (blk_cell BK301.out 2).trans rfl
          have hcz49_3 : w44.cell? ⟨gb301, 3, none⟩ = some (.string (⟨#[]⟩ : ByteArray)) := (blk_cell BK301.out 3).trans rfl
          have hcz49_4 : w44.cell? ⟨gb301, 4, none⟩ = some (.int .u64 0) := (blk_cell BK301.out 4).trans rfl
          have hfz49_0 := blk_frozen BK301.out 0
          have hfz49_1 := blk_frozen BK301.out 1
          have hfz49_2 := blk_frozen BK301.out 2
          have hfz49_3 := blk_frozen BK301.out 3
          have hfz49_4 := blk_frozen BK301.out 4
          try go_wp2
          refine bodyPost_ret (results_cell_row rfl _ _ gb301 74 #[.int .i64 (wrap64 ((Int.tmod (wrap64 ((Int.tmod a0_0 5) + 5)) 5) + 1)), .string x303001_1, .string ((⟨#[98]⟩ : ByteArray) ++ (a0_2.extract 0 ((ji22) : Int).toNat)), .string (a0_3.extract 0 ((ji26) : Int).toNat), .int .u64 0] (0, 0) _ rfl (by refine blk_put (cs := #[.int .i64 (wrap64 ((Int.tmod (wrap64 ((Int.tmod a0_0 5) + 5)) 5) + 1)), .string x303001_1, .string ((⟨#[98]⟩ : ByteArray) ++ (a0_2.extract 0 ((ji22) : Int).toNat)), .string (a0_3.extract 0 ((ji26) : Int).toNat), .int .u64 0]) ?_ 4 _ rfl; refine blk_put (cs := #[.int .i64 (wrap64 ((Int.tmod (wrap64 ((Int.tmod a0_0 5) + 5)) 5) + 1)), .string x303001_1, .string ((⟨#[98]⟩ : ByteArray) ++ (a0_2.extract 0 ((ji22) : Int).toNat)), .string (⟨#[]⟩ : ByteArray), .int .u64 0]) ?_ 3 _ rfl; refine blk_put (cs := #[.int .i64 (wrap64 ((Int.tmod (wrap64 ((Int.tmod a0_0 5) + 5)) 5) + 1)), .string x303001_1, .string (⟨#[]⟩ : ByteArray), .string (⟨#[]⟩ : ByteArray), .int .u64 0]) ?_ 2 _ rfl; refine blk_put (cs := #[.int .i64 (wrap64 ((Int.tmod (wrap64 ((Int.tmod a0_0 5) + 5)) 5) + 1)), .string (⟨#[]⟩ : ByteArray), .string (⟨#[]⟩ : ByteArray), .string (⟨#[]⟩ : ByteArray), .int .u64 0]) ?_ 1 _ rfl; refine blk_put (cs := #[.int .i64 0, .string (⟨#[]⟩ : ByteArray), .string (⟨#[]⟩ : ByteArray), .string (⟨#[]⟩ : ByteArray), .int .u64 0]) ?_ 0 _ rfl; refine blk_far ?_ NB301_302.out _; refine blk_far ?_ NB301_302.out _; exact BK301.out) Try.underlying74 rfl (by kernel_rfl)) rfl ?_
          exact ⟨by first | rfl | (simp [errW_none, errW_some]; done) | (simp [errW_none, errW_some]; rfl) | (simp only [← hji22, ← hji26]; first | rfl | (simp [errW_none, errW_some]; done) | (simp [errW_none, errW_some]; rfl)) | (simp [*, errW_none, errW_some]; done) | (simp [*, errW_none, errW_some]; rfl), by repeat (with_reducible first | exact HB.out | apply below_alloc | refine below_set ?_ GE300.out | refine below_set ?_ GE301.out | refine below_set ?_ GE302.out)⟩
        ·
         rw [if_neg c28] at H
         exact absurd H (by simp)
       ·
        rw [if_neg c27] at H
        exact absurd H (by simp)
      ·
       rw [if_neg c25] at H
       exact absurd H (by simp)
     ·
      rw [if_neg c24] at H
      exact absurd H (by simp)
    ·
     rw [if_neg c23] at H
     exact absurd H (by simp)
   ·
    rw [if_neg c21] at H
    have c21b0 : ((wrap64 ((Int.tmod (wrap64 ((Int.tmod a0_0 5) + 5)) 5) + 1)) == 3) = false := beq_eq_false_iff_ne.mpr c21
    have c21b1 : ((wrap64 ((Int.tmod (wrap64 ((Int.tmod a0_0 5) + 5)) 5) + 1)) != 3) = true := bne_iff_ne.mpr c21
    by_cases c50 : (wrap64 ((Int.tmod (wrap64 ((Int.tmod a0_0 5) + 5)) 5) + 1)) ≥ 4
    ·
     rw [if_pos c50] at H
     have c50b0 : decide (4 ≤ (wrap64 ((Int.tmod (wrap64 ((Int.tmod a0_0 5) + 5)) 5) + 1))) = true := decide_eq_true c50
     clear c50
     obtain ⟨ji51, hji51⟩ : ∃ j_ : Int, (mx a0_4 1) = j_ := ⟨_, rfl⟩
     replace H : (some ((wrap64 ((Int.tmod (wrap64 ((Int.tmod a0_0 5) + 5)) 5) + 1)), x303001_1, (⟨#[]⟩ : ByteArray), (⟨#[]⟩ : ByteArray), ji51)) = some (r1, r2, r3, r4, r5) := by first | (rw [hji51] at H; exact H) | (simp only [hji51] at H ⊢; exact H)
     have hji51_ : (if a0_4 < 1 then 1 else a0_4) = ji51 := hji51
     simp only [Option.some.injEq, Prod.mk.injEq] at H
     obtain ⟨rfl, rfl, rfl, rfl, rfl⟩ := H
     have hnb52 := NB302_300.out
     have hnc52 := NB300_302.out
     have hnb53 := NB302_301.out
     have hnc53 := NB301_302.out
     have hcz54_0 : wc.cell? ⟨gb302, 0, none⟩ = some (.int .i64 (wrap64 ((Int.tmod (wrap64 ((Int.tmod a0_0 5) + 5)) 5) + 1))) := (blk_cell BK302.out 0).trans rfl
     have hcz54_1 : wc.cell? ⟨gb302, 1, none⟩ = some (.string x303001_1) := (blk_cell BK302.out 1).trans rfl
     have hcz54_2 : wc.cell? ⟨gb302, 2, none⟩ = some (.string (⟨#[]⟩ : ByteArray)) := (blk_cell BK302.out 2).trans rfl
     have hcz54_3 : wc.cell? ⟨gb302, 3, none⟩ = some (.string (⟨#[]⟩ : ByteArray)) := (blk_cell BK302.out 3).trans rfl
     have hcz54_4 : wc.cell? ⟨gb302, 4, none⟩ = some (.int .u64 0) := (blk_cell BK302.out 4).trans rfl
     have hfz54_0 := blk_frozen BK302.out 0
     have hfz54_1 := blk_frozen BK302.out 1
     have hfz54_2 := blk_frozen BK302.out 2
     have hfz54_3 := blk_frozen BK302.out 3
     have hfz54_4 := blk_frozen BK302.out 4
     have hnb55 := NB300_301.out
     have hnc55 := NB301_300.out
     have hcz56_0 : wc.cell? ⟨gb300, 0, none⟩ = some (.int .i64 a0_0) := (blk_cell BK300.out 0).trans rfl
     have hcz56_1 : wc.cell? ⟨gb300, 1, none⟩ = some (.string a0_1) := (blk_cell BK300.out 1).trans rfl
     have hcz56_2 : wc.cell? ⟨gb300, 2, none⟩ = some (.string a0_2) := (blk_cell BK300.out 2).trans rfl
     have hcz56_3 : wc.cell? ⟨gb300, 3, none⟩ = some (.string a0_3) := (blk_cell BK300.out 3).trans rfl
     have hcz56_4 : wc.cell? ⟨gb300, 4, none⟩ = some (.int .u64 a0_4) := (blk_cell BK300.out 4).trans rfl
     have hfz56_0 := blk_frozen BK300.out 0
     have hfz56_1 := blk_frozen BK300.out 1
     have hfz56_2 := blk_frozen BK300.out 2
     have hfz56_3 := blk_frozen BK300.out 3
     have hfz56_4 := blk_frozen BK300.out 4
     have hcz57_0 : wc.cell? ⟨gb301, 0, none⟩ = some (.int .i64 0) := (blk_cell BK301.out 0).trans rfl
     have hcz57_1 : wc.cell? ⟨gb301, 1, none⟩ = some (.string (⟨#[]⟩ : ByteArray)) := (blk_cell BK301.out 1).trans rfl
     have hcz57_2 : wc.cell? ⟨gb301, 2, none⟩ = some (.string (⟨#[]⟩ : ByteArray)) := (blk_cell BK301.out 2).trans rfl
     have hcz57_3 : wc.cell? ⟨gb301, 3, none⟩ = some (.string (⟨#[]⟩ : ByteArray)) := (blk_cell BK301.out 3).trans rfl
     have hcz57_4 : wc.cell? ⟨gb301, 4, none⟩ = some (.int .u64 0) := (blk_cell BK301.out 4).trans rfl
     have hfz57_0 := blk_frozen BK301.out 0
     have hfz57_1 := blk_frozen BK301.out 1
     have hfz57_2 := blk_frozen BK301.out 2
     have hfz57_3 := blk_frozen BK301.out 3
     have hfz57_4 := blk_frozen BK301.out 4
     go_wp2
     refine bodyPost_ret (results_cell_row rfl _ _ gb301 74 #[.int .i64 (wrap64 ((Int.tmod (wrap64 ((Int.tmod a0_0 5) + 5)) 5) + 1)), .string x303001_1, .string (⟨#[]⟩ : ByteArray), .string (⟨#[]⟩ : ByteArray), .int .u64 ji51] (0, 0) _ rfl (by refine blk_put (cs := #[.int .i64 (wrap64 ((Int.tmod (wrap64 ((Int.tmod a0_0 5) + 5)) 5) + 1)), .string x303001_1, .string (⟨#[]⟩ : ByteArray), .string (⟨#[]⟩ : ByteArray), .int .u64 0]) ?_ 4 _ rfl; refine blk_put (cs := #[.int .i64 (wrap64 ((Int.tmod (wrap64 ((Int.tmod a0_0 5) + 5)) 5) + 1)), .string x303001_1, .string (⟨#[]⟩ : ByteArray), .string (⟨#[]⟩ : ByteArray), .int .u64 0]) ?_ 3 _ rfl; refine blk_put (cs := #[.int .i64 (wrap64 ((Int.tmod (wrap64 ((Int.tmod a0_0 5) + 5)) 5) + 1)), .string x303001_1, .string (⟨#[]⟩ : ByteArray), .string (⟨#[]⟩ : ByteArray), .int .u64 0]) ?_ 2 _ rfl; refine blk_put (cs := #[.int .i64 (wrap64 ((Int.tmod (wrap64 ((Int.tmod a0_0 5) + 5)) 5) + 1)), .string (⟨#[]⟩ : ByteArray), .string (⟨#[]⟩ : ByteArray), .string (⟨#[]⟩ : ByteArray), .int .u64 0]) ?_ 1 _ rfl; refine blk_put (cs := #[.int .i64 0, .string (⟨#[]⟩ : ByteArray), .string (⟨#[]⟩ : ByteArray), .string (⟨#[]⟩ : ByteArray), .int .u64 0]) ?_ 0 _ rfl; refine blk_far ?_ NB301_302.out _; exact BK301.out) Try.underlying74 rfl (by kernel_rfl)) rfl ?_
     exact ⟨by first | rfl | (simp [errW_none, errW_some]; done) | (simp [errW_none, errW_some]; rfl) | (simp only [← hji51]; first | rfl | (simp [errW_none, errW_some]; done) | (simp [errW_none, errW_some]; rfl)) | (simp [*, errW_none, errW_some]; done) | (simp [*, errW_none, errW_some]; rfl), by repeat (with_reducible first | exact HB.out | apply below_alloc | refine below_set ?_ GE300.out | refine below_set ?_ GE301.out | refine below_set ?_ GE302.out)⟩
    ·
     rw [if_neg c50] at H
     have c50b0 : decide (4 ≤ (wrap64 ((Int.tmod (wrap64 ((Int.tmod a0_0 5) + 5)) 5) + 1))) = false := decide_eq_false c50
     clear c50
     simp only [Option.some.injEq, Prod.mk.injEq] at H
     obtain ⟨rfl, rfl, rfl, rfl, rfl⟩ := H
     have hnb58 := NB302_300.out
     have hnc58 := NB300_302.out
     have hnb59 := NB302_301.out
     have hnc59 := NB301_302.out
     have hcz60_0 : wc.cell? ⟨gb302, 0, none⟩ = some (.int .i64 (wrap64 ((Int.tmod (wrap64 ((Int.tmod a0_0 5) + 5)) 5) + 1))) := (blk_cell BK302.out 0).trans rfl
     have hcz60_1 : wc.cell? ⟨gb302, 1, none⟩ = some (.string x303001_1) := (blk_cell BK302.out 1).trans rfl
     have hcz60_2 : wc.cell? ⟨gb302, 2, none⟩ = some (.string (⟨#[]⟩ : ByteArray)) := (blk_cell BK302.out 2).trans rfl
     have hcz60_3 : wc.cell? ⟨gb302, 3, none⟩ = some (.string (⟨#[]⟩ : ByteArray)) := (blk_cell BK302.out 3).trans rfl
     have hcz60_4 : wc.cell? ⟨gb302, 4, none⟩ = some (.int .u64 0) := (blk_cell BK302.out 4).trans rfl
     have hfz60_0 := blk_frozen BK302.out 0
     have hfz60_1 := blk_frozen BK302.out 1
     have hfz60_2 := blk_frozen BK302.out 2
     have hfz60_3 := blk_frozen BK302.out 3
     have hfz60_4 := blk_frozen BK302.out 4
     have hnb61 := NB301_300.out
     have hnc61 := NB300_301.out
     have hcz62_0 : wc.cell? ⟨gb301, 0, none⟩ = some (.int .i64 0) := (blk_cell BK301.out 0).trans rfl
     have hcz62_1 : wc.cell? ⟨gb301, 1, none⟩ = some (.string (⟨#[]⟩ : ByteArray)) := (blk_cell BK301.out 1).trans rfl
     have hcz62_2 : wc.cell? ⟨gb301, 2, none⟩ = some (.string (⟨#[]⟩ : ByteArray)) := (blk_cell BK301.out 2).trans rfl
     have hcz62_3 : wc.cell? ⟨gb301, 3, none⟩ = some (.string (⟨#[]⟩ : ByteArray)) := (blk_cell BK301.out 3).trans rfl
     have hcz62_4 : wc.cell? ⟨gb301, 4, none⟩ = some (.int .u64 0) := (blk_cell BK301.out 4).trans rfl
     have hfz62_0 := blk_frozen BK301.out 0
     have hfz62_1 := blk_frozen BK301.out 1
     have hfz62_2 := blk_frozen BK301.out 2
     have hfz62_3 := blk_frozen BK301.out 3
     have hfz62_4 := blk_frozen BK301.out 4
     go_wp2
     refine bodyPost_ret (results_cell_row rfl _ _ gb301 74 #[.int .i64 (wrap64 ((Int.tmod (wrap64 ((Int.tmod a0_0 5) + 5)) 5) + 1)), .string x303001_1, .string (⟨#[]⟩ : ByteArray), .string (⟨#[]⟩ : ByteArray), .int .u64 0] (0, 0) _ rfl (by refine blk_put (cs := #[.int .i64 (wrap64 ((Int.tmod (wrap64 ((Int.tmod a0_0 5) + 5)) 5) + 1)), .string x303001_1, .string (⟨#[]⟩ : ByteArray), .string (⟨#[]⟩ : ByteArray), .int .u64 0]) ?_ 4 _ rfl; refine blk_put (cs := #[.int .i64 (wrap64 ((Int.tmod (wrap64 ((Int.tmod a0_0 5) + 5)) 5) + 1)), .string x303001_1, .string (⟨#[]⟩ : ByteArray), .string (⟨#[]⟩ : ByteArray), .int .u64 0]) ?_ 3 _ rfl; refine blk_put (cs := #[.int .i64 (wrap64 ((Int.tmod (wrap64 ((Int.tmod a0_0 5) + 5)) 5) + 1)), .string x303001_1, .string (⟨#[]⟩ : ByteArray), .string (⟨#[]⟩ : ByteArray), .int .u64 0]) ?_ 2 _ rfl; refine blk_put (cs := #[.int .i64 (wrap64 ((Int.tmod (wrap64 ((Int.tmod a0_0 5) + 5)) 5) + 1)), .string (⟨#[]⟩ : ByteArray), .string (⟨#[]⟩ : ByteArray), .string (⟨#[]⟩ : ByteArray), .int .u64 0]) ?_ 1 _ rfl; refine blk_put (cs := #[.int .i64 0, .string (⟨#[]⟩ : ByteArray), .string (⟨#[]⟩ : ByteArray), .string (⟨#[]⟩ : ByteArray), .int .u64 0]) ?_ 0 _ rfl; exact BK301.out) Try.underlying74 rfl (by kernel_rfl)) rfl ?_
     exact ⟨by first | rfl | (simp [errW_none, errW_some]; done) | (simp [errW_none, errW_some]; rfl) | (simp [*, errW_none, errW_some]; done) | (simp [*, errW_none, errW_some]; rfl), by repeat (with_reducible first | exact HB.out | apply below_alloc | refine below_set ?_ GE300.out | refine below_set ?_ GE301.out | refine below_set ?_ GE302.out)⟩

end Go.Proofs.Ytpjkaodbcclecaa.PK
