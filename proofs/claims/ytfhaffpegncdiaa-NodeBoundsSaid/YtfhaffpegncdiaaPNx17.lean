/- What functions of the given program come to, and that they do: written out of the translation by a program of this session; Lean checks it. -/
import Derived.Test.YtfhaffpegncdiaaPNx0
import Derived.Test.YtfhaffpegncdiaaPNx11
namespace Go.Proofs.Ytfhaffpegncdiaa.PN
open Go.RowKit Go.Proofs.YtfhaffpegncdiaaW.PrintWords Go.Proofs.YtfhaffpegncdiaaW.PrintLast Go.Proofs.YtfhaffpegncdiaaW.PrintMore
attribute [local go_sem] max2_int min2_int max_two min_two max_three min_three max_four min_four   -- for this text's walks alone
set_option linter.unusedVariables false
set_option linter.unusedSimpArgs false

theorem with_world {G : World → Prop} {W : World} (P : World → Prop) (hP : P W) (h : ∀ W1, P W1 → G W1) : G W := h W hP
/-! ### waybilllaw10_Tame: function 30 -/
mutual
def waybilllaw10_Tame.l0 : Nat → Int → Bool → List (S41) → Bool → List (S41) → Option (Bool × (List (S41)))
  | 0, _, _, _, _, _ => none
  | k + 1, x4, x360000, x360001, x362000, x362001 => if x4 < (x360001.length : Int) then (waybilllaw10_Tame.j1 k x4 (decide (x4 < 40)) x360000 x360001 x362000 x362001) else (waybilllaw10_Tame.j1 k x4 false x360000 x360001 x362000 x362001)
def waybilllaw10_Tame.j1 : Nat → Int → Bool → Bool → List (S41) → Bool → List (S41) → Option (Bool × (List (S41)))
  | 0, _, _, _, _, _, _ => none
  | k + 1, x4, x18, x360000, x360001, x362000, x362001 => if x18 = true then (if 0 ≤ x4 then (if x4 < (x360001.length : Int) then (if 0 ≤ (mn (((rd_T41 x360001 x4).f0).size : Int) 100) then (if (mn (((rd_T41 x360001 x4).f0).size : Int) 100) ≤ (((rd_T41 x360001 x4).f0).size : Int) then (if 1 + (((rd_T41 x360001 x4).f0).extract 0 ((mn (((rd_T41 x360001 x4).f0).size : Int) 100) : Int).toNat).size ≤ 9223372036854775807 then (if 0 ≤ (mn (((rd_T41 x360001 x4).f1).size : Int) 20) then (if (mn (((rd_T41 x360001 x4).f1).size : Int) 20) ≤ (((rd_T41 x360001 x4).f1).size : Int) then (if x360000 = true then (waybilllaw10_Tame.j2 k x4 x360000 x360001 x362000 x362001 ((⟨#[107]⟩ : ByteArray) ++ (((rd_T41 x360001 x4).f0).extract 0 ((mn (((rd_T41 x360001 x4).f0).size : Int) 100) : Int).toNat)) (((rd_T41 x360001 x4).f1).extract 0 ((mn (((rd_T41 x360001 x4).f1).size : Int) 20) : Int).toNat) 0) else (waybilllaw10_Tame.j2 k x4 x360000 x360001 x362000 x362001 ((⟨#[107]⟩ : ByteArray) ++ (((rd_T41 x360001 x4).f0).extract 0 ((mn (((rd_T41 x360001 x4).f0).size : Int) 100) : Int).toNat)) (⟨#[]⟩ : ByteArray) (wrap64 (2 + (Go.bits .and .i64 ((rd_T41 x360001 x4).f2) 65535))))) else (none)) else (none)) else (none)) else (none)) else (none)) else (none)) else (none)) else (some (x362000, x362001))
def waybilllaw10_Tame.j2 : Nat → Int → Bool → List (S41) → Bool → List (S41) → ByteArray → ByteArray → Int → Option (Bool × (List (S41)))
  | 0, _, _, _, _, _, _, _, _ => none
  | k + 1, x4, x360000, x360001, x362000, x362001, x364000, x364001, x364002 => if (x362001.length : Int) > 0 then (if 0 ≤ (wrap64 ((x362001.length : Int) - 1)) then (if (wrap64 ((x362001.length : Int) - 1)) < (x362001.length : Int) then (waybilllaw10_Tame.j3 k x4 (x362001.length : Int) (!(Op.bytesLess (((rd_T41 x362001 (wrap64 ((x362001.length : Int) - 1))).f0).toList) x364000.toList)) x360000 x360001 x362000 x362001 x364000 x364001 x364002) else (none)) else (none)) else (waybilllaw10_Tame.j3 k x4 (x362001.length : Int) false x360000 x360001 x362000 x362001 x364000 x364001 x364002)
def waybilllaw10_Tame.j3 : Nat → Int → Int → Bool → Bool → List (S41) → Bool → List (S41) → ByteArray → ByteArray → Int → Option (Bool × (List (S41)))
  | 0, _, _, _, _, _, _, _, _, _, _ => none
  | k + 1, x4, x6, x68, x360000, x360001, x362000, x362001, x364000, x364001, x364002 => if x68 = true then (if 0 ≤ (wrap64 (x6 - 1)) then (if (wrap64 (x6 - 1)) < (x362001.length : Int) then (if ((rd_T41 x362001 (wrap64 (x6 - 1))).f0).size + 1 ≤ 9223372036854775807 then (waybilllaw10_Tame.j4 k x4 x360000 x360001 x362000 x362001 (((rd_T41 x362001 (wrap64 (x6 - 1))).f0) ++ (⟨#[43]⟩ : ByteArray)) x364001 x364002) else (none)) else (none)) else (none)) else (waybilllaw10_Tame.j4 k x4 x360000 x360001 x362000 x362001 x364000 x364001 x364002)
def waybilllaw10_Tame.j4 : Nat → Int → Bool → List (S41) → Bool → List (S41) → ByteArray → ByteArray → Int → Option (Bool × (List (S41)))
  | 0, _, _, _, _, _, _, _, _ => none
  | k + 1, x4, x360000, x360001, x362000, x362001, x364000, x364001, x364002 => if (x364000.size : Int) > 130 then (some (x362000, x362001)) else (if x362001.length < 3518437208883 then ((some (x362001 ++ [(⟨x364000, x364001, x364002⟩ : S41)] : List (S41))).bind fun y366 => ((waybillref7_NodeSize.f k x362000 y366).bind fun t369 => (if t369 > 512 then (if 0 ≤ (wrap64 ((y366.length : Int) - 1)) then (if (wrap64 ((y366.length : Int) - 1)) ≤ (y366.length : Int) then (some (x362000, (y366.take ((wrap64 ((y366.length : Int) - 1)) : Int).toNat))) else (none)) else (none)) else (waybilllaw10_Tame.l0 k (wrap64 (x4 + 1)) x360000 x360001 x362000 y366)))) else (none))
end
def waybilllaw10_Tame.f (k : Nat) (a0_0 : Bool) (l0_1 : List (S41)) : Option (Bool × (List (S41))) := waybilllaw10_Tame.l0 k 0 a0_0 l0_1 a0_0 ([] : List (S41))
theorem waybilllaw10_Tame.mono_l : ∀ k, (∀ y0 y1 y2 y3 y4, LeO (waybilllaw10_Tame.l0 k y0 y1 y2 y3 y4) (waybilllaw10_Tame.l0 (k + 1) y0 y1 y2 y3 y4)) ∧ (∀ y0 y1 y2 y3 y4 y5, LeO (waybilllaw10_Tame.j1 k y0 y1 y2 y3 y4 y5) (waybilllaw10_Tame.j1 (k + 1) y0 y1 y2 y3 y4 y5)) ∧ (∀ y0 y1 y2 y3 y4 y5 y6 y7, LeO (waybilllaw10_Tame.j2 k y0 y1 y2 y3 y4 y5 y6 y7) (waybilllaw10_Tame.j2 (k + 1) y0 y1 y2 y3 y4 y5 y6 y7)) ∧ (∀ y0 y1 y2 y3 y4 y5 y6 y7 y8 y9, LeO (waybilllaw10_Tame.j3 k y0 y1 y2 y3 y4 y5 y6 y7 y8 y9) (waybilllaw10_Tame.j3 (k + 1) y0 y1 y2 y3 y4 y5 y6 y7 y8 y9)) ∧ (∀ y0 y1 y2 y3 y4 y5 y6 y7, LeO (waybilllaw10_Tame.j4 k y0 y1 y2 y3 y4 y5 y6 y7) (waybilllaw10_Tame.j4 (k + 1) y0 y1 y2 y3 y4 y5 y6 y7))
  | 0 => ⟨fun _ _ _ _ _ r h => by simp [waybilllaw10_Tame.l0] at h, fun _ _ _ _ _ _ r h => by simp [waybilllaw10_Tame.j1] at h, fun _ _ _ _ _ _ _ _ r h => by simp [waybilllaw10_Tame.j2] at h, fun _ _ _ _ _ _ _ _ _ _ r h => by simp [waybilllaw10_Tame.j3] at h, fun _ _ _ _ _ _ _ _ r h => by simp [waybilllaw10_Tame.j4] at h⟩
  | k + 1 => by
    obtain ⟨ih0, ih1, ih2, ih3, ih4⟩ := waybilllaw10_Tame.mono_l k
    refine ⟨?_, ?_, ?_, ?_, ?_⟩
    · intro y0 y1 y2 y3 y4
      unfold waybilllaw10_Tame.l0
      repeat' first
      | (with_reducible exact ih0 _ _ _ _ _)
      | (with_reducible exact ih1 _ _ _ _ _ _)
      | (with_reducible exact ih2 _ _ _ _ _ _ _ _)
      | (with_reducible exact ih3 _ _ _ _ _ _ _ _ _ _)
      | (with_reducible exact ih4 _ _ _ _ _ _ _ _)
      | (with_reducible exact waybillref7_NodeSize.mono _ _ _)
      | (with_reducible exact LeO.refl _)
      | (with_reducible exact LeO.none _)
      | (with_reducible refine LeO.ite ?_ ?_)
      | (with_reducible refine LeO.bind ?_ (fun _ => ?_))
      | exact ih0 _ _ _ _ _
      | exact ih1 _ _ _ _ _ _
      | exact ih2 _ _ _ _ _ _ _ _
      | exact ih3 _ _ _ _ _ _ _ _ _ _
      | exact ih4 _ _ _ _ _ _ _ _
      | exact waybillref7_NodeSize.mono _ _ _
      | exact LeO.none _
      | refine LeO.ite ?_ ?_
      | refine LeO.bind ?_ (fun _ => ?_)
    · intro y0 y1 y2 y3 y4 y5
      unfold waybilllaw10_Tame.j1
      repeat' first
      | (with_reducible exact ih0 _ _ _ _ _)
      | (with_reducible exact ih1 _ _ _ _ _ _)
      | (with_reducible exact ih2 _ _ _ _ _ _ _ _)
      | (with_reducible exact ih3 _ _ _ _ _ _ _ _ _ _)
      | (with_reducible exact ih4 _ _ _ _ _ _ _ _)
      | (with_reducible exact waybillref7_NodeSize.mono _ _ _)
      | (with_reducible exact LeO.refl _)
      | (with_reducible exact LeO.none _)
      | (with_reducible refine LeO.ite ?_ ?_)
      | (with_reducible refine LeO.bind ?_ (fun _ => ?_))
      | exact ih0 _ _ _ _ _
      | exact ih1 _ _ _ _ _ _
      | exact ih2 _ _ _ _ _ _ _ _
      | exact ih3 _ _ _ _ _ _ _ _ _ _
      | exact ih4 _ _ _ _ _ _ _ _
      | exact waybillref7_NodeSize.mono _ _ _
      | exact LeO.none _
      | refine LeO.ite ?_ ?_
      | refine LeO.bind ?_ (fun _ => ?_)
    · intro y0 y1 y2 y3 y4 y5 y6 y7
      unfold waybilllaw10_Tame.j2
      repeat' first
      | (with_reducible exact ih0 _ _ _ _ _)
      | (with_reducible exact ih1 _ _ _ _ _ _)
      | (with_reducible exact ih2 _ _ _ _ _ _ _ _)
      | (with_reducible exact ih3 _ _ _ _ _ _ _ _ _ _)
      | (with_reducible exact ih4 _ _ _ _ _ _ _ _)
      | (with_reducible exact waybillref7_NodeSize.mono _ _ _)
      | (with_reducible exact LeO.refl _)
      | (with_reducible exact LeO.none _)
      | (with_reducible refine LeO.ite ?_ ?_)
      | (with_reducible refine LeO.bind ?_ (fun _ => ?_))
      | exact ih0 _ _ _ _ _
      | exact ih1 _ _ _ _ _ _
      | exact ih2 _ _ _ _ _ _ _ _
      | exact ih3 _ _ _ _ _ _ _ _ _ _
      | exact ih4 _ _ _ _ _ _ _ _
      | exact waybillref7_NodeSize.mono _ _ _
      | exact LeO.none _
      | refine LeO.ite ?_ ?_
      | refine LeO.bind ?_ (fun _ => ?_)
    · intro y0 y1 y2 y3 y4 y5 y6 y7 y8 y9
      unfold waybilllaw10_Tame.j3
      repeat' first
      | (with_reducible exact ih0 _ _ _ _ _)
      | (with_reducible exact ih1 _ _ _ _ _ _)
      | (with_reducible exact ih2 _ _ _ _ _ _ _ _)
      | (with_reducible exact ih3 _ _ _ _ _ _ _ _ _ _)
      | (with_reducible exact ih4 _ _ _ _ _ _ _ _)
      | (with_reducible exact waybillref7_NodeSize.mono _ _ _)
      | (with_reducible exact LeO.refl _)
      | (with_reducible exact LeO.none _)
      | (with_reducible refine LeO.ite ?_ ?_)
      | (with_reducible refine LeO.bind ?_ (fun _ => ?_))
      | exact ih0 _ _ _ _ _
      | exact ih1 _ _ _ _ _ _
      | exact ih2 _ _ _ _ _ _ _ _
      | exact ih3 _ _ _ _ _ _ _ _ _ _
      | exact ih4 _ _ _ _ _ _ _ _
      | exact waybillref7_NodeSize.mono _ _ _
      | exact LeO.none _
      | refine LeO.ite ?_ ?_
      | refine LeO.bind ?_ (fun _ => ?_)
    · intro y0 y1 y2 y3 y4 y5 y6 y7
      unfold waybilllaw10_Tame.j4
      repeat' first
      | (with_reducible exact ih0 _ _ _ _ _)
      | (with_reducible exact ih1 _ _ _ _ _ _)
      | (with_reducible exact ih2 _ _ _ _ _ _ _ _)
      | (with_reducible exact ih3 _ _ _ _ _ _ _ _ _ _)
      | (with_reducible exact ih4 _ _ _ _ _ _ _ _)
      | (with_reducible exact waybillref7_NodeSize.mono _ _ _)
      | (with_reducible exact LeO.refl _)
      | (with_reducible exact LeO.none _)
      | (with_reducible refine LeO.ite ?_ ?_)
      | (with_reducible refine LeO.bind ?_ (fun _ => ?_))
      | exact ih0 _ _ _ _ _
      | exact ih1 _ _ _ _ _ _
      | exact ih2 _ _ _ _ _ _ _ _
      | exact ih3 _ _ _ _ _ _ _ _ _ _
      | exact ih4 _ _ _ _ _ _ _ _
      | exact waybillref7_NodeSize.mono _ _ _
      | exact LeO.none _
      | refine LeO.ite ?_ ?_
      | refine LeO.bind ?_ (fun _ => ?_)
theorem waybilllaw10_Tame.mono : ∀ a0 a1 k, LeO (waybilllaw10_Tame.f k a0 a1) (waybilllaw10_Tame.f (k + 1) a0 a1) := by
  intro a0 a1 k
  obtain ⟨ih0, ih1, ih2, ih3, ih4⟩ := waybilllaw10_Tame.mono_l k
  unfold waybilllaw10_Tame.f
  repeat' first
      | (with_reducible exact ih0 _ _ _ _ _)
      | (with_reducible exact ih1 _ _ _ _ _ _)
      | (with_reducible exact ih2 _ _ _ _ _ _ _ _)
      | (with_reducible exact ih3 _ _ _ _ _ _ _ _ _ _)
      | (with_reducible exact ih4 _ _ _ _ _ _ _ _)
      | (with_reducible exact waybillref7_NodeSize.mono _ _ _)
      | (with_reducible exact LeO.refl _)
      | (with_reducible exact LeO.none _)
      | (with_reducible refine LeO.ite ?_ ?_)
      | (with_reducible refine LeO.bind ?_ (fun _ => ?_))
      | exact ih0 _ _ _ _ _
      | exact ih1 _ _ _ _ _ _
      | exact ih2 _ _ _ _ _ _ _ _
      | exact ih3 _ _ _ _ _ _ _ _ _ _
      | exact ih4 _ _ _ _ _ _ _ _
      | exact waybillref7_NodeSize.mono _ _ _
      | exact LeO.none _
      | refine LeO.ite ?_ ?_
      | refine LeO.bind ?_ (fun _ => ?_)
set_option maxHeartbeats 8000000 in
set_option maxRecDepth 100000 in
theorem waybilllaw10_Tame.calls (k : Nat) (a0_0 : Bool) (A0_1 : Option Addr) (c0_1 : Nat) (l0_1 : List (S41)) (r1 : Bool) (r2 : List (S41)) (w : World) (hr0_1 : Kd.C k41 w A0_1 l0_1.length l0_1) (hc0_1 : l0_1.length ≤ c0_1) (h : waybilllaw10_Tame.f k a0_0 l0_1 = some (r1, r2)) :
    Calls Try.prog 30 #[.agg #[.bool a0_0, .slice A0_1 l0_1.length c0_1]] w fun e w' => ∃ v1_ : Value, e = .returned (.agg #[.bool r1, v1_]) ∧ Kd.R k41 41 w' w.heap.size (fun _ => True) v1_ r2 ∧ Below w.heap.size w w' := by
  have hu44 := Try.underlying44
  have hu41 := Try.underlying41
  have HR0_1 := Aside0.mk hr0_1
  have HC0_1 := Aside0.mk hc0_1
  clear hr0_1 hc0_1
  have HB := Aside0.mk (Below.refl w.heap.size w)
  have H : (waybilllaw10_Tame.l0 k 0 a0_0 l0_1 a0_0 ([] : List (S41))) = some (r1, r2) := h
  clear h
  have H' := Aside0.mk H
  clear H
  go_enter Try.func30, Try.ntmps30
  go_wp2_with (first | ((with_reducible refine gate_dst (N := 1) rfl ?_); refine box_event ?hg (N := 1) ?hd (cs := #[.bool a0_0, .slice A0_1 l0_1.length c0_1]) (t := 44) ?hr ?_; (case hd => rfl); (case hg => rfl); (case hr => first | (go_simp; done) | (go_simp; rfl)); intro gb359 hg w2 hbox hb; have n0_ := Aside0.mk (below_step (by repeat (first | (with_reducible first | exact HB.out | apply below_alloc | apply pw_below_drewN | apply below_drew1) | exact HB.out)) hb); have n1_ := Aside0.mk (hbox); have n2_ := Aside0.mk ((by rw [hg]; exact (below_size (by repeat (first | (with_reducible first | exact HB.out | apply below_alloc | apply pw_below_drewN | apply below_drew1) | exact HB.out))) : w.heap.size ≤ gb359)); have n3_ := Aside0.mk ((by rw [hg]; exact (below_size (by repeat (first | (with_reducible first | exact HB.out | apply below_alloc | apply pw_below_drewN | apply below_drew1) | exact HB.out))) : w.heap.size ≤ gb359)); clear HB; have HB := n0_; have BK359 := n1_; have GW359 := n2_; have GE359 := n3_; clear n0_ n1_ n2_ n3_; clear hb hbox hg) | ((with_reducible refine gate_dst (N := 2) rfl ?_); refine box_event ?hg (N := 2) ?hd (cs := #[.bool false, .slice none 0 0]) (t := 44) ?hr ?_; (case hd => rfl); (case hg => rfl); (case hr => first | (go_simp; done) | (go_simp; rfl)); intro gb360 hg w3 hbox hb; have n0_ := Aside0.mk (blk_below (g := gb359) (o := .cells #[.bool a0_0, .slice A0_1 l0_1.length c0_1] 44 (0, 0)) (by exact BK359.out) hb); have n1_ := Aside0.mk (below_step (by repeat (first | (with_reducible first | exact HB.out | apply below_alloc | apply pw_below_drewN | apply below_drew1 | refine below_set ?_ GE359.out) | exact HB.out)) hb); have n2_ := Aside0.mk (hbox); have n3_ := Aside0.mk ((by rw [hg]; exact (below_size (by repeat (first | (with_reducible first | exact HB.out | apply below_alloc | apply pw_below_drewN | apply below_drew1 | refine below_set ?_ GE359.out) | exact HB.out))) : w.heap.size ≤ gb360)); have n4_ := Aside0.mk ((by rw [hg]; exact (below_size (by repeat (first | (with_reducible first | exact HB.out | apply below_alloc | apply pw_below_drewN | apply below_drew1 | refine below_set ?_ GE359.out) | exact HB.out))) : w.heap.size ≤ gb360)); have n5_ := Aside0.mk ((by rw [hg]; exact Nat.ne_of_lt (blk_lt (g := gb359) (o := .cells #[.bool a0_0, .slice A0_1 l0_1.length c0_1] 44 (0, 0)) (by exact BK359.out)) : gb359 ≠ gb360)); have n6_ := Aside0.mk ((by rw [hg]; exact Nat.ne_of_gt (blk_lt (g := gb359) (o := .cells #[.bool a0_0, .slice A0_1 l0_1.length c0_1] 44 (0, 0)) (by exact BK359.out)) : gb360 ≠ gb359)); clear BK359; clear HB; have BK359 := n0_; have HB := n1_; have BK360 := n2_; have GW360 := n3_; have GE360 := n4_; have NB359_360 := n5_; have NB360_359 := n6_; clear n0_ n1_ n2_ n3_ n4_ n5_ n6_; clear hb hbox hg; have hnb4 := NB359_360.out; have hnc4 := NB360_359.out; have hcz5_0 : w3.cell? ⟨gb359, 0, none⟩ = some (.bool a0_0) := (blk_cell BK359.out 0).trans rfl; have hcz5_1 : w3.cell? ⟨gb359, 1, none⟩ = some (.slice A0_1 l0_1.length c0_1) := (blk_cell BK359.out 1).trans rfl; have hfz5_0 := blk_frozen BK359.out 0; have hfz5_1 := blk_frozen BK359.out 1) | ((with_reducible refine gate_dst (N := 3) rfl ?_); refine box_event ?hg (N := 3) ?hd (cs := #[.bool false, .slice none 0 0]) (t := 44) ?hr ?_; (case hd => rfl); (case hg => rfl); (case hr => first | (go_simp; done) | (go_simp; rfl)); intro gb361 hg w6 hbox hb; have n0_ := Aside0.mk (blk_below (g := gb359) (o := .cells #[.bool a0_0, .slice A0_1 l0_1.length c0_1] 44 (0, 0)) (by exact BK359.out) hb); have n1_ := Aside0.mk (blk_below (g := gb360) (o := .cells #[.bool false, .slice none 0 0] 44 (0, 0)) (by exact BK360.out) hb); have n2_ := Aside0.mk (below_step (by repeat (first | (with_reducible first | exact HB.out | apply below_alloc | apply pw_below_drewN | apply below_drew1 | refine below_set ?_ GE359.out | refine below_set ?_ GE360.out) | exact HB.out)) hb); have n3_ := Aside0.mk (hbox); have n4_ := Aside0.mk ((by rw [hg]; exact (below_size (by repeat (first | (with_reducible first | exact HB.out | apply below_alloc | apply pw_below_drewN | apply below_drew1 | refine below_set ?_ GE359.out | refine below_set ?_ GE360.out) | exact HB.out))) : w.heap.size ≤ gb361)); have n5_ := Aside0.mk ((by rw [hg]; exact (below_size (by repeat (first | (with_reducible first | exact HB.out | apply below_alloc | apply pw_below_drewN | apply below_drew1 | refine below_set ?_ GE359.out | refine below_set ?_ GE360.out) | exact HB.out))) : w.heap.size ≤ gb361)); have n6_ := Aside0.mk ((by rw [hg]; exact Nat.ne_of_lt (blk_lt (g := gb359) (o := .cells #[.bool a0_0, .slice A0_1 l0_1.length c0_1] 44 (0, 0)) (by exact BK359.out)) : gb359 ≠ gb361)); have n7_ := Aside0.mk ((by rw [hg]; exact Nat.ne_of_gt (blk_lt (g := gb359) (o := .cells #[.bool a0_0, .slice A0_1 l0_1.length c0_1] 44 (0, 0)) (by exact BK359.out)) : gb361 ≠ gb359)); have n8_ := Aside0.mk ((by rw [hg]; exact Nat.ne_of_lt (blk_lt (g := gb360) (o := .cells #[.bool false, .slice none 0 0] 44 (0, 0)) (by exact BK360.out)) : gb360 ≠ gb361)); have n9_ := Aside0.mk ((by rw [hg]; exact Nat.ne_of_gt (blk_lt (g := gb360) (o := .cells #[.bool false, .slice none 0 0] 44 (0, 0)) (by exact BK360.out)) : gb361 ≠ gb360)); clear BK359; clear BK360; clear HB; have BK359 := n0_; have BK360 := n1_; have HB := n2_; have BK361 := n3_; have GW361 := n4_; have GE361 := n5_; have NB359_361 := n6_; have NB361_359 := n7_; have NB360_361 := n8_; have NB361_360 := n9_; clear n0_ n1_ n2_ n3_ n4_ n5_ n6_ n7_ n8_ n9_; clear hb hbox hg; have hnb7 := NB361_359.out; have hnc7 := NB359_361.out; have hnb8 := NB361_360.out; have hnc8 := NB360_361.out; have hcz9_0 : w6.cell? ⟨gb361, 0, none⟩ = some (.bool false) := (blk_cell BK361.out 0).trans rfl; have hcz9_1 : w6.cell? ⟨gb361, 1, none⟩ = some (.slice none 0 0) := (blk_cell BK361.out 1).trans rfl; have hfz9_0 := blk_frozen BK361.out 0; have hfz9_1 := blk_frozen BK361.out 1))
  repeat (go_quiet (first | ((with_reducible refine gate_dst (N := 1) rfl ?_); refine box_event ?hg (N := 1) ?hd (cs := #[.bool a0_0, .slice A0_1 l0_1.length c0_1]) (t := 44) ?hr ?_; (case hd => rfl); (case hg => rfl); (case hr => first | (go_simp; done) | (go_simp; rfl)); intro gb359 hg w2 hbox hb; have n0_ := Aside0.mk (below_step (by repeat (first | (with_reducible first | exact HB.out | apply below_alloc | apply pw_below_drewN | apply below_drew1) | exact HB.out)) hb); have n1_ := Aside0.mk (hbox); have n2_ := Aside0.mk ((by rw [hg]; exact (below_size (by repeat (first | (with_reducible first | exact HB.out | apply below_alloc | apply pw_below_drewN | apply below_drew1) | exact HB.out))) : w.heap.size ≤ gb359)); have n3_ := Aside0.mk ((by rw [hg]; exact (below_size (by repeat (first | (with_reducible first | exact HB.out | apply below_alloc | apply pw_below_drewN | apply below_drew1) | exact HB.out))) : w.heap.size ≤ gb359)); clear HB; have HB := n0_; have BK359 := n1_; have GW359 := n2_; have GE359 := n3_; clear n0_ n1_ n2_ n3_; clear hb hbox hg) | ((with_reducible refine gate_dst (N := 2) rfl ?_); refine box_event ?hg (N := 2) ?hd (cs := #[.bool false, .slice none 0 0]) (t := 44) ?hr ?_; (case hd => rfl); (case hg => rfl); (case hr => first | (go_simp; done) | (go_simp; rfl)); intro gb360 hg w3 hbox hb; have n0_ := Aside0.mk (blk_below (g := gb359) (o := .cells #[.bool a0_0, .slice A0_1 l0_1.length c0_1] 44 (0, 0)) (by exact BK359.out) hb); have n1_ := Aside0.mk (below_step (by repeat (first | (with_reducible first | exact HB.out | apply below_alloc | apply pw_below_drewN | apply below_drew1 | refine below_set ?_ GE359.out) | exact HB.out)) hb); have n2_ := Aside0.mk (hbox); have n3_ := Aside0.mk ((by rw [hg]; exact (below_size (by repeat (first | (with_reducible first | exact HB.out | apply below_alloc | apply pw_below_drewN | apply below_drew1 | refine below_set ?_ GE359.out) | exact HB.out))) : w.heap.size ≤ gb360)); have n4_ := Aside0.mk ((by rw [hg]; exact (below_size (by repeat (first | (with_reducible first | exact HB.out | apply below_alloc | apply pw_below_drewN | apply below_drew1 | refine below_set ?_ GE359.out) | exact HB.out))) : w.heap.size ≤ gb360)); have n5_ := Aside0.mk ((by rw [hg]; exact Nat.ne_of_lt (blk_lt (g := gb359) (o := .cells #[.bool a0_0, .slice A0_1 l0_1.length c0_1] 44 (0, 0)) (by exact BK359.out)) : gb359 ≠ gb360)); have n6_ := Aside0.mk ((by rw [hg]; exact Nat.ne_of_gt (blk_lt (g := gb359) (o := .cells #[.bool a0_0, .slice A0_1 l0_1.length c0_1] 44 (0, 0)) (by exact BK359.out)) : gb360 ≠ gb359)); clear BK359; clear HB; have BK359 := n0_; have HB := n1_; have BK360 := n2_; have GW360 := n3_; have GE360 := n4_; have NB359_360 := n5_; have NB360_359 := n6_; clear n0_ n1_ n2_ n3_ n4_ n5_ n6_; clear hb hbox hg; have hnb4 := NB359_360.out; have hnc4 := NB360_359.out; have hcz5_0 : w3.cell? ⟨gb359, 0, none⟩ = some (.bool a0_0) := (blk_cell BK359.out 0).trans rfl; have hcz5_1 : w3.cell? ⟨gb359, 1, none⟩ = some (.slice A0_1 l0_1.length c0_1) := (blk_cell BK359.out 1).trans rfl; have hfz5_0 := blk_frozen BK359.out 0; have hfz5_1 := blk_frozen BK359.out 1) | ((with_reducible refine gate_dst (N := 3) rfl ?_); refine box_event ?hg (N := 3) ?hd (cs := #[.bool false, .slice none 0 0]) (t := 44) ?hr ?_; (case hd => rfl); (case hg => rfl); (case hr => first | (go_simp; done) | (go_simp; rfl)); intro gb361 hg w6 hbox hb; have n0_ := Aside0.mk (blk_below (g := gb359) (o := .cells #[.bool a0_0, .slice A0_1 l0_1.length c0_1] 44 (0, 0)) (by exact BK359.out) hb); have n1_ := Aside0.mk (blk_below (g := gb360) (o := .cells #[.bool false, .slice none 0 0] 44 (0, 0)) (by exact BK360.out) hb); have n2_ := Aside0.mk (below_step (by repeat (first | (with_reducible first | exact HB.out | apply below_alloc | apply pw_below_drewN | apply below_drew1 | refine below_set ?_ GE359.out | refine below_set ?_ GE360.out) | exact HB.out)) hb); have n3_ := Aside0.mk (hbox); have n4_ := Aside0.mk ((by rw [hg]; exact (below_size (by repeat (first | (with_reducible first | exact HB.out | apply below_alloc | apply pw_below_drewN | apply below_drew1 | refine below_set ?_ GE359.out | refine below_set ?_ GE360.out) | exact HB.out))) : w.heap.size ≤ gb361)); have n5_ := Aside0.mk ((by rw [hg]; exact (below_size (by repeat (first | (with_reducible first | exact HB.out | apply below_alloc | apply pw_below_drewN | apply below_drew1 | refine below_set ?_ GE359.out | refine below_set ?_ GE360.out) | exact HB.out))) : w.heap.size ≤ gb361)); have n6_ := Aside0.mk ((by rw [hg]; exact Nat.ne_of_lt (blk_lt (g := gb359) (o := .cells #[.bool a0_0, .slice A0_1 l0_1.length c0_1] 44 (0, 0)) (by exact BK359.out)) : gb359 ≠ gb361)); have n7_ := Aside0.mk ((by rw [hg]; exact Nat.ne_of_gt (blk_lt (g := gb359) (o := .cells #[.bool a0_0, .slice A0_1 l0_1.length c0_1] 44 (0, 0)) (by exact BK359.out)) : gb361 ≠ gb359)); have n8_ := Aside0.mk ((by rw [hg]; exact Nat.ne_of_lt (blk_lt (g := gb360) (o := .cells #[.bool false, .slice none 0 0] 44 (0, 0)) (by exact BK360.out)) : gb360 ≠ gb361)); have n9_ := Aside0.mk ((by rw [hg]; exact Nat.ne_of_gt (blk_lt (g := gb360) (o := .cells #[.bool false, .slice none 0 0] 44 (0, 0)) (by exact BK360.out)) : gb361 ≠ gb360)); clear BK359; clear BK360; clear HB; have BK359 := n0_; have BK360 := n1_; have HB := n2_; have BK361 := n3_; have GW361 := n4_; have GE361 := n5_; have NB359_361 := n6_; have NB361_359 := n7_; have NB360_361 := n8_; have NB361_360 := n9_; clear n0_ n1_ n2_ n3_ n4_ n5_ n6_ n7_ n8_ n9_; clear hb hbox hg; have hnb7 := NB361_359.out; have hnc7 := NB359_361.out; have hnb8 := NB361_360.out; have hnc8 := NB360_361.out; have hcz9_0 : w6.cell? ⟨gb361, 0, none⟩ = some (.bool false) := (blk_cell BK361.out 0).trans rfl; have hcz9_1 : w6.cell? ⟨gb361, 1, none⟩ = some (.slice none 0 0) := (blk_cell BK361.out 1).trans rfl; have hfz9_0 := blk_frozen BK361.out 0; have hfz9_1 := blk_frozen BK361.out 1)); try go_wp2_with (first | ((with_reducible refine gate_dst (N := 1) rfl ?_); refine box_event ?hg (N := 1) ?hd (cs := #[.bool a0_0, .slice A0_1 l0_1.length c0_1]) (t := 44) ?hr ?_; (case hd => rfl); (case hg => rfl); (case hr => first | (go_simp; done) | (go_simp; rfl)); intro gb359 hg w2 hbox hb; have n0_ := Aside0.mk (below_step (by repeat (first | (with_reducible first | exact HB.out | apply below_alloc | apply pw_below_drewN | apply below_drew1) | exact HB.out)) hb); have n1_ := Aside0.mk (hbox); have n2_ := Aside0.mk ((by rw [hg]; exact (below_size (by repeat (first | (with_reducible first | exact HB.out | apply below_alloc | apply pw_below_drewN | apply below_drew1) | exact HB.out))) : w.heap.size ≤ gb359)); have n3_ := Aside0.mk ((by rw [hg]; exact (below_size (by repeat (first | (with_reducible first | exact HB.out | apply below_alloc | apply pw_below_drewN | apply below_drew1) | exact HB.out))) : w.heap.size ≤ gb359)); clear HB; have HB := n0_; have BK359 := n1_; have GW359 := n2_; have GE359 := n3_; clear n0_ n1_ n2_ n3_; clear hb hbox hg) | ((with_reducible refine gate_dst (N := 2) rfl ?_); refine box_event ?hg (N := 2) ?hd (cs := #[.bool false, .slice none 0 0]) (t := 44) ?hr ?_; (case hd => rfl); (case hg => rfl); (case hr => first | (go_simp; done) | (go_simp; rfl)); intro gb360 hg w3 hbox hb; have n0_ := Aside0.mk (blk_below (g := gb359) (o := .cells #[.bool a0_0, .slice A0_1 l0_1.length c0_1] 44 (0, 0)) (by exact BK359.out) hb); have n1_ := Aside0.mk (below_step (by repeat (first | (with_reducible first | exact HB.out | apply below_alloc | apply pw_below_drewN | apply below_drew1 | refine below_set ?_ GE359.out) | exact HB.out)) hb); have n2_ := Aside0.mk (hbox); have n3_ := Aside0.mk ((by rw [hg]; exact (below_size (by repeat (first | (with_reducible first | exact HB.out | apply below_alloc | apply pw_below_drewN | apply below_drew1 | refine below_set ?_ GE359.out) | exact HB.out))) : w.heap.size ≤ gb360)); have n4_ := Aside0.mk ((by rw [hg]; exact (below_size (by repeat (first | (with_reducible first | exact HB.out | apply below_alloc | apply pw_below_drewN | apply below_drew1 | refine below_set ?_ GE359.out) | exact HB.out))) : w.heap.size ≤ gb360)); have n5_ := Aside0.mk ((by rw [hg]; exact Nat.ne_of_lt (blk_lt (g := gb359) (o := .cells #[.bool a0_0, .slice A0_1 l0_1.length c0_1] 44 (0, 0)) (by exact BK359.out)) : gb359 ≠ gb360)); have n6_ := Aside0.mk ((by rw [hg]; exact Nat.ne_of_gt (blk_lt (g := gb359) (o := .cells #[.bool a0_0, .slice A0_1 l0_1.length c0_1] 44 (0, 0)) (by exact BK359.out)) : gb360 ≠ gb359)); clear BK359; clear HB; have BK359 := n0_; have HB := n1_; have BK360 := n2_; have GW360 := n3_; have GE360 := n4_; have NB359_360 := n5_; have NB360_359 := n6_; clear n0_ n1_ n2_ n3_ n4_ n5_ n6_; clear hb hbox hg; have hnb4 := NB359_360.out; have hnc4 := NB360_359.out; have hcz5_0 : w3.cell? ⟨gb359, 0, none⟩ = some (.bool a0_0) := (blk_cell BK359.out 0).trans rfl; have hcz5_1 : w3.cell? ⟨gb359, 1, none⟩ = some (.slice A0_1 l0_1.length c0_1) := (blk_cell BK359.out 1).trans rfl; have hfz5_0 := blk_frozen BK359.out 0; have hfz5_1 := blk_frozen BK359.out 1) | ((with_reducible refine gate_dst (N := 3) rfl ?_); refine box_event ?hg (N := 3) ?hd (cs := #[.bool false, .slice none 0 0]) (t := 44) ?hr ?_; (case hd => rfl); (case hg => rfl); (case hr => first | (go_simp; done) | (go_simp; rfl)); intro gb361 hg w6 hbox hb; have n0_ := Aside0.mk (blk_below (g := gb359) (o := .cells #[.bool a0_0, .slice A0_1 l0_1.length c0_1] 44 (0, 0)) (by exact BK359.out) hb); have n1_ := Aside0.mk (blk_below (g := gb360) (o := .cells #[.bool false, .slice none 0 0] 44 (0, 0)) (by exact BK360.out) hb); have n2_ := Aside0.mk (below_step (by repeat (first | (with_reducible first | exact HB.out | apply below_alloc | apply pw_below_drewN | apply below_drew1 | refine below_set ?_ GE359.out | refine below_set ?_ GE360.out) | exact HB.out)) hb); have n3_ := Aside0.mk (hbox); have n4_ := Aside0.mk ((by rw [hg]; exact (below_size (by repeat (first | (with_reducible first | exact HB.out | apply below_alloc | apply pw_below_drewN | apply below_drew1 | refine below_set ?_ GE359.out | refine below_set ?_ GE360.out) | exact HB.out))) : w.heap.size ≤ gb361)); have n5_ := Aside0.mk ((by rw [hg]; exact (below_size (by repeat (first | (with_reducible first | exact HB.out | apply below_alloc | apply pw_below_drewN | apply below_drew1 | refine below_set ?_ GE359.out | refine below_set ?_ GE360.out) | exact HB.out))) : w.heap.size ≤ gb361)); have n6_ := Aside0.mk ((by rw [hg]; exact Nat.ne_of_lt (blk_lt (g := gb359) (o := .cells #[.bool a0_0, .slice A0_1 l0_1.length c0_1] 44 (0, 0)) (by exact BK359.out)) : gb359 ≠ gb361)); have n7_ := Aside0.mk ((by rw [hg]; exact Nat.ne_of_gt (blk_lt (g := gb359) (o := .cells #[.bool a0_0, .slice A0_1 l0_1.length c0_1] 44 (0, 0)) (by exact BK359.out)) : gb361 ≠ gb359)); have n8_ := Aside0.mk ((by rw [hg]; exact Nat.ne_of_lt (blk_lt (g := gb360) (o := .cells #[.bool false, .slice none 0 0] 44 (0, 0)) (by exact BK360.out)) : gb360 ≠ gb361)); have n9_ := Aside0.mk ((by rw [hg]; exact Nat.ne_of_gt (blk_lt (g := gb360) (o := .cells #[.bool false, .slice none 0 0] 44 (0, 0)) (by exact BK360.out)) : gb361 ≠ gb360)); clear BK359; clear BK360; clear HB; have BK359 := n0_; have BK360 := n1_; have HB := n2_; have BK361 := n3_; have GW361 := n4_; have GE361 := n5_; have NB359_361 := n6_; have NB361_359 := n7_; have NB360_361 := n8_; have NB361_360 := n9_; clear n0_ n1_ n2_ n3_ n4_ n5_ n6_ n7_ n8_ n9_; clear hb hbox hg; have hnb7 := NB361_359.out; have hnc7 := NB359_361.out; have hnb8 := NB361_360.out; have hnc8 := NB360_361.out; have hcz9_0 : w6.cell? ⟨gb361, 0, none⟩ = some (.bool false) := (blk_cell BK361.out 0).trans rfl; have hcz9_1 : w6.cell? ⟨gb361, 1, none⟩ = some (.slice none 0 0) := (blk_cell BK361.out 1).trans rfl; have hfz9_0 := blk_frozen BK361.out 0; have hfz9_1 := blk_frozen BK361.out 1)))
  go_loopg [4] k (fun kq v4 w' => ∃ (x4_1 : Int) (x362001_1 : List (S41)) (u362001 : Value), v4 = .int .i64 x4_1 ∧ Aside0 (waybilllaw10_Tame.l0 kq x4_1 a0_0 l0_1 a0_0 x362001_1 = some (r1, r2)) ∧ Aside0 (kq ≤ k) ∧ Aside0 (Kd.R k41 41 w' w.heap.size (fun _ => True) u362001 x362001_1) ∧ Aside0 (w'.heap[gb359]? = some (.cells #[.bool a0_0, (.slice A0_1 l0_1.length c0_1)] 44 (0, 0))) ∧ Aside0 (w'.heap[gb360]? = some (.cells #[.bool false, (.slice none 0 0)] 44 (0, 0))) ∧ Aside0 (w'.heap[gb361]? = some (.cells #[.bool a0_0, u362001] 44 (0, 0))) ∧ Aside0 (Below w.heap.size w w'))
  case atStart => exact ⟨(0), (([] : List (S41))), (.slice none 0 0), (by first | rfl | (simp; done) | (simp [*]; done)), H', ⟨Nat.le_refl _⟩, ⟨by first | exact Kd.R_nil _ _ _ _ _ | exact Kd.N_nil _ _ _ _ _ | exact Kd.V_nil _ _ _ _ _ | exact Kd.Q_nil _ _ _ _ _ | exact Kd.S_nil _ _ _ _ _⟩, ⟨by refine blk_far ?_ NB359_361.out _; refine blk_far ?_ NB359_361.out _; exact BK359.out⟩, ⟨by refine blk_far ?_ NB360_361.out _; refine blk_far ?_ NB360_361.out _; exact BK360.out⟩, ⟨by refine blk_put (cs := #[.bool a0_0, .slice none 0 0]) ?_ 1 _ rfl; refine blk_put (cs := #[.bool false, .slice none 0 0]) ?_ 0 _ rfl; exact BK361.out⟩, ⟨by repeat (first | (with_reducible first | exact HB.out | apply below_alloc | apply pw_below_drewN | apply below_drew1 | refine below_set ?_ GE359.out | refine below_set ?_ GE360.out | refine below_set ?_ GE361.out) | exact HB.out)⟩⟩
  case round =>
    clear H'
    try clear p2
    try clear c3
    try clear c4
    try clear c7
    try clear c8
    try clear hcz5_0
    try clear hcz5_1
    try clear hcz9_0
    try clear hcz9_1
    try clear hfz5_0
    try clear hfz5_1
    try clear hfz9_0
    try clear hfz9_1
    obtain ⟨x4_1, x362001_1, u362001, rfl, HA, HK1, HO_362001, BK359, BK360, BK361, HB⟩ := hrel
    cases gk with
    | zero => exact absurd HA.out (by simp [waybilllaw10_Tame.l0])
    | succ k1 =>
      have H := HA.out
      clear HA
      simp only [waybilllaw10_Tame.l0] at H
      have HC10 := Aside0.mk H
      clear H
      go_upto_region 3 with (fail)
      repeat (go_quiet (fail); go_upto_region 3 with (fail))
      go_cut [18] (fun v18 wc => ∃ (kq : Nat) (x18_9 : Bool), v18 = .bool x18_9 ∧ Aside0 (waybilllaw10_Tame.j1 kq x4_1 x18_9 a0_0 l0_1 a0_0 x362001_1 = some (r1, r2)) ∧ Aside0 (kq ≤ k1) ∧ Aside0 (Kd.R k41 41 wc w.heap.size (fun _ => True) u362001 x362001_1) ∧ Aside0 (wc.heap[gb359]? = some (.cells #[.bool a0_0, (.slice A0_1 l0_1.length c0_1)] 44 (0, 0))) ∧ Aside0 (wc.heap[gb360]? = some (.cells #[.bool false, (.slice none 0 0)] 44 (0, 0))) ∧ Aside0 (wc.heap[gb361]? = some (.cells #[.bool a0_0, u362001] 44 (0, 0))) ∧ Aside0 (Below w.heap.size w wc))
      case first =>
        have H := HC10.out
        clear HC10
        by_cases c11 : x4_1 < (l0_1.length : Int)
        · rw [if_pos c11] at H
          have c11b0 : decide (x4_1 < (l0_1.length : Int)) = true := decide_eq_true c11
          clear c11
          (first | rw [c11b0] | rw [c11b2] | rw [c11b1] | (simp only [i64_w, i32_w]; rw [c11b0]) | skip)
          have H' := Aside0.mk H
          clear H
          have hnb12 := NB359_360.out
          have hnc12 := NB360_359.out
          have hnb13 := NB359_361.out
          have hnc13 := NB361_359.out
          have hcz14_0 : wr.cell? ⟨gb359, 0, none⟩ = some (.bool a0_0) := (blk_cell BK359.out 0).trans rfl
          have hcz14_1 : wr.cell? ⟨gb359, 1, none⟩ = some (.slice A0_1 l0_1.length c0_1) := (blk_cell BK359.out 1).trans rfl
          have hfz14_0 := blk_frozen BK359.out 0
          have hfz14_1 := blk_frozen BK359.out 1
          go_wp2
          repeat (go_quiet (fail); try go_wp2)
          go_meet
          case rel => exact ⟨_, (decide (x4_1 < 40)), (by first | rfl | (simp; done) | (simp [*]; done)), H', ⟨by have := HK1.out; first | omega | exact Nat.le_refl _⟩, ⟨by exact HO_362001.out⟩, ⟨by exact BK359.out⟩, ⟨by exact BK360.out⟩, ⟨by exact BK361.out⟩, ⟨by repeat (first | (with_reducible first | exact HB.out | apply below_alloc | apply pw_below_drewN | apply below_drew1 | refine below_set ?_ GE359.out | refine below_set ?_ GE360.out | refine below_set ?_ GE361.out) | exact HB.out)⟩⟩
        · rw [if_neg c11] at H
          have c11b0 : decide (x4_1 < (l0_1.length : Int)) = false := decide_eq_false c11
          clear c11
          (first | rw [c11b0] | rw [c11b2] | rw [c11b1] | (simp only [i64_w, i32_w]; rw [c11b0]) | skip)
          have H' := Aside0.mk H
          clear H
          have hnb15 := NB359_360.out
          have hnc15 := NB360_359.out
          have hnb16 := NB359_361.out
          have hnc16 := NB361_359.out
          have hcz17_0 : wr.cell? ⟨gb359, 0, none⟩ = some (.bool a0_0) := (blk_cell BK359.out 0).trans rfl
          have hcz17_1 : wr.cell? ⟨gb359, 1, none⟩ = some (.slice A0_1 l0_1.length c0_1) := (blk_cell BK359.out 1).trans rfl
          have hfz17_0 := blk_frozen BK359.out 0
          have hfz17_1 := blk_frozen BK359.out 1
          go_wp2
          repeat (go_quiet (fail); try go_wp2)
          go_meet
          case rel => exact ⟨_, (false), (by first | rfl | (simp; done) | (simp [*]; done)), H', ⟨by have := HK1.out; first | omega | exact Nat.le_refl _⟩, ⟨by exact HO_362001.out⟩, ⟨by exact BK359.out⟩, ⟨by exact BK360.out⟩, ⟨by exact BK361.out⟩, ⟨by repeat (first | (with_reducible first | exact HB.out | apply below_alloc | apply pw_below_drewN | apply below_drew1 | refine below_set ?_ GE359.out | refine below_set ?_ GE360.out | refine below_set ?_ GE361.out) | exact HB.out)⟩⟩
      case rest =>
        clear HC10
        try clear c1
        try clear p2
        try clear c3
        try clear c4
        try clear c7
        try clear c8
        try clear c11
        try clear c11b0
        try clear c12
        try clear c13
        try clear c15
        try clear c16
        try clear hcz14_0
        try clear hcz14_1
        try clear hcz17_0
        try clear hcz17_1
        try clear hcz5_0
        try clear hcz5_1
        try clear hcz9_0
        try clear hcz9_1
        try clear hfz14_0
        try clear hfz14_1
        try clear hfz17_0
        try clear hfz17_1
        try clear hfz5_0
        try clear hfz5_1
        try clear hfz9_0
        try clear hfz9_1
        try clear p2
        obtain ⟨kq, x18_9, rfl, HA, HJ9, HO_362001, BK359, BK360, BK361, HB⟩ := hcut
        cases kq with
        | zero => exact absurd HA.out (by simp [waybilllaw10_Tame.j1])
        | succ kj9 =>
          have H := HA.out
          clear HA
          simp only [waybilllaw10_Tame.j1] at H
          by_cases c18 : x18_9 = true
          · subst c18
            have H1 : (if 0 ≤ x4_1 then (if x4_1 < (l0_1.length : Int) then (if 0 ≤ (mn (((rd_T41 l0_1 x4_1).f0).size : Int) 100) then (if (mn (((rd_T41 l0_1 x4_1).f0).size : Int) 100) ≤ (((rd_T41 l0_1 x4_1).f0).size : Int) then (if 1 + (((rd_T41 l0_1 x4_1).f0).extract 0 ((mn (((rd_T41 l0_1 x4_1).f0).size : Int) 100) : Int).toNat).size ≤ 9223372036854775807 then (if 0 ≤ (mn (((rd_T41 l0_1 x4_1).f1).size : Int) 20) then (if (mn (((rd_T41 l0_1 x4_1).f1).size : Int) 20) ≤ (((rd_T41 l0_1 x4_1).f1).size : Int) then (if a0_0 = true then (waybilllaw10_Tame.j2 kj9 x4_1 a0_0 l0_1 a0_0 x362001_1 ((⟨#[107]⟩ : ByteArray) ++ (((rd_T41 l0_1 x4_1).f0).extract 0 ((mn (((rd_T41 l0_1 x4_1).f0).size : Int) 100) : Int).toNat)) (((rd_T41 l0_1 x4_1).f1).extract 0 ((mn (((rd_T41 l0_1 x4_1).f1).size : Int) 20) : Int).toNat) 0) else (waybilllaw10_Tame.j2 kj9 x4_1 a0_0 l0_1 a0_0 x362001_1 ((⟨#[107]⟩ : ByteArray) ++ (((rd_T41 l0_1 x4_1).f0).extract 0 ((mn (((rd_T41 l0_1 x4_1).f0).size : Int) 100) : Int).toNat)) (⟨#[]⟩ : ByteArray) (wrap64 (2 + (Go.bits .and .i64 ((rd_T41 l0_1 x4_1).f2) 65535))))) else (none)) else (none)) else (none)) else (none)) else (none)) else (none)) else (none)) = some (r1, r2) := by rw [if_pos rfl] at H; exact H
            clear H
            have H := H1
            clear H1
            by_cases c19 : 0 ≤ x4_1
            · rw [if_pos c19] at H
              have c19b0 : decide (0 ≤ x4_1) = true := decide_eq_true c19
              clear c19
              by_cases c20 : x4_1 < (l0_1.length : Int)
              · rw [if_pos c20] at H
                have c20b0 : decide (x4_1 < (l0_1.length : Int)) = true := decide_eq_true c20
                clear c20
                obtain ⟨ji21, hji21⟩ : ∃ j_ : Int, (mn (((rd_T41 l0_1 x4_1).f0).size : Int) 100) = j_ := ⟨_, rfl⟩
                replace H : (if 0 ≤ (ji21) then (if (ji21) ≤ (((rd_T41 l0_1 x4_1).f0).size : Int) then (if 1 + (((rd_T41 l0_1 x4_1).f0).extract 0 ((ji21) : Int).toNat).size ≤ 9223372036854775807 then (if 0 ≤ (mn (((rd_T41 l0_1 x4_1).f1).size : Int) 20) then (if (mn (((rd_T41 l0_1 x4_1).f1).size : Int) 20) ≤ (((rd_T41 l0_1 x4_1).f1).size : Int) then (if a0_0 = true then (waybilllaw10_Tame.j2 kj9 x4_1 a0_0 l0_1 a0_0 x362001_1 ((⟨#[107]⟩ : ByteArray) ++ (((rd_T41 l0_1 x4_1).f0).extract 0 ((ji21) : Int).toNat)) (((rd_T41 l0_1 x4_1).f1).extract 0 ((mn (((rd_T41 l0_1 x4_1).f1).size : Int) 20) : Int).toNat) 0) else (waybilllaw10_Tame.j2 kj9 x4_1 a0_0 l0_1 a0_0 x362001_1 ((⟨#[107]⟩ : ByteArray) ++ (((rd_T41 l0_1 x4_1).f0).extract 0 ((ji21) : Int).toNat)) (⟨#[]⟩ : ByteArray) (wrap64 (2 + (Go.bits .and .i64 ((rd_T41 l0_1 x4_1).f2) 65535))))) else (none)) else (none)) else (none)) else (none)) else (none)) = some (r1, r2) := by first | (rw [hji21] at H; exact H) | (simp only [hji21] at H ⊢; exact H)
                have hji21_ : (if 100 < (((rd_T41 l0_1 x4_1).f0).size : Int) then 100 else (((rd_T41 l0_1 x4_1).f0).size : Int)) = ji21 := hji21
                (try (have hji21u : ji21 ≤ 100 := by (rw [← hji21]; unfold mn; (repeat' split) <;> omega)))
                (try (have hji21v : ¬ (9223372036854775807 < 1 + ji21.toNat) := by omega))
                by_cases c22 : 0 ≤ (ji21)
                · rw [if_pos c22] at H
                  have c22b0 := eq_true c22
                  have c22b1 : decide (0 ≤ (ji21)) = true := decide_eq_true c22
                  clear c22
                  by_cases c23 : (ji21) ≤ (((rd_T41 l0_1 x4_1).f0).size : Int)
                  · rw [if_pos c23] at H
                    have c23b0 := eq_true c23
                    have c23b1 : decide ((ji21) ≤ (((rd_T41 l0_1 x4_1).f0).size : Int)) = true := decide_eq_true c23
                    clear c23
                    by_cases c24 : 1 + (((rd_T41 l0_1 x4_1).f0).extract 0 ((ji21) : Int).toNat).size ≤ 9223372036854775807
                    · rw [if_pos c24] at H
                      have c24b0 := eq_true c24
                      have c24b1 : decide (1 + (((rd_T41 l0_1 x4_1).f0).extract 0 ((ji21) : Int).toNat).size ≤ 9223372036854775807) = true := decide_eq_true c24
                      try have c24b2 : (9223372036854775807 < 1 + (((rd_T41 l0_1 x4_1).f0).extract 0 ((ji21) : Int).toNat).size) = False := eq_false (Nat.not_lt.2 c24)
                      obtain ⟨ji25, hji25⟩ : ∃ j_ : Int, (mn (((rd_T41 l0_1 x4_1).f1).size : Int) 20) = j_ := ⟨_, rfl⟩
                      replace H : (if 0 ≤ (ji25) then (if (ji25) ≤ (((rd_T41 l0_1 x4_1).f1).size : Int) then (if a0_0 = true then (waybilllaw10_Tame.j2 kj9 x4_1 a0_0 l0_1 a0_0 x362001_1 ((⟨#[107]⟩ : ByteArray) ++ (((rd_T41 l0_1 x4_1).f0).extract 0 ((ji21) : Int).toNat)) (((rd_T41 l0_1 x4_1).f1).extract 0 ((ji25) : Int).toNat) 0) else (waybilllaw10_Tame.j2 kj9 x4_1 a0_0 l0_1 a0_0 x362001_1 ((⟨#[107]⟩ : ByteArray) ++ (((rd_T41 l0_1 x4_1).f0).extract 0 ((ji21) : Int).toNat)) (⟨#[]⟩ : ByteArray) (wrap64 (2 + (Go.bits .and .i64 ((rd_T41 l0_1 x4_1).f2) 65535))))) else (none)) else (none)) = some (r1, r2) := by first | (rw [hji25] at H; exact H) | (simp only [hji25] at H ⊢; exact H)
                      have hji25_ : (if 20 < (((rd_T41 l0_1 x4_1).f1).size : Int) then 20 else (((rd_T41 l0_1 x4_1).f1).size : Int)) = ji25 := hji25
                      (try (have hji25u : ji25 ≤ 20 := by (rw [← hji25]; unfold mn; (repeat' split) <;> omega)))
                      (try (have hji25v : ¬ (9223372036854775807 < 1 + ji25.toNat) := by omega))
                      by_cases c26 : 0 ≤ (ji25)
                      · rw [if_pos c26] at H
                        have c26b0 := eq_true c26
                        have c26b1 : decide (0 ≤ (ji25)) = true := decide_eq_true c26
                        clear c26
                        by_cases c27 : (ji25) ≤ (((rd_T41 l0_1 x4_1).f1).size : Int)
                        · rw [if_pos c27] at H
                          have c27b0 := eq_true c27
                          have c27b1 : decide ((ji25) ≤ (((rd_T41 l0_1 x4_1).f1).size : Int)) = true := decide_eq_true c27
                          clear c27
                          have HC28 := Aside0.mk H
                          clear H
                          have hnb29 := NB359_360.out
                          have hnc29 := NB360_359.out
                          have hnb30 := NB359_361.out
                          have hnc30 := NB361_359.out
                          have hcz31_0 : wc.cell? ⟨gb359, 0, none⟩ = some (.bool a0_0) := (blk_cell BK359.out 0).trans rfl
                          have hcz31_1 : wc.cell? ⟨gb359, 1, none⟩ = some (.slice A0_1 l0_1.length c0_1) := (blk_cell BK359.out 1).trans rfl
                          have hfz31_0 := blk_frozen BK359.out 0
                          have hfz31_1 := blk_frozen BK359.out 1
                          have p362 : 0 ≤ (x4_1 : Int) := of_decide_eq_true (by first | (with_reducible assumption) | assumption)
                          have q362 : x4_1 < (l0_1.length : Int) := of_decide_eq_true (by first | (with_reducible assumption) | assumption)
                          obtain ⟨ad362, e362, hx362_0, hx362_1, hx362_2⟩ := at_T41 HR0_1.out x4_1 p362 q362
                          cases e362
                          replace hx362_0 := (HB.out.cell (World.block_lt_of_cell? w _ hx362_0)).trans hx362_0
                          replace hx362_1 := (HB.out.cell (World.block_lt_of_cell? w _ hx362_1)).trans hx362_1
                          replace hx362_2 := (HB.out.cell (World.block_lt_of_cell? w _ hx362_2)).trans hx362_2
                          replace p362 := eq_true p362
                          replace q362 := eq_true q362
                          go_upto_if 49 with (first | ((with_reducible refine gate_dst (N := 5) rfl ?_); refine box_event ?hg (N := 5) ?hd (cs := #[.string (⟨#[]⟩ : ByteArray), .string (⟨#[]⟩ : ByteArray), .int .i64 0]) (t := 41) ?hr ?_; (case hd => rfl); (case hg => rfl); (case hr => first | (go_simp; done) | (go_simp; rfl)); intro gb363 hg w32 hbox hb; have n0_ := Aside0.mk (Kd.R_below (Kd.R_elderB (by exact HO_362001.out) gb363 (Nat.le_of_eq hg.symm)) hb); have n1_ := Aside0.mk (blk_below (g := gb359) (o := .cells #[.bool a0_0, .slice (some ad362) l0_1.length c0_1] 44 (0, 0)) (by exact BK359.out) hb); have n2_ := Aside0.mk (blk_below (g := gb360) (o := .cells #[.bool false, .slice none 0 0] 44 (0, 0)) (by exact BK360.out) hb); have n3_ := Aside0.mk (blk_below (g := gb361) (o := .cells #[.bool a0_0, u362001] 44 (0, 0)) (by exact BK361.out) hb); have n4_ := Aside0.mk (below_step (by repeat (first | (with_reducible first | exact HB.out | apply below_alloc | apply pw_below_drewN | apply below_drew1 | refine below_set ?_ GE359.out | refine below_set ?_ GE360.out | refine below_set ?_ GE361.out) | exact HB.out)) hb); have n5_ := Aside0.mk (hbox); have n6_ := Aside0.mk ((by rw [hg]; exact (below_size (by repeat (first | (with_reducible first | exact HB.out | apply below_alloc | apply pw_below_drewN | apply below_drew1 | refine below_set ?_ GE359.out | refine below_set ?_ GE360.out | refine below_set ?_ GE361.out) | exact HB.out))) : w.heap.size ≤ gb363)); have n7_ := Aside0.mk ((by rw [hg]; exact (below_size (by repeat (first | (with_reducible first | exact HB.out | apply below_alloc | apply pw_below_drewN | apply below_drew1 | refine below_set ?_ GE359.out | refine below_set ?_ GE360.out | refine below_set ?_ GE361.out) | exact HB.out))) : w.heap.size ≤ gb363)); have n8_ := Aside0.mk ((by rw [hg]; exact Nat.ne_of_lt (blk_lt (g := gb359) (o := .cells #[.bool a0_0, .slice (some ad362) l0_1.length c0_1] 44 (0, 0)) (by exact BK359.out)) : gb359 ≠ gb363)); have n9_ := Aside0.mk ((by rw [hg]; exact Nat.ne_of_gt (blk_lt (g := gb359) (o := .cells #[.bool a0_0, .slice (some ad362) l0_1.length c0_1] 44 (0, 0)) (by exact BK359.out)) : gb363 ≠ gb359)); have n10_ := Aside0.mk ((by rw [hg]; exact Nat.ne_of_lt (blk_lt (g := gb360) (o := .cells #[.bool false, .slice none 0 0] 44 (0, 0)) (by exact BK360.out)) : gb360 ≠ gb363)); have n11_ := Aside0.mk ((by rw [hg]; exact Nat.ne_of_gt (blk_lt (g := gb360) (o := .cells #[.bool false, .slice none 0 0] 44 (0, 0)) (by exact BK360.out)) : gb363 ≠ gb360)); have n12_ := Aside0.mk ((by rw [hg]; exact Nat.ne_of_lt (blk_lt (g := gb361) (o := .cells #[.bool a0_0, u362001] 44 (0, 0)) (by exact BK361.out)) : gb361 ≠ gb363)); have n13_ := Aside0.mk ((by rw [hg]; exact Nat.ne_of_gt (blk_lt (g := gb361) (o := .cells #[.bool a0_0, u362001] 44 (0, 0)) (by exact BK361.out)) : gb363 ≠ gb361)); clear HO_362001; clear BK359; clear BK360; clear BK361; clear HB; have HO_362001 := n0_; have BK359 := n1_; have BK360 := n2_; have BK361 := n3_; have HB := n4_; have BK363 := n5_; have GW363 := n6_; have GE363 := n7_; have NB359_363 := n8_; have NB363_359 := n9_; have NB360_363 := n10_; have NB363_360 := n11_; have NB361_363 := n12_; have NB363_361 := n13_; clear n0_ n1_ n2_ n3_ n4_ n5_ n6_ n7_ n8_ n9_ n10_ n11_ n12_ n13_; clear hb hbox hg; have hnb33 := NB363_359.out; have hnc33 := NB359_363.out; have hnb34 := NB363_360.out; have hnc34 := NB360_363.out; have hnb35 := NB363_361.out; have hnc35 := NB361_363.out; have hcz36_0 : w32.cell? ⟨gb363, 0, none⟩ = some (.string (⟨#[]⟩ : ByteArray)) := (blk_cell BK363.out 0).trans rfl; have hcz36_1 : w32.cell? ⟨gb363, 1, none⟩ = some (.string (⟨#[]⟩ : ByteArray)) := (blk_cell BK363.out 1).trans rfl; have hcz36_2 : w32.cell? ⟨gb363, 2, none⟩ = some (.int .i64 0) := (blk_cell BK363.out 2).trans rfl; have hfz36_0 := blk_frozen BK363.out 0; have hfz36_1 := blk_frozen BK363.out 1; have hfz36_2 := blk_frozen BK363.out 2; have hcz37_0 : w32.cell? ⟨gb359, 0, none⟩ = some (.bool a0_0) := (blk_cell BK359.out 0).trans rfl; have hcz37_1 : w32.cell? ⟨gb359, 1, none⟩ = some (.slice (some ad362) l0_1.length c0_1) := (blk_cell BK359.out 1).trans rfl; have hfz37_0 := blk_frozen BK359.out 0; have hfz37_1 := blk_frozen BK359.out 1))
                          repeat (go_quiet (first | ((with_reducible refine gate_dst (N := 5) rfl ?_); refine box_event ?hg (N := 5) ?hd (cs := #[.string (⟨#[]⟩ : ByteArray), .string (⟨#[]⟩ : ByteArray), .int .i64 0]) (t := 41) ?hr ?_; (case hd => rfl); (case hg => rfl); (case hr => first | (go_simp; done) | (go_simp; rfl)); intro gb363 hg w32 hbox hb; have n0_ := Aside0.mk (Kd.R_below (Kd.R_elderB (by exact HO_362001.out) gb363 (Nat.le_of_eq hg.symm)) hb); have n1_ := Aside0.mk (blk_below (g := gb359) (o := .cells #[.bool a0_0, .slice (some ad362) l0_1.length c0_1] 44 (0, 0)) (by exact BK359.out) hb); have n2_ := Aside0.mk (blk_below (g := gb360) (o := .cells #[.bool false, .slice none 0 0] 44 (0, 0)) (by exact BK360.out) hb); have n3_ := Aside0.mk (blk_below (g := gb361) (o := .cells #[.bool a0_0, u362001] 44 (0, 0)) (by exact BK361.out) hb); have n4_ := Aside0.mk (below_step (by repeat (first | (with_reducible first | exact HB.out | apply below_alloc | apply pw_below_drewN | apply below_drew1 | refine below_set ?_ GE359.out | refine below_set ?_ GE360.out | refine below_set ?_ GE361.out) | exact HB.out)) hb); have n5_ := Aside0.mk (hbox); have n6_ := Aside0.mk ((by rw [hg]; exact (below_size (by repeat (first | (with_reducible first | exact HB.out | apply below_alloc | apply pw_below_drewN | apply below_drew1 | refine below_set ?_ GE359.out | refine below_set ?_ GE360.out | refine below_set ?_ GE361.out) | exact HB.out))) : w.heap.size ≤ gb363)); have n7_ := Aside0.mk ((by rw [hg]; exact (below_size (by repeat (first | (with_reducible first | exact HB.out | apply below_alloc | apply pw_below_drewN | apply below_drew1 | refine below_set ?_ GE359.out | refine below_set ?_ GE360.out | refine below_set ?_ GE361.out) | exact HB.out))) : w.heap.size ≤ gb363)); have n8_ := Aside0.mk ((by rw [hg]; exact Nat.ne_of_lt (blk_lt (g := gb359) (o := .cells #[.bool a0_0, .slice (some ad362) l0_1.length c0_1] 44 (0, 0)) (by exact BK359.out)) : gb359 ≠ gb363)); have n9_ := Aside0.mk ((by rw [hg]; exact Nat.ne_of_gt (blk_lt (g := gb359) (o := .cells #[.bool a0_0, .slice (some ad362) l0_1.length c0_1] 44 (0, 0)) (by exact BK359.out)) : gb363 ≠ gb359)); have n10_ := Aside0.mk ((by rw [hg]; exact Nat.ne_of_lt (blk_lt (g := gb360) (o := .cells #[.bool false, .slice none 0 0] 44 (0, 0)) (by exact BK360.out)) : gb360 ≠ gb363)); have n11_ := Aside0.mk ((by rw [hg]; exact Nat.ne_of_gt (blk_lt (g := gb360) (o := .cells #[.bool false, .slice none 0 0] 44 (0, 0)) (by exact BK360.out)) : gb363 ≠ gb360)); have n12_ := Aside0.mk ((by rw [hg]; exact Nat.ne_of_lt (blk_lt (g := gb361) (o := .cells #[.bool a0_0, u362001] 44 (0, 0)) (by exact BK361.out)) : gb361 ≠ gb363)); have n13_ := Aside0.mk ((by rw [hg]; exact Nat.ne_of_gt (blk_lt (g := gb361) (o := .cells #[.bool a0_0, u362001] 44 (0, 0)) (by exact BK361.out)) : gb363 ≠ gb361)); clear HO_362001; clear BK359; clear BK360; clear BK361; clear HB; have HO_362001 := n0_; have BK359 := n1_; have BK360 := n2_; have BK361 := n3_; have HB := n4_; have BK363 := n5_; have GW363 := n6_; have GE363 := n7_; have NB359_363 := n8_; have NB363_359 := n9_; have NB360_363 := n10_; have NB363_360 := n11_; have NB361_363 := n12_; have NB363_361 := n13_; clear n0_ n1_ n2_ n3_ n4_ n5_ n6_ n7_ n8_ n9_ n10_ n11_ n12_ n13_; clear hb hbox hg; have hnb33 := NB363_359.out; have hnc33 := NB359_363.out; have hnb34 := NB363_360.out; have hnc34 := NB360_363.out; have hnb35 := NB363_361.out; have hnc35 := NB361_363.out; have hcz36_0 : w32.cell? ⟨gb363, 0, none⟩ = some (.string (⟨#[]⟩ : ByteArray)) := (blk_cell BK363.out 0).trans rfl; have hcz36_1 : w32.cell? ⟨gb363, 1, none⟩ = some (.string (⟨#[]⟩ : ByteArray)) := (blk_cell BK363.out 1).trans rfl; have hcz36_2 : w32.cell? ⟨gb363, 2, none⟩ = some (.int .i64 0) := (blk_cell BK363.out 2).trans rfl; have hfz36_0 := blk_frozen BK363.out 0; have hfz36_1 := blk_frozen BK363.out 1; have hfz36_2 := blk_frozen BK363.out 2; have hcz37_0 : w32.cell? ⟨gb359, 0, none⟩ = some (.bool a0_0) := (blk_cell BK359.out 0).trans rfl; have hcz37_1 : w32.cell? ⟨gb359, 1, none⟩ = some (.slice (some ad362) l0_1.length c0_1) := (blk_cell BK359.out 1).trans rfl; have hfz37_0 := blk_frozen BK359.out 0; have hfz37_1 := blk_frozen BK359.out 1)); go_upto_if 49 with (first | ((with_reducible refine gate_dst (N := 5) rfl ?_); refine box_event ?hg (N := 5) ?hd (cs := #[.string (⟨#[]⟩ : ByteArray), .string (⟨#[]⟩ : ByteArray), .int .i64 0]) (t := 41) ?hr ?_; (case hd => rfl); (case hg => rfl); (case hr => first | (go_simp; done) | (go_simp; rfl)); intro gb363 hg w32 hbox hb; have n0_ := Aside0.mk (Kd.R_below (Kd.R_elderB (by exact HO_362001.out) gb363 (Nat.le_of_eq hg.symm)) hb); have n1_ := Aside0.mk (blk_below (g := gb359) (o := .cells #[.bool a0_0, .slice (some ad362) l0_1.length c0_1] 44 (0, 0)) (by exact BK359.out) hb); have n2_ := Aside0.mk (blk_below (g := gb360) (o := .cells #[.bool false, .slice none 0 0] 44 (0, 0)) (by exact BK360.out) hb); have n3_ := Aside0.mk (blk_below (g := gb361) (o := .cells #[.bool a0_0, u362001] 44 (0, 0)) (by exact BK361.out) hb); have n4_ := Aside0.mk (below_step (by repeat (first | (with_reducible first | exact HB.out | apply below_alloc | apply pw_below_drewN | apply below_drew1 | refine below_set ?_ GE359.out | refine below_set ?_ GE360.out | refine below_set ?_ GE361.out) | exact HB.out)) hb); have n5_ := Aside0.mk (hbox); have n6_ := Aside0.mk ((by rw [hg]; exact (below_size (by repeat (first | (with_reducible first | exact HB.out | apply below_alloc | apply pw_below_drewN | apply below_drew1 | refine below_set ?_ GE359.out | refine below_set ?_ GE360.out | refine below_set ?_ GE361.out) | exact HB.out))) : w.heap.size ≤ gb363)); have n7_ := Aside0.mk ((by rw [hg]; exact (below_size (by repeat (first | (with_reducible first | exact HB.out | apply below_alloc | apply pw_below_drewN | apply below_drew1 | refine below_set ?_ GE359.out | refine below_set ?_ GE360.out | refine below_set ?_ GE361.out) | exact HB.out))) : w.heap.size ≤ gb363)); have n8_ := Aside0.mk ((by rw [hg]; exact Nat.ne_of_lt (blk_lt (g := gb359) (o := .cells #[.bool a0_0, .slice (some ad362) l0_1.length c0_1] 44 (0, 0)) (by exact BK359.out)) : gb359 ≠ gb363)); have n9_ := Aside0.mk ((by rw [hg]; exact Nat.ne_of_gt (blk_lt (g := gb359) (o := .cells #[.bool a0_0, .slice (some ad362) l0_1.length c0_1] 44 (0, 0)) (by exact BK359.out)) : gb363 ≠ gb359)); have n10_ := Aside0.mk ((by rw [hg]; exact Nat.ne_of_lt (blk_lt (g := gb360) (o := .cells #[.bool false, .slice none 0 0] 44 (0, 0)) (by exact BK360.out)) : gb360 ≠ gb363)); have n11_ := Aside0.mk ((by rw [hg]; exact Nat.ne_of_gt (blk_lt (g := gb360) (o := .cells #[.bool false, .slice none 0 0] 44 (0, 0)) (by exact BK360.out)) : gb363 ≠ gb360)); have n12_ := Aside0.mk ((by rw [hg]; exact Nat.ne_of_lt (blk_lt (g := gb361) (o := .cells #[.bool a0_0, u362001] 44 (0, 0)) (by exact BK361.out)) : gb361 ≠ gb363)); have n13_ := Aside0.mk ((by rw [hg]; exact Nat.ne_of_gt (blk_lt (g := gb361) (o := .cells #[.bool a0_0, u362001] 44 (0, 0)) (by exact BK361.out)) : gb363 ≠ gb361)); clear HO_362001; clear BK359; clear BK360; clear BK361; clear HB; have HO_362001 := n0_; have BK359 := n1_; have BK360 := n2_; have BK361 := n3_; have HB := n4_; have BK363 := n5_; have GW363 := n6_; have GE363 := n7_; have NB359_363 := n8_; have NB363_359 := n9_; have NB360_363 := n10_; have NB363_360 := n11_; have NB361_363 := n12_; have NB363_361 := n13_; clear n0_ n1_ n2_ n3_ n4_ n5_ n6_ n7_ n8_ n9_ n10_ n11_ n12_ n13_; clear hb hbox hg; have hnb33 := NB363_359.out; have hnc33 := NB359_363.out; have hnb34 := NB363_360.out; have hnc34 := NB360_363.out; have hnb35 := NB363_361.out; have hnc35 := NB361_363.out; have hcz36_0 : w32.cell? ⟨gb363, 0, none⟩ = some (.string (⟨#[]⟩ : ByteArray)) := (blk_cell BK363.out 0).trans rfl; have hcz36_1 : w32.cell? ⟨gb363, 1, none⟩ = some (.string (⟨#[]⟩ : ByteArray)) := (blk_cell BK363.out 1).trans rfl; have hcz36_2 : w32.cell? ⟨gb363, 2, none⟩ = some (.int .i64 0) := (blk_cell BK363.out 2).trans rfl; have hfz36_0 := blk_frozen BK363.out 0; have hfz36_1 := blk_frozen BK363.out 1; have hfz36_2 := blk_frozen BK363.out 2; have hcz37_0 : w32.cell? ⟨gb359, 0, none⟩ = some (.bool a0_0) := (blk_cell BK359.out 0).trans rfl; have hcz37_1 : w32.cell? ⟨gb359, 1, none⟩ = some (.slice (some ad362) l0_1.length c0_1) := (blk_cell BK359.out 1).trans rfl; have hfz37_0 := blk_frozen BK359.out 0; have hfz37_1 := blk_frozen BK359.out 1)))
                          (try simp only [Act.put, List.setIfInBounds_toArray, List.set_cons_zero, List.set_cons_succ])
                          go_cut [] (fun wc => ∃ (kq : Nat) (x364001_27 : ByteArray) (x364002_27 : Int), Aside0 (waybilllaw10_Tame.j2 kq x4_1 a0_0 l0_1 a0_0 x362001_1 ((⟨#[107]⟩ : ByteArray) ++ (((rd_T41 l0_1 x4_1).f0).extract 0 ((ji21) : Int).toNat)) x364001_27 x364002_27 = some (r1, r2)) ∧ Aside0 (kq ≤ kj9) ∧ Aside0 (Kd.R k41 41 wc w.heap.size (fun k_ => k_ ≠ gb363) u362001 x362001_1) ∧ Aside0 (wc.heap[gb359]? = some (.cells #[.bool a0_0, (.slice (some ad362) l0_1.length c0_1)] 44 (0, 0))) ∧ Aside0 (wc.heap[gb360]? = some (.cells #[.bool false, (.slice none 0 0)] 44 (0, 0))) ∧ Aside0 (wc.heap[gb361]? = some (.cells #[.bool a0_0, u362001] 44 (0, 0))) ∧ Aside0 (wc.heap[gb363]? = some (.cells #[.string ((⟨#[107]⟩ : ByteArray) ++ (((rd_T41 l0_1 x4_1).f0).extract 0 ((ji21) : Int).toNat)), .string x364001_27, .int .i64 x364002_27] 41 (0, 0))) ∧ Aside0 (Below w.heap.size w wc))
                          case first =>
                            have H := HC28.out
                            clear HC28
                            refine with_world (P := fun W1 => Kd.R k41 41 W1 w.heap.size (fun k_ => k_ ≠ gb363) u362001 x362001_1 ∧ W1.heap[gb359]? = some (.cells #[.bool a0_0, (.slice (some ad362) l0_1.length c0_1)] 44 (0, 0)) ∧ W1.heap[gb360]? = some (.cells #[.bool false, (.slice none 0 0)] 44 (0, 0)) ∧ W1.heap[gb361]? = some (.cells #[.bool a0_0, u362001] 44 (0, 0)) ∧ W1.heap[gb363]? = some (.cells #[.string ((⟨#[107]⟩ : ByteArray) ++ (((rd_T41 l0_1 x4_1).f0).extract 0 ((ji21) : Int).toNat)), .string (((rd_T41 l0_1 x4_1).f1).extract 0 ((ji25) : Int).toNat), .int .i64 (wrap64 (2 + (Go.bits .and .i64 ((rd_T41 l0_1 x4_1).f2) 65535)))] 41 (0, 0)) ∧ Below w.heap.size w W1) ⟨Kd.R_mono (Kd.R_far (p := ⟨gb363, 2, none⟩) (Kd.R_far (p := ⟨gb363, 1, none⟩) (Kd.R_far (p := ⟨gb363, 0, none⟩) (Kd.R_far (p := ⟨gb363, 2, none⟩) (Kd.R_far (p := ⟨gb363, 1, none⟩) (Kd.R_far (p := ⟨gb363, 0, none⟩) (Kd.R_mono HO_362001.out (fun k_ hk => (⟨hk, hk.2⟩ : _ ∧ k_ ≠ gb363))) (fun _ hk => hk.2) (.string ((rd_T41 l0_1 x4_1).f0))) (fun _ hk => hk.2) (.string ((rd_T41 l0_1 x4_1).f1))) (fun _ hk => hk.2) (.int .i64 ((rd_T41 l0_1 x4_1).f2))) (fun _ hk => hk.2) (.string ((⟨#[107]⟩ : ByteArray) ++ (((rd_T41 l0_1 x4_1).f0).extract 0 ((ji21) : Int).toNat)))) (fun _ hk => hk.2) (.string (((rd_T41 l0_1 x4_1).f1).extract 0 ((ji25) : Int).toNat))) (fun _ hk => hk.2) (.int .i64 (wrap64 (2 + (Go.bits .and .i64 ((rd_T41 l0_1 x4_1).f2) 65535))))) (fun _ hk => hk.2), (by refine blk_far ?_ NB359_363.out _; refine blk_far ?_ NB359_363.out _; refine blk_far ?_ NB359_363.out _; refine blk_far ?_ NB359_363.out _; refine blk_far ?_ NB359_363.out _; refine blk_far ?_ NB359_363.out _; exact BK359.out), (by refine blk_far ?_ NB360_363.out _; refine blk_far ?_ NB360_363.out _; refine blk_far ?_ NB360_363.out _; refine blk_far ?_ NB360_363.out _; refine blk_far ?_ NB360_363.out _; refine blk_far ?_ NB360_363.out _; exact BK360.out), (by refine blk_far ?_ NB361_363.out _; refine blk_far ?_ NB361_363.out _; refine blk_far ?_ NB361_363.out _; refine blk_far ?_ NB361_363.out _; refine blk_far ?_ NB361_363.out _; refine blk_far ?_ NB361_363.out _; exact BK361.out), (by refine blk_put (cs := #[.string ((⟨#[107]⟩ : ByteArray) ++ (((rd_T41 l0_1 x4_1).f0).extract 0 ((ji21) : Int).toNat)), .string (((rd_T41 l0_1 x4_1).f1).extract 0 ((ji25) : Int).toNat), .int .i64 ((rd_T41 l0_1 x4_1).f2)]) ?_ 2 _ rfl; refine blk_put (cs := #[.string ((⟨#[107]⟩ : ByteArray) ++ (((rd_T41 l0_1 x4_1).f0).extract 0 ((ji21) : Int).toNat)), .string ((rd_T41 l0_1 x4_1).f1), .int .i64 ((rd_T41 l0_1 x4_1).f2)]) ?_ 1 _ rfl; refine blk_put (cs := #[.string ((rd_T41 l0_1 x4_1).f0), .string ((rd_T41 l0_1 x4_1).f1), .int .i64 ((rd_T41 l0_1 x4_1).f2)]) ?_ 0 _ rfl; refine blk_put (cs := #[.string ((rd_T41 l0_1 x4_1).f0), .string ((rd_T41 l0_1 x4_1).f1), .int .i64 0]) ?_ 2 _ rfl; refine blk_put (cs := #[.string ((rd_T41 l0_1 x4_1).f0), .string (⟨#[]⟩ : ByteArray), .int .i64 0]) ?_ 1 _ rfl; refine blk_put (cs := #[.string (⟨#[]⟩ : ByteArray), .string (⟨#[]⟩ : ByteArray), .int .i64 0]) ?_ 0 _ rfl; exact BK363.out), (by repeat (first | (with_reducible first | exact HB.out | apply below_alloc | apply pw_below_drewN | apply below_drew1 | refine below_set ?_ GE363.out) | exact HB.out))⟩ ?_
                            rintro W1 ⟨n0_, n1_, n2_, n3_, n4_, n5_⟩
                            clear HO_362001
                            clear BK359
                            clear BK360
                            clear BK361
                            clear BK363
                            clear HB
                            have HO_362001 := Aside0.mk n0_
                            have BK359 := Aside0.mk n1_
                            have BK360 := Aside0.mk n2_
                            have BK361 := Aside0.mk n3_
                            have BK363 := Aside0.mk n4_
                            have HB := Aside0.mk n5_
                            clear n0_ n1_ n2_ n3_ n4_ n5_
                            by_cases c38 : a0_0 = true
                            · subst c38
                              have H1 : (waybilllaw10_Tame.j2 kj9 x4_1 true l0_1 true x362001_1 ((⟨#[107]⟩ : ByteArray) ++ (((rd_T41 l0_1 x4_1).f0).extract 0 ((ji21) : Int).toNat)) (((rd_T41 l0_1 x4_1).f1).extract 0 ((ji25) : Int).toNat) 0) = some (r1, r2) := by rw [if_pos rfl] at H; exact H
                              clear H
                              have H := H1
                              clear H1
                              have H' := Aside0.mk H
                              clear H
                              have hnb39 := NB363_359.out
                              have hnc39 := NB359_363.out
                              have hnb40 := NB363_360.out
                              have hnc40 := NB360_363.out
                              have hnb41 := NB363_361.out
                              have hnc41 := NB361_363.out
                              have hcz42_0 : W1.cell? ⟨gb363, 0, none⟩ = some (.string ((⟨#[107]⟩ : ByteArray) ++ (((rd_T41 l0_1 x4_1).f0).extract 0 ((ji21) : Int).toNat))) := (blk_cell BK363.out 0).trans rfl
                              have hcz42_1 : W1.cell? ⟨gb363, 1, none⟩ = some (.string (((rd_T41 l0_1 x4_1).f1).extract 0 ((ji25) : Int).toNat)) := (blk_cell BK363.out 1).trans rfl
                              have hcz42_2 : W1.cell? ⟨gb363, 2, none⟩ = some (.int .i64 (wrap64 (2 + (Go.bits .and .i64 ((rd_T41 l0_1 x4_1).f2) 65535)))) := (blk_cell BK363.out 2).trans rfl
                              have hfz42_0 := blk_frozen BK363.out 0
                              have hfz42_1 := blk_frozen BK363.out 1
                              have hfz42_2 := blk_frozen BK363.out 2
                              go_wp2
                              repeat (go_quiet (fail); try go_wp2)
                              go_meet
                              case rel => exact ⟨_, (((rd_T41 l0_1 x4_1).f1).extract 0 ((ji25) : Int).toNat), (0), H', ⟨by have := HK1.out; have := HJ9.out; first | omega | exact Nat.le_refl _⟩, ⟨Kd.R_mono (Kd.R_far (p := ⟨gb363, 2, none⟩) (Kd.R_mono HO_362001.out (fun k_ hk => (⟨hk, hk⟩ : _ ∧ k_ ≠ gb363))) (fun _ hk => hk.2) (.int .i64 0)) (fun _ hk => hk.1)⟩, ⟨blk_far BK359.out NB359_363.out _⟩, ⟨blk_far BK360.out NB360_363.out _⟩, ⟨blk_far BK361.out NB361_363.out _⟩, ⟨blk_put (cs := #[.string ((⟨#[107]⟩ : ByteArray) ++ (((rd_T41 l0_1 x4_1).f0).extract 0 ((ji21) : Int).toNat)), .string (((rd_T41 l0_1 x4_1).f1).extract 0 ((ji25) : Int).toNat), .int .i64 (wrap64 (2 + (Go.bits .and .i64 ((rd_T41 l0_1 x4_1).f2) 65535)))]) BK363.out 2 _ rfl⟩, ⟨by repeat (first | (with_reducible first | exact HB.out | apply below_alloc | apply pw_below_drewN | apply below_drew1 | refine below_set ?_ GE363.out) | exact HB.out)⟩⟩
                            · replace c38 := Bool.eq_false_iff.mpr c38
                              subst c38
                              have H1 : (waybilllaw10_Tame.j2 kj9 x4_1 false l0_1 false x362001_1 ((⟨#[107]⟩ : ByteArray) ++ (((rd_T41 l0_1 x4_1).f0).extract 0 ((ji21) : Int).toNat)) (⟨#[]⟩ : ByteArray) (wrap64 (2 + (Go.bits .and .i64 ((rd_T41 l0_1 x4_1).f2) 65535)))) = some (r1, r2) := by rw [if_neg (show ¬ (false = true) by decide)] at H; exact H
                              clear H
                              have H := H1
                              clear H1
                              have H' := Aside0.mk H
                              clear H
                              have hnb43 := NB363_359.out
                              have hnc43 := NB359_363.out
                              have hnb44 := NB363_360.out
                              have hnc44 := NB360_363.out
                              have hnb45 := NB363_361.out
                              have hnc45 := NB361_363.out
                              have hcz46_0 : W1.cell? ⟨gb363, 0, none⟩ = some (.string ((⟨#[107]⟩ : ByteArray) ++ (((rd_T41 l0_1 x4_1).f0).extract 0 ((ji21) : Int).toNat))) := (blk_cell BK363.out 0).trans rfl
                              have hcz46_1 : W1.cell? ⟨gb363, 1, none⟩ = some (.string (((rd_T41 l0_1 x4_1).f1).extract 0 ((ji25) : Int).toNat)) := (blk_cell BK363.out 1).trans rfl
                              have hcz46_2 : W1.cell? ⟨gb363, 2, none⟩ = some (.int .i64 (wrap64 (2 + (Go.bits .and .i64 ((rd_T41 l0_1 x4_1).f2) 65535)))) := (blk_cell BK363.out 2).trans rfl
                              have hfz46_0 := blk_frozen BK363.out 0
                              have hfz46_1 := blk_frozen BK363.out 1
                              have hfz46_2 := blk_frozen BK363.out 2
                              go_wp2
                              repeat (go_quiet (fail); try go_wp2)
                              go_meet
                              case rel => exact ⟨_, (⟨#[]⟩ : ByteArray), (wrap64 (2 + (Go.bits .and .i64 ((rd_T41 l0_1 x4_1).f2) 65535))), H', ⟨by have := HK1.out; have := HJ9.out; first | omega | exact Nat.le_refl _⟩, ⟨Kd.R_mono (Kd.R_far (p := ⟨gb363, 1, none⟩) (Kd.R_mono HO_362001.out (fun k_ hk => (⟨hk, hk⟩ : _ ∧ k_ ≠ gb363))) (fun _ hk => hk.2) (.string (⟨#[]⟩ : ByteArray))) (fun _ hk => hk.1)⟩, ⟨blk_far BK359.out NB359_363.out _⟩, ⟨blk_far BK360.out NB360_363.out _⟩, ⟨blk_far BK361.out NB361_363.out _⟩, ⟨blk_put (cs := #[.string ((⟨#[107]⟩ : ByteArray) ++ (((rd_T41 l0_1 x4_1).f0).extract 0 ((ji21) : Int).toNat)), .string (((rd_T41 l0_1 x4_1).f1).extract 0 ((ji25) : Int).toNat), .int .i64 (wrap64 (2 + (Go.bits .and .i64 ((rd_T41 l0_1 x4_1).f2) 65535)))]) BK363.out 1 _ rfl⟩, ⟨by repeat (first | (with_reducible first | exact HB.out | apply below_alloc | apply pw_below_drewN | apply below_drew1 | refine below_set ?_ GE363.out) | exact HB.out)⟩⟩
                          case rest =>
                            clear HC28
                            try clear c1
                            try clear c2
                            try clear p2
                            try clear c3
                            try clear p3
                            try clear q3
                            try clear hx3
                            try clear c4
                            try clear p6
                            try clear c7
                            try clear c8
                            try clear c11
                            try clear c11b0
                            try clear c12
                            try clear c13
                            try clear c15
                            try clear c16
                            try clear c18
                            try clear c19
                            try clear c19b0
                            try clear c20
                            try clear c20b0
                            try clear c22
                            try clear c22b0
                            try clear c22b1
                            try clear c23
                            try clear c23b0
                            try clear c23b1
                            try clear c24
                            try clear c24b0
                            try clear c24b1
                            try clear c24b2
                            try clear c26
                            try clear c26b0
                            try clear c26b1
                            try clear c27
                            try clear c27b0
                            try clear c27b1
                            try clear c29
                            try clear c30
                            try clear c33
                            try clear c34
                            try clear c35
                            try clear p36
                            try clear q36
                            try clear hx36
                            try clear c38
                            try clear c39
                            try clear c40
                            try clear c41
                            try clear c43
                            try clear c44
                            try clear c45
                            try clear hcz14_0
                            try clear hcz14_1
                            try clear hcz17_0
                            try clear hcz17_1
                            try clear hcz31_0
                            try clear hcz31_1
                            try clear hcz36_0
                            try clear hcz36_1
                            try clear hcz36_2
                            try clear hcz37_0
                            try clear hcz37_1
                            try clear hcz42_0
                            try clear hcz42_1
                            try clear hcz42_2
                            try clear hcz46_0
                            try clear hcz46_1
                            try clear hcz46_2
                            try clear hcz5_0
                            try clear hcz5_1
                            try clear hcz9_0
                            try clear hcz9_1
                            try clear hfz14_0
                            try clear hfz14_1
                            try clear hfz17_0
                            try clear hfz17_1
                            try clear hfz31_0
                            try clear hfz31_1
                            try clear hfz36_0
                            try clear hfz36_1
                            try clear hfz36_2
                            try clear hfz37_0
                            try clear hfz37_1
                            try clear hfz42_0
                            try clear hfz42_1
                            try clear hfz42_2
                            try clear hfz46_0
                            try clear hfz46_1
                            try clear hfz46_2
                            try clear hfz5_0
                            try clear hfz5_1
                            try clear hfz9_0
                            try clear hfz9_1
                            try clear hx362_0
                            try clear hx362_1
                            try clear hx362_2
                            try clear p2
                            try clear p362
                            try clear q362
                            obtain ⟨kq, x364001_27, x364002_27, HA, HJ27, HO_362001, BK359, BK360, BK361, BK363, HB⟩ := hcut
                            cases kq with
                            | zero => exact absurd HA.out (by simp [waybilllaw10_Tame.j2])
                            | succ kj27 =>
                              have H := HA.out
                              clear HA
                              simp only [waybilllaw10_Tame.j2] at H
                              have HC47 := Aside0.mk H
                              clear H
                              have hnb48 := NB361_359.out
                              have hnc48 := NB359_361.out
                              have hnb49 := NB361_360.out
                              have hnc49 := NB360_361.out
                              have hnb50 := NB361_363.out
                              have hnc50 := NB363_361.out
                              have hcz51_0 : wc.cell? ⟨gb361, 0, none⟩ = some (.bool a0_0) := (blk_cell BK361.out 0).trans rfl
                              have hcz51_1 : wc.cell? ⟨gb361, 1, none⟩ = some (u362001) := (blk_cell BK361.out 1).trans rfl
                              have hfz51_0 := blk_frozen BK361.out 0
                              have hfz51_1 := blk_frozen BK361.out 1
                              obtain ⟨Ao52, co52, eo52⟩ := Kd.R_slice HO_362001.out
                              subst eo52
                              go_upto_region 13 with (fail)
                              repeat (go_quiet (fail); go_upto_region 13 with (fail))
                              go_cut [68] (fun v68 wc => ∃ (kq : Nat) (x68_46 : Bool), v68 = .bool x68_46 ∧ Aside0 (waybilllaw10_Tame.j3 kq x4_1 (x362001_1.length : Int) x68_46 a0_0 l0_1 a0_0 x362001_1 ((⟨#[107]⟩ : ByteArray) ++ (((rd_T41 l0_1 x4_1).f0).extract 0 ((ji21) : Int).toNat)) x364001_27 x364002_27 = some (r1, r2)) ∧ Aside0 (kq ≤ kj27) ∧ Aside0 (Kd.R k41 41 wc w.heap.size (fun k_ => k_ ≠ gb363) (.slice Ao52 x362001_1.length co52) x362001_1) ∧ Aside0 (wc.heap[gb359]? = some (.cells #[.bool a0_0, (.slice (some ad362) l0_1.length c0_1)] 44 (0, 0))) ∧ Aside0 (wc.heap[gb360]? = some (.cells #[.bool false, (.slice none 0 0)] 44 (0, 0))) ∧ Aside0 (wc.heap[gb361]? = some (.cells #[.bool a0_0, (.slice Ao52 x362001_1.length co52)] 44 (0, 0))) ∧ Aside0 (wc.heap[gb363]? = some (.cells #[.string ((⟨#[107]⟩ : ByteArray) ++ (((rd_T41 l0_1 x4_1).f0).extract 0 ((ji21) : Int).toNat)), .string x364001_27, .int .i64 x364002_27] 41 (0, 0))) ∧ Aside0 (Below w.heap.size w wc))
                              case first =>
                                have H := HC47.out
                                clear HC47
                                by_cases c53 : (x362001_1.length : Int) > 0
                                · rw [if_pos c53] at H
                                  have c53b0 : decide (0 < (x362001_1.length : Int)) = true := decide_eq_true c53
                                  have c53b1 : decide (0 < x362001_1.length) = true := decide_eq_true (by omega)
                                  clear c53
                                  (first | rw [c53b0] | rw [c53b2] | rw [c53b1] | (simp only [i64_w, i32_w]; rw [c53b0]) | skip)
                                  obtain ⟨ji54, hji54⟩ : ∃ j_ : Int, (wrap64 ((x362001_1.length : Int) - 1)) = j_ := ⟨_, rfl⟩
                                  replace H : (if 0 ≤ (ji54) then (if (ji54) < (x362001_1.length : Int) then (waybilllaw10_Tame.j3 kj27 x4_1 (x362001_1.length : Int) (!(Op.bytesLess (((rd_T41 x362001_1 (ji54)).f0).toList) ((⟨#[107]⟩ : ByteArray) ++ (((rd_T41 l0_1 x4_1).f0).extract 0 ((ji21) : Int).toNat)).toList)) a0_0 l0_1 a0_0 x362001_1 ((⟨#[107]⟩ : ByteArray) ++ (((rd_T41 l0_1 x4_1).f0).extract 0 ((ji21) : Int).toNat)) x364001_27 x364002_27) else (none)) else (none)) = some (r1, r2) := by first | (rw [hji54] at H; exact H) | (simp only [hji54] at H ⊢; exact H)
                                  have hji54w : (IntKind.i64.wrap ((x362001_1.length : Int) - 1)) = ji54 := (i64_w _).trans hji54
                                  by_cases c55 : 0 ≤ (ji54)
                                  · rw [if_pos c55] at H
                                    have c55b0 : decide (0 ≤ (ji54)) = true := decide_eq_true c55
                                    clear c55
                                    by_cases c56 : (ji54) < (x362001_1.length : Int)
                                    · rw [if_pos c56] at H
                                      have c56b0 : decide ((ji54) < (x362001_1.length : Int)) = true := decide_eq_true c56
                                      clear c56
                                      have H' := Aside0.mk H
                                      clear H
                                      have hnb57 := NB361_359.out
                                      have hnc57 := NB359_361.out
                                      have hnb58 := NB361_360.out
                                      have hnc58 := NB360_361.out
                                      have hnb59 := NB361_363.out
                                      have hnc59 := NB363_361.out
                                      have hcz60_0 : wc.cell? ⟨gb361, 0, none⟩ = some (.bool a0_0) := (blk_cell BK361.out 0).trans rfl
                                      have hcz60_1 : wc.cell? ⟨gb361, 1, none⟩ = some (.slice Ao52 x362001_1.length co52) := (blk_cell BK361.out 1).trans rfl
                                      have hfz60_0 := blk_frozen BK361.out 0
                                      have hfz60_1 := blk_frozen BK361.out 1
                                      have p364 : 0 ≤ ((ji54) : Int) := of_decide_eq_true (by first | (with_reducible assumption) | assumption)
                                      have q364 : (ji54) < (x362001_1.length : Int) := of_decide_eq_true (by first | (with_reducible assumption) | assumption)
                                      obtain ⟨ad364, e364, hx364_0, hx364_1, hx364_2⟩ := at_T41 (Kd.R_reads' HO_362001.out).2.2 (ji54) p364 q364
                                      cases e364
                                      replace p364 := eq_true p364
                                      replace q364 := eq_true q364
                                      have hnb61 := NB363_359.out
                                      have hnc61 := NB359_363.out
                                      have hnb62 := NB363_360.out
                                      have hnc62 := NB360_363.out
                                      have hcz63_0 : wc.cell? ⟨gb363, 0, none⟩ = some (.string ((⟨#[107]⟩ : ByteArray) ++ (((rd_T41 l0_1 x4_1).f0).extract 0 ((ji21) : Int).toNat))) := (blk_cell BK363.out 0).trans rfl
                                      have hcz63_1 : wc.cell? ⟨gb363, 1, none⟩ = some (.string x364001_27) := (blk_cell BK363.out 1).trans rfl
                                      have hcz63_2 : wc.cell? ⟨gb363, 2, none⟩ = some (.int .i64 x364002_27) := (blk_cell BK363.out 2).trans rfl
                                      have hfz63_0 := blk_frozen BK363.out 0
                                      have hfz63_1 := blk_frozen BK363.out 1
                                      have hfz63_2 := blk_frozen BK363.out 2
                                      go_wp2
                                      repeat (go_quiet (fail); try go_wp2)
                                      go_meet
                                      case rel => exact ⟨_, (!(Op.bytesLess (((rd_T41 x362001_1 (ji54)).f0).toList) ((⟨#[107]⟩ : ByteArray) ++ (((rd_T41 l0_1 x4_1).f0).extract 0 ((ji21) : Int).toNat)).toList)), (by first | rfl | (simp; done) | (simp only [← hji21, ← hji54] <;> (first | rfl | simp)) | (simp [*]; done)), H', ⟨by have := HK1.out; have := HJ9.out; have := HJ27.out; first | omega | exact Nat.le_refl _⟩, ⟨by exact HO_362001.out⟩, ⟨by exact BK359.out⟩, ⟨by exact BK360.out⟩, ⟨by exact BK361.out⟩, ⟨by exact BK363.out⟩, ⟨by repeat (first | (with_reducible first | exact HB.out | apply below_alloc | apply pw_below_drewN | apply below_drew1 | refine below_set ?_ GE359.out | refine below_set ?_ GE360.out | refine below_set ?_ GE361.out | refine below_set ?_ GE363.out) | exact HB.out)⟩⟩
                                    · rw [if_neg c56] at H
                                      exact absurd H (by simp)
                                  · rw [if_neg c55] at H
                                    exact absurd H (by simp)
                                · rw [if_neg c53] at H
                                  have c53b0 : decide (0 < (x362001_1.length : Int)) = false := decide_eq_false c53
                                  have c53b1 : decide (0 < x362001_1.length) = false := decide_eq_false (by omega)
                                  clear c53
                                  (first | rw [c53b0] | rw [c53b2] | rw [c53b1] | (simp only [i64_w, i32_w]; rw [c53b0]) | skip)
                                  have H' := Aside0.mk H
                                  clear H
                                  go_wp2
                                  repeat (go_quiet (fail); try go_wp2)
                                  go_meet
                                  case rel => exact ⟨_, (false), (by first | rfl | (simp; done) | (simp [*]; done)), H', ⟨by have := HK1.out; have := HJ9.out; have := HJ27.out; first | omega | exact Nat.le_refl _⟩, ⟨by exact HO_362001.out⟩, ⟨by exact BK359.out⟩, ⟨by exact BK360.out⟩, ⟨by exact BK361.out⟩, ⟨by exact BK363.out⟩, ⟨by repeat (first | (with_reducible first | exact HB.out | apply below_alloc | apply pw_below_drewN | apply below_drew1 | refine below_set ?_ GE359.out | refine below_set ?_ GE360.out | refine below_set ?_ GE361.out | refine below_set ?_ GE363.out) | exact HB.out)⟩⟩
                              case rest =>
                                clear HC47
                                try clear c1
                                try clear c2
                                try clear p2
                                try clear c3
                                try clear p3
                                try clear q3
                                try clear hx3
                                try clear c4
                                try clear c5
                                try clear c6
                                try clear p6
                                try clear c7
                                try clear c8
                                try clear c11
                                try clear c11b0
                                try clear c12
                                try clear c13
                                try clear c15
                                try clear c16
                                try clear c18
                                try clear c19
                                try clear c19b0
                                try clear c20
                                try clear c20b0
                                try clear c22
                                try clear c22b0
                                try clear c22b1
                                try clear c23
                                try clear c23b0
                                try clear c23b1
                                try clear c24
                                try clear c24b0
                                try clear c24b1
                                try clear c24b2
                                try clear c26
                                try clear c26b0
                                try clear c26b1
                                try clear c27
                                try clear c27b0
                                try clear c27b1
                                try clear c29
                                try clear c30
                                try clear c33
                                try clear c34
                                try clear c35
                                try clear p36
                                try clear q36
                                try clear hx36
                                try clear c38
                                try clear c39
                                try clear c40
                                try clear c41
                                try clear c43
                                try clear c44
                                try clear c45
                                try clear c48
                                try clear c49
                                try clear c50
                                try clear c53
                                try clear c53b0
                                try clear c53b1
                                try clear c55
                                try clear c55b0
                                try clear c56
                                try clear c56b0
                                try clear c57
                                try clear c58
                                try clear c59
                                try clear c61
                                try clear c62
                                try clear hcz14_0
                                try clear hcz14_1
                                try clear hcz17_0
                                try clear hcz17_1
                                try clear hcz31_0
                                try clear hcz31_1
                                try clear hcz36_0
                                try clear hcz36_1
                                try clear hcz36_2
                                try clear hcz37_0
                                try clear hcz37_1
                                try clear hcz42_0
                                try clear hcz42_1
                                try clear hcz42_2
                                try clear hcz46_0
                                try clear hcz46_1
                                try clear hcz46_2
                                try clear hcz51_0
                                try clear hcz51_1
                                try clear hcz5_0
                                try clear hcz5_1
                                try clear hcz60_0
                                try clear hcz60_1
                                try clear hcz63_0
                                try clear hcz63_1
                                try clear hcz63_2
                                try clear hcz9_0
                                try clear hcz9_1
                                try clear hfz14_0
                                try clear hfz14_1
                                try clear hfz17_0
                                try clear hfz17_1
                                try clear hfz31_0
                                try clear hfz31_1
                                try clear hfz36_0
                                try clear hfz36_1
                                try clear hfz36_2
                                try clear hfz37_0
                                try clear hfz37_1
                                try clear hfz42_0
                                try clear hfz42_1
                                try clear hfz42_2
                                try clear hfz46_0
                                try clear hfz46_1
                                try clear hfz46_2
                                try clear hfz51_0
                                try clear hfz51_1
                                try clear hfz5_0
                                try clear hfz5_1
                                try clear hfz60_0
                                try clear hfz60_1
                                try clear hfz63_0
                                try clear hfz63_1
                                try clear hfz63_2
                                try clear hfz9_0
                                try clear hfz9_1
                                try clear hx362_0
                                try clear hx362_1
                                try clear hx362_2
                                try clear hx364_0
                                try clear hx364_1
                                try clear hx364_2
                                try clear p2
                                try clear p3
                                try clear p36
                                try clear p362
                                try clear p364
                                try clear p6
                                try clear q3
                                try clear q36
                                try clear q362
                                try clear q364
                                obtain ⟨kq, x68_46, rfl, HA, HJ46, HO_362001, BK359, BK360, BK361, BK363, HB⟩ := hcut
                                cases kq with
                                | zero => exact absurd HA.out (by simp [waybilllaw10_Tame.j3])
                                | succ kj46 =>
                                  have H := HA.out
                                  clear HA
                                  simp only [waybilllaw10_Tame.j3] at H
                                  have HC64 := Aside0.mk H
                                  clear H
                                  go_upto_if 68 with (fail)
                                  repeat (go_quiet (fail); go_upto_if 68 with (fail))
                                  go_cut [] (fun wc => ∃ (kq : Nat) (x364000_63 : ByteArray), Aside0 (waybilllaw10_Tame.j4 kq x4_1 a0_0 l0_1 a0_0 x362001_1 x364000_63 x364001_27 x364002_27 = some (r1, r2)) ∧ Aside0 (kq ≤ kj46) ∧ Aside0 (Kd.R k41 41 wc w.heap.size (fun k_ => k_ ≠ gb363) (.slice Ao52 x362001_1.length co52) x362001_1) ∧ Aside0 (wc.heap[gb359]? = some (.cells #[.bool a0_0, (.slice (some ad362) l0_1.length c0_1)] 44 (0, 0))) ∧ Aside0 (wc.heap[gb360]? = some (.cells #[.bool false, (.slice none 0 0)] 44 (0, 0))) ∧ Aside0 (wc.heap[gb361]? = some (.cells #[.bool a0_0, (.slice Ao52 x362001_1.length co52)] 44 (0, 0))) ∧ Aside0 (wc.heap[gb363]? = some (.cells #[.string x364000_63, .string x364001_27, .int .i64 x364002_27] 41 (0, 0))) ∧ Aside0 (Below w.heap.size w wc))
                                  case first =>
                                    have H := HC64.out
                                    clear HC64
                                    by_cases c65 : x68_46 = true
                                    · subst c65
                                      have H1 : (if 0 ≤ (wrap64 ((x362001_1.length : Int) - 1)) then (if (wrap64 ((x362001_1.length : Int) - 1)) < (x362001_1.length : Int) then (if ((rd_T41 x362001_1 (wrap64 ((x362001_1.length : Int) - 1))).f0).size + 1 ≤ 9223372036854775807 then (waybilllaw10_Tame.j4 kj46 x4_1 a0_0 l0_1 a0_0 x362001_1 (((rd_T41 x362001_1 (wrap64 ((x362001_1.length : Int) - 1))).f0) ++ (⟨#[43]⟩ : ByteArray)) x364001_27 x364002_27) else (none)) else (none)) else (none)) = some (r1, r2) := by rw [if_pos rfl] at H; exact H
                                      clear H
                                      have H := H1
                                      clear H1
                                      obtain ⟨ji66, hji66⟩ : ∃ j_ : Int, (wrap64 ((x362001_1.length : Int) - 1)) = j_ := ⟨_, rfl⟩
                                      replace H : (if 0 ≤ (ji66) then (if (ji66) < (x362001_1.length : Int) then (if ((rd_T41 x362001_1 (ji66)).f0).size + 1 ≤ 9223372036854775807 then (waybilllaw10_Tame.j4 kj46 x4_1 a0_0 l0_1 a0_0 x362001_1 (((rd_T41 x362001_1 (ji66)).f0) ++ (⟨#[43]⟩ : ByteArray)) x364001_27 x364002_27) else (none)) else (none)) else (none)) = some (r1, r2) := by first | (rw [hji66] at H; exact H) | (simp only [hji66] at H ⊢; exact H)
                                      have hji66w : (IntKind.i64.wrap ((x362001_1.length : Int) - 1)) = ji66 := (i64_w _).trans hji66
                                      by_cases c67 : 0 ≤ (ji66)
                                      · rw [if_pos c67] at H
                                        have c67b0 : decide (0 ≤ (ji66)) = true := decide_eq_true c67
                                        clear c67
                                        (first | rw [c67b0] | rw [c67b2] | rw [c67b1] | (simp only [i64_w, i32_w]; rw [c67b0]) | skip)
                                        by_cases c68 : (ji66) < (x362001_1.length : Int)
                                        · rw [if_pos c68] at H
                                          have c68b0 : decide ((ji66) < (x362001_1.length : Int)) = true := decide_eq_true c68
                                          clear c68
                                          by_cases c69 : ((rd_T41 x362001_1 (ji66)).f0).size + 1 ≤ 9223372036854775807
                                          · rw [if_pos c69] at H
                                            have c69b0 := eq_true c69
                                            have c69b1 : decide (((rd_T41 x362001_1 (ji66)).f0).size + 1 ≤ 9223372036854775807) = true := decide_eq_true c69
                                            try have c69b2 : (9223372036854775807 < ((rd_T41 x362001_1 (ji66)).f0).size + 1) = False := eq_false (Nat.not_lt.2 c69)
                                            have H' := Aside0.mk H
                                            clear H
                                            have hnb70 := NB361_359.out
                                            have hnc70 := NB359_361.out
                                            have hnb71 := NB361_360.out
                                            have hnc71 := NB360_361.out
                                            have hnb72 := NB361_363.out
                                            have hnc72 := NB363_361.out
                                            have hcz73_0 : wc.cell? ⟨gb361, 0, none⟩ = some (.bool a0_0) := (blk_cell BK361.out 0).trans rfl
                                            have hcz73_1 : wc.cell? ⟨gb361, 1, none⟩ = some (.slice Ao52 x362001_1.length co52) := (blk_cell BK361.out 1).trans rfl
                                            have hfz73_0 := blk_frozen BK361.out 0
                                            have hfz73_1 := blk_frozen BK361.out 1
                                            have p365 : 0 ≤ ((ji66) : Int) := of_decide_eq_true (by first | (with_reducible assumption) | assumption)
                                            have q365 : (ji66) < (x362001_1.length : Int) := of_decide_eq_true (by first | (with_reducible assumption) | assumption)
                                            obtain ⟨ad365, e365, hx365_0, hx365_1, hx365_2⟩ := at_T41 (Kd.R_reads' HO_362001.out).2.2 (ji66) p365 q365
                                            cases e365
                                            replace p365 := eq_true p365
                                            replace q365 := eq_true q365
                                            have hnb74 := NB363_359.out
                                            have hnc74 := NB359_363.out
                                            have hnb75 := NB363_360.out
                                            have hnc75 := NB360_363.out
                                            have hcz76_0 : wc.cell? ⟨gb363, 0, none⟩ = some (.string ((⟨#[107]⟩ : ByteArray) ++ (((rd_T41 l0_1 x4_1).f0).extract 0 ((ji21) : Int).toNat))) := (blk_cell BK363.out 0).trans rfl
                                            have hcz76_1 : wc.cell? ⟨gb363, 1, none⟩ = some (.string x364001_27) := (blk_cell BK363.out 1).trans rfl
                                            have hcz76_2 : wc.cell? ⟨gb363, 2, none⟩ = some (.int .i64 x364002_27) := (blk_cell BK363.out 2).trans rfl
                                            have hfz76_0 := blk_frozen BK363.out 0
                                            have hfz76_1 := blk_frozen BK363.out 1
                                            have hfz76_2 := blk_frozen BK363.out 2
                                            go_wp2
                                            repeat (go_quiet (fail); try go_wp2)
                                            go_meet
                                            case rel => exact ⟨_, (((rd_T41 x362001_1 (ji66)).f0) ++ (⟨#[43]⟩ : ByteArray)), H', ⟨by have := HK1.out; have := HJ9.out; have := HJ27.out; have := HJ46.out; first | omega | exact Nat.le_refl _⟩, ⟨by exact Kd.R_mono (Kd.R_far (p := ⟨gb363, 0, none⟩) (Kd.R_mono HO_362001.out (fun k_ hk => (⟨hk, hk⟩ : _ ∧ k_ ≠ gb363))) (fun _ hk => hk.2) (.string (((rd_T41 x362001_1 (ji66)).f0) ++ (⟨#[43]⟩ : ByteArray)))) (fun _ hk => hk.1)⟩, ⟨by refine blk_far ?_ NB359_363.out _; exact BK359.out⟩, ⟨by refine blk_far ?_ NB360_363.out _; exact BK360.out⟩, ⟨by refine blk_far ?_ NB361_363.out _; exact BK361.out⟩, ⟨by refine blk_put (cs := #[.string ((⟨#[107]⟩ : ByteArray) ++ (((rd_T41 l0_1 x4_1).f0).extract 0 ((ji21) : Int).toNat)), .string x364001_27, .int .i64 x364002_27]) ?_ 0 _ rfl; exact BK363.out⟩, ⟨by repeat (first | (with_reducible first | exact HB.out | apply below_alloc | apply pw_below_drewN | apply below_drew1 | refine below_set ?_ GE359.out | refine below_set ?_ GE360.out | refine below_set ?_ GE361.out | refine below_set ?_ GE363.out) | exact HB.out)⟩⟩
                                          · rw [if_neg c69] at H
                                            exact absurd H (by simp)
                                        · rw [if_neg c68] at H
                                          exact absurd H (by simp)
                                      · rw [if_neg c67] at H
                                        exact absurd H (by simp)
                                    · replace c65 := Bool.eq_false_iff.mpr c65
                                      subst c65
                                      have H1 : (waybilllaw10_Tame.j4 kj46 x4_1 a0_0 l0_1 a0_0 x362001_1 ((⟨#[107]⟩ : ByteArray) ++ (((rd_T41 l0_1 x4_1).f0).extract 0 ((ji21) : Int).toNat)) x364001_27 x364002_27) = some (r1, r2) := by rw [if_neg (show ¬ (false = true) by decide)] at H; exact H
                                      clear H
                                      have H := H1
                                      clear H1
                                      have H' := Aside0.mk H
                                      clear H
                                      go_wp2
                                      repeat (go_quiet (fail); try go_wp2)
                                      go_meet
                                      case rel => exact ⟨_, (((⟨#[107]⟩ : ByteArray) ++ (((rd_T41 l0_1 x4_1).f0).extract 0 ((ji21) : Int).toNat))), H', ⟨by have := HK1.out; have := HJ9.out; have := HJ27.out; have := HJ46.out; first | omega | exact Nat.le_refl _⟩, ⟨by exact HO_362001.out⟩, ⟨by exact BK359.out⟩, ⟨by exact BK360.out⟩, ⟨by exact BK361.out⟩, ⟨by exact BK363.out⟩, ⟨by repeat (first | (with_reducible first | exact HB.out | apply below_alloc | apply pw_below_drewN | apply below_drew1 | refine below_set ?_ GE359.out | refine below_set ?_ GE360.out | refine below_set ?_ GE361.out | refine below_set ?_ GE363.out) | exact HB.out)⟩⟩
                                  case rest =>
                                    clear HC64
                                    try clear c1
                                    try clear c2
                                    try clear p2
                                    try clear c3
                                    try clear p3
                                    try clear q3
                                    try clear hx3
                                    try clear c4
                                    try clear c5
                                    try clear c6
                                    try clear p6
                                    try clear c7
                                    try clear c8
                                    try clear c11
                                    try clear c11b0
                                    try clear c12
                                    try clear c13
                                    try clear c15
                                    try clear c16
                                    try clear c18
                                    try clear c19
                                    try clear c19b0
                                    try clear c20
                                    try clear c20b0
                                    try clear c22
                                    try clear c22b0
                                    try clear c22b1
                                    try clear c23
                                    try clear c23b0
                                    try clear c23b1
                                    try clear c24
                                    try clear c24b0
                                    try clear c24b1
                                    try clear c24b2
                                    try clear c26
                                    try clear c26b0
                                    try clear c26b1
                                    try clear c27
                                    try clear c27b0
                                    try clear c27b1
                                    try clear c29
                                    try clear c30
                                    try clear c33
                                    try clear c34
                                    try clear c35
                                    try clear p36
                                    try clear q36
                                    try clear hx36
                                    try clear c38
                                    try clear c39
                                    try clear c40
                                    try clear c41
                                    try clear c43
                                    try clear c44
                                    try clear c45
                                    try clear c48
                                    try clear c49
                                    try clear c50
                                    try clear c53
                                    try clear c53b0
                                    try clear c53b1
                                    try clear c55
                                    try clear c55b0
                                    try clear c56
                                    try clear c56b0
                                    try clear c57
                                    try clear c58
                                    try clear c59
                                    try clear c61
                                    try clear c62
                                    try clear p64
                                    try clear c65
                                    try clear c67
                                    try clear c67b0
                                    try clear c68
                                    try clear c68b0
                                    try clear c69
                                    try clear c69b0
                                    try clear c69b1
                                    try clear c69b2
                                    try clear c70
                                    try clear c71
                                    try clear c72
                                    try clear c74
                                    try clear c75
                                    try clear hcz14_0
                                    try clear hcz14_1
                                    try clear hcz17_0
                                    try clear hcz17_1
                                    try clear hcz31_0
                                    try clear hcz31_1
                                    try clear hcz36_0
                                    try clear hcz36_1
                                    try clear hcz36_2
                                    try clear hcz37_0
                                    try clear hcz37_1
                                    try clear hcz42_0
                                    try clear hcz42_1
                                    try clear hcz42_2
                                    try clear hcz46_0
                                    try clear hcz46_1
                                    try clear hcz46_2
                                    try clear hcz51_0
                                    try clear hcz51_1
                                    try clear hcz5_0
                                    try clear hcz5_1
                                    try clear hcz60_0
                                    try clear hcz60_1
                                    try clear hcz63_0
                                    try clear hcz63_1
                                    try clear hcz63_2
                                    try clear hcz73_0
                                    try clear hcz73_1
                                    try clear hcz76_0
                                    try clear hcz76_1
                                    try clear hcz76_2
                                    try clear hcz9_0
                                    try clear hcz9_1
                                    try clear hfz14_0
                                    try clear hfz14_1
                                    try clear hfz17_0
                                    try clear hfz17_1
                                    try clear hfz31_0
                                    try clear hfz31_1
                                    try clear hfz36_0
                                    try clear hfz36_1
                                    try clear hfz36_2
                                    try clear hfz37_0
                                    try clear hfz37_1
                                    try clear hfz42_0
                                    try clear hfz42_1
                                    try clear hfz42_2
                                    try clear hfz46_0
                                    try clear hfz46_1
                                    try clear hfz46_2
                                    try clear hfz51_0
                                    try clear hfz51_1
                                    try clear hfz5_0
                                    try clear hfz5_1
                                    try clear hfz60_0
                                    try clear hfz60_1
                                    try clear hfz63_0
                                    try clear hfz63_1
                                    try clear hfz63_2
                                    try clear hfz73_0
                                    try clear hfz73_1
                                    try clear hfz76_0
                                    try clear hfz76_1
                                    try clear hfz76_2
                                    try clear hfz9_0
                                    try clear hfz9_1
                                    try clear hx362_0
                                    try clear hx362_1
                                    try clear hx362_2
                                    try clear hx364_0
                                    try clear hx364_1
                                    try clear hx364_2
                                    try clear hx365_0
                                    try clear hx365_1
                                    try clear hx365_2
                                    try clear p2
                                    try clear p3
                                    try clear p36
                                    try clear p362
                                    try clear p364
                                    try clear p365
                                    try clear p6
                                    try clear q3
                                    try clear q36
                                    try clear q362
                                    try clear q364
                                    try clear q365
                                    obtain ⟨kq, x364000_63, HA, HJ63, HO_362001, BK359, BK360, BK361, BK363, HB⟩ := hcut
                                    cases kq with
                                    | zero => exact absurd HA.out (by simp [waybilllaw10_Tame.j4])
                                    | succ kj63 =>
                                      have H := HA.out
                                      clear HA
                                      simp only [waybilllaw10_Tame.j4] at H
                                      by_cases c77 : (x364000_63.size : Int) > 130
                                      · rw [if_pos c77] at H
                                        have c77b0 : decide (130 < (x364000_63.size : Int)) = true := decide_eq_true c77
                                        have c77b1 : decide (130 < x364000_63.size) = true := decide_eq_true (by omega)
                                        clear c77
                                        simp only [Option.some.injEq, Prod.mk.injEq] at H
                                        obtain ⟨rfl, rfl⟩ := H
                                        have hnb78 := NB363_359.out
                                        have hnc78 := NB359_363.out
                                        have hnb79 := NB363_360.out
                                        have hnc79 := NB360_363.out
                                        have hnb80 := NB363_361.out
                                        have hnc80 := NB361_363.out
                                        have hcz81_0 : wc.cell? ⟨gb363, 0, none⟩ = some (.string x364000_63) := (blk_cell BK363.out 0).trans rfl
                                        have hcz81_1 : wc.cell? ⟨gb363, 1, none⟩ = some (.string x364001_27) := (blk_cell BK363.out 1).trans rfl
                                        have hcz81_2 : wc.cell? ⟨gb363, 2, none⟩ = some (.int .i64 x364002_27) := (blk_cell BK363.out 2).trans rfl
                                        have hfz81_0 := blk_frozen BK363.out 0
                                        have hfz81_1 := blk_frozen BK363.out 1
                                        have hfz81_2 := blk_frozen BK363.out 2
                                        have hnb82 := NB361_359.out
                                        have hnc82 := NB359_361.out
                                        have hnb83 := NB361_360.out
                                        have hnc83 := NB360_361.out
                                        have hcz84_0 : wc.cell? ⟨gb361, 0, none⟩ = some (.bool a0_0) := (blk_cell BK361.out 0).trans rfl
                                        have hcz84_1 : wc.cell? ⟨gb361, 1, none⟩ = some (.slice Ao52 x362001_1.length co52) := (blk_cell BK361.out 1).trans rfl
                                        have hfz84_0 := blk_frozen BK361.out 0
                                        have hfz84_1 := blk_frozen BK361.out 1
                                        have hnb85 := NB360_359.out
                                        have hnc85 := NB359_360.out
                                        have hcz86_0 : wc.cell? ⟨gb360, 0, none⟩ = some (.bool false) := (blk_cell BK360.out 0).trans rfl
                                        have hcz86_1 : wc.cell? ⟨gb360, 1, none⟩ = some (.slice none 0 0) := (blk_cell BK360.out 1).trans rfl
                                        have hfz86_0 := blk_frozen BK360.out 0
                                        have hfz86_1 := blk_frozen BK360.out 1
                                        go_wp2
                                        repeat (go_quiet (fail); try go_wp2)
                                        refine bodyPost_ret (results_cell_row rfl _ _ gb360 44 #[.bool a0_0, .slice Ao52 x362001_1.length co52] (0, 0) _ rfl (by refine blk_put (cs := #[.bool a0_0, .slice none 0 0]) ?_ 1 _ rfl; refine blk_put (cs := #[.bool false, .slice none 0 0]) ?_ 0 _ rfl; exact BK360.out) Try.underlying44 rfl (by kernel_rfl)) rfl ?_
                                        exact ⟨_, by first | rfl | (simp [errW_none, errW_some]; done) | (simp [errW_none, errW_some]; rfl) | (simp only [← hji21, ← hji25]; first | rfl | (simp [errW_none, errW_some]; done) | (simp [errW_none, errW_some]; rfl)) | (simp [*, errW_none, errW_some]; done) | (simp [*, errW_none, errW_some]; rfl), by exact Kd.R_mono (Kd.R_far (p := ⟨gb360, 1, none⟩) (Kd.R_far (p := ⟨gb360, 0, none⟩) (Kd.R_types HO_362001.out BK360.out (by decide)) (fun _ hk => hk.2) (.bool a0_0)) (fun _ hk => hk.2) (.slice Ao52 x362001_1.length co52)) (fun _ hk => trivial), by repeat (first | (with_reducible first | exact HB.out | apply below_alloc | apply pw_below_drewN | apply below_drew1 | refine below_set ?_ GE359.out | refine below_set ?_ GE360.out | refine below_set ?_ GE361.out | refine below_set ?_ GE363.out) | exact HB.out)⟩
                                      · rw [if_neg c77] at H
                                        have c77b0 : decide (130 < (x364000_63.size : Int)) = false := decide_eq_false c77
                                        have c77b1 : decide (130 < x364000_63.size) = false := decide_eq_false (by omega)
                                        clear c77
                                        by_cases c87 : x362001_1.length < 3518437208883
                                        · rw [if_pos c87] at H
                                          have LMc87 := Aside0.mk c87
                                          clear c87
                                          obtain ⟨y366, hy366⟩ : ∃ y_ : List (S41), y_ = (x362001_1 ++ [(⟨x364000_63, x364001_27, x364002_27⟩ : S41)]) := ⟨_, rfl⟩
                                          replace H : ((waybillref7_NodeSize.f kj63 a0_0 y366).bind fun t369 => (if t369 > 512 then (if 0 ≤ (wrap64 ((y366.length : Int) - 1)) then (if (wrap64 ((y366.length : Int) - 1)) ≤ (y366.length : Int) then (some (a0_0, (y366.take ((wrap64 ((y366.length : Int) - 1)) : Int).toNat))) else (none)) else (none)) else (waybilllaw10_Tame.l0 kj63 (wrap64 (x4_1 + 1)) a0_0 l0_1 a0_0 y366))) = some (r1, r2) := by first | (rw [hy366]; with_reducible exact H) | (have H2_ := (Option.bind_some _ _).symm.trans H; rw [hy366]; with_reducible exact H2_) | (have H2_ := (Option.bind_some _ _).symm.trans H; with_reducible exact H2_) | with_reducible exact H | (rw [hy366]; exact H) | exact H
                                          have Ny366 := Aside0.mk hy366
                                          clear hy366
                                          replace H := Option.bind_eq_some_iff.mp H
                                          obtain ⟨t369, A880, H⟩ := H
                                          replace H : (if t369 > 512 then (if 0 ≤ (wrap64 ((y366.length : Int) - 1)) then (if (wrap64 ((y366.length : Int) - 1)) ≤ (y366.length : Int) then (some (a0_0, (y366.take ((wrap64 ((y366.length : Int) - 1)) : Int).toNat))) else (none)) else (none)) else (waybilllaw10_Tame.l0 kj63 (wrap64 (x4_1 + 1)) a0_0 l0_1 a0_0 y366)) = some (r1, r2) := H
                                          have A88 := Aside0.mk A880
                                          clear A880
                                          by_cases c89 : t369 > 512
                                          · rw [if_pos c89] at H
                                            have c89b0 : decide (512 < t369) = true := decide_eq_true c89
                                            clear c89
                                            obtain ⟨ji90, hji90⟩ : ∃ j_ : Int, (wrap64 ((y366.length : Int) - 1)) = j_ := ⟨_, rfl⟩
                                            replace H : (if 0 ≤ (ji90) then (if (ji90) ≤ (y366.length : Int) then (some (a0_0, (y366.take ((ji90) : Int).toNat))) else (none)) else (none)) = some (r1, r2) := by first | (rw [hji90] at H; exact H) | (simp only [hji90] at H ⊢; exact H)
                                            (try rw [hji90] at A88)
                                            have hji90w : (IntKind.i64.wrap ((y366.length : Int) - 1)) = ji90 := (i64_w _).trans hji90
                                            by_cases c91 : 0 ≤ (ji90)
                                            · rw [if_pos c91] at H
                                              have c91b0 := eq_true c91
                                              have c91b1 : decide (0 ≤ (ji90)) = true := decide_eq_true c91
                                              clear c91
                                              by_cases c92 : (ji90) ≤ (y366.length : Int)
                                              · rw [if_pos c92] at H
                                                have c92b0 := eq_true c92
                                                have c92b1 : decide ((ji90) ≤ (y366.length : Int)) = true := decide_eq_true c92
                                                clear c92
                                                obtain ⟨y370, hy370⟩ : ∃ y_ : List (S41), y_ = (y366.take ((ji90) : Int).toNat) := ⟨_, rfl⟩
                                                replace H : (some (a0_0, y370)) = some (r1, r2) := by first | (rw [hy370]; with_reducible exact H) | (have H2_ := (Option.bind_some _ _).symm.trans H; rw [hy370]; with_reducible exact H2_) | (have H2_ := (Option.bind_some _ _).symm.trans H; with_reducible exact H2_) | with_reducible exact H | (rw [hy370]; exact H) | exact H
                                                have Ny370 := Aside0.mk hy370
                                                clear hy370
                                                simp only [Option.some.injEq, Prod.mk.injEq] at H
                                                obtain ⟨rfl, rfl⟩ := H
                                                have hnb93 := NB363_359.out
                                                have hnc93 := NB359_363.out
                                                have hnb94 := NB363_360.out
                                                have hnc94 := NB360_363.out
                                                have hnb95 := NB363_361.out
                                                have hnc95 := NB361_363.out
                                                have hcz96_0 : wc.cell? ⟨gb363, 0, none⟩ = some (.string x364000_63) := (blk_cell BK363.out 0).trans rfl
                                                have hcz96_1 : wc.cell? ⟨gb363, 1, none⟩ = some (.string x364001_27) := (blk_cell BK363.out 1).trans rfl
                                                have hcz96_2 : wc.cell? ⟨gb363, 2, none⟩ = some (.int .i64 x364002_27) := (blk_cell BK363.out 2).trans rfl
                                                have hfz96_0 := blk_frozen BK363.out 0
                                                have hfz96_1 := blk_frozen BK363.out 1
                                                have hfz96_2 := blk_frozen BK363.out 2
                                                have hnb97 := NB361_359.out
                                                have hnc97 := NB359_361.out
                                                have hnb98 := NB361_360.out
                                                have hnc98 := NB360_361.out
                                                have hcz99_0 : wc.cell? ⟨gb361, 0, none⟩ = some (.bool a0_0) := (blk_cell BK361.out 0).trans rfl
                                                have hcz99_1 : wc.cell? ⟨gb361, 1, none⟩ = some (.slice Ao52 x362001_1.length co52) := (blk_cell BK361.out 1).trans rfl
                                                have hfz99_0 := blk_frozen BK361.out 0
                                                have hfz99_1 := blk_frozen BK361.out 1
                                                go_wp2_with (first | ((with_reducible refine gate_builtin (b := .append) (xs := #[.tmp 83, .tmp 85]) rfl ?_); at_builtin; refine Kd.R_append k41 (w0 := w) w.heap.size rfl (.tmp 83) (.tmp 85) 42 41 (.agg #[(.string ⟨#[]⟩), (.string ⟨#[]⟩), (.int .i64 0)]) 40 rfl Try.underlying42 info41 rfl (by decide) (by omega) (.slice Ao52 x362001_1.length co52) x362001_1 (⟨x364000_63, x364001_27, x364002_27⟩ : S41) [.string x364000_63, .string x364001_27, .int .i64 x364002_27] (fun k_ => k_ ≠ gb363) (fun _ => False) rfl rfl ?aP (fun _ hk => hk.elim) ?aF ?aO ?aB ?aS ?aL ?_; (case aP => exact k41_mkM _ _ _ (⟨x364000_63, x364001_27, x364002_27⟩ : S41)); (case aB => exact (by repeat (first | (with_reducible first | exact HB.out | apply below_alloc | apply pw_below_drewN | apply below_drew1 | refine below_set ?_ GE359.out | refine below_set ?_ GE360.out | refine below_set ?_ GE361.out | refine below_set ?_ GE363.out) | exact HB.out))); (case aF => exact (fun k_ hk => Kd.freshB (g := gb363) (o := .cells #[.string x364000_63, .string x364001_27, .int .i64 x364002_27] 41 (0, 0)) (by exact BK363.out) k_ hk)); (case aO => exact (by exact HO_362001.out)); (case aS => exact (below_size (by repeat (first | (with_reducible first | exact HB.out | apply below_alloc | apply pw_below_drewN | apply below_drew1 | refine below_set ?_ GE359.out | refine below_set ?_ GE360.out | refine below_set ?_ GE361.out | refine below_set ?_ GE363.out) | exact HB.out)))); (case aL => have := LMc87.out; omega); intro v367 w100 ho hb hg hat; rw [← Ny366.out] at ho; have n0_ := Aside0.mk (blk_grown (g := gb359) (o := .cells #[.bool a0_0, .slice (some ad362) l0_1.length c0_1] 44 (0, 0)) (by exact BK359.out) hg (Kd.R_ne HO_362001.out BK359.out (by decide))); have n1_ := Aside0.mk (blk_grown (g := gb360) (o := .cells #[.bool false, .slice none 0 0] 44 (0, 0)) (by exact BK360.out) hg (Kd.R_ne HO_362001.out BK360.out (by decide))); have n2_ := Aside0.mk (blk_grown (g := gb361) (o := .cells #[.bool a0_0, .slice Ao52 x362001_1.length co52] 44 (0, 0)) (by exact BK361.out) hg (Kd.R_ne HO_362001.out BK361.out (by decide))); have n3_ := Aside0.mk (blk_grown (g := gb363) (o := .cells #[.string x364000_63, .string x364001_27, .int .i64 x364002_27] 41 (0, 0)) (by exact BK363.out) hg (Kd.R_away HO_362001.out (fun _ hk => hk))); have n4_ := Aside0.mk (hb); have n5_ := Aside0.mk (ho); clear BK359; clear BK360; clear BK361; clear BK363; clear HB; clear HO_362001; have BK359 := n0_; have BK360 := n1_; have BK361 := n2_; have BK363 := n3_; have HB := n4_; have HO368 := n5_; clear n0_ n1_ n2_ n3_ n4_ n5_; clear ho hb hg hat; obtain ⟨Ao101, co101, eo101⟩ := Kd.R_slice HO368.out; subst eo101; have hcz102_0 : w100.cell? ⟨gb361, 0, none⟩ = some (.bool a0_0) := (blk_cell BK361.out 0).trans rfl; have hcz102_1 : w100.cell? ⟨gb361, 1, none⟩ = some (.slice Ao52 x362001_1.length co52) := (blk_cell BK361.out 1).trans rfl; have hfz102_0 := blk_frozen BK361.out 0; have hfz102_1 := blk_frozen BK361.out 1) | (go_at_call 25; (with_reducible refine (waybillref7_NodeSize.calls kj63 a0_0 _ _ y366 t369 _ ?side1 ?side2 A88.out).mono ?_); (case side1 => refine (Kd.R_reads' (e := 41) (base := w.heap.size) (ok := fun k_ => k_ ≠ gb363) (n := y366.length) (c := co101) ?_).2.2; exact (by exact (Kd.R_mono (Kd.R_far (p := ⟨gb361, 1, none⟩) (Kd.R_types HO368.out BK361.out (by decide)) (fun _ hk => hk.2) (.slice Ao101 y366.length co101)) (fun _ h_ => h_.1)))); (case side2 => exact (Kd.R_reads' HO368.out).2.1); rintro e w103 ⟨rfl, hb⟩; have n0_ := Aside0.mk (Kd.R_below (by exact (Kd.R_mono (Kd.R_far (p := ⟨gb361, 1, none⟩) (Kd.R_types HO368.out BK361.out (by decide)) (fun _ hk => hk.2) (.slice Ao101 y366.length co101)) (fun _ h_ => h_.1))) hb); have n1_ := Aside0.mk (blk_below (g := gb359) (o := .cells #[.bool a0_0, .slice (some ad362) l0_1.length c0_1] 44 (0, 0)) (by refine blk_far ?_ NB359_361.out _; exact BK359.out) hb); have n2_ := Aside0.mk (blk_below (g := gb360) (o := .cells #[.bool false, .slice none 0 0] 44 (0, 0)) (by refine blk_far ?_ NB360_361.out _; exact BK360.out) hb); have n3_ := Aside0.mk (blk_below (g := gb361) (o := .cells #[.bool a0_0, .slice Ao101 y366.length co101] 44 (0, 0)) (by refine blk_put (cs := #[.bool a0_0, .slice Ao52 x362001_1.length co52]) ?_ 1 _ rfl; exact BK361.out) hb); have n4_ := Aside0.mk (blk_below (g := gb363) (o := .cells #[.string x364000_63, .string x364001_27, .int .i64 x364002_27] 41 (0, 0)) (by refine blk_far ?_ NB363_361.out _; exact BK363.out) hb); have n5_ := Aside0.mk (below_step (by repeat (first | (with_reducible first | exact HB.out | apply below_alloc | apply pw_below_drewN | apply below_drew1 | refine below_set ?_ GE359.out | refine below_set ?_ GE360.out | refine below_set ?_ GE361.out | refine below_set ?_ GE363.out) | exact HB.out)) hb); clear HO368; clear BK359; clear BK360; clear BK361; clear BK363; clear HB; have HO368 := n0_; have BK359 := n1_; have BK360 := n2_; have BK361 := n3_; have BK363 := n4_; have HB := n5_; clear n0_ n1_ n2_ n3_ n4_ n5_; (try clear hb); (try clear hb2); (try clear hk); (try clear hi); (try clear hge); have hcz104_0 : w103.cell? ⟨gb361, 0, none⟩ = some (.bool a0_0) := (blk_cell BK361.out 0).trans rfl; have hcz104_1 : w103.cell? ⟨gb361, 1, none⟩ = some (.slice Ao101 y366.length co101) := (blk_cell BK361.out 1).trans rfl; have hfz104_0 := blk_frozen BK361.out 0; have hfz104_1 := blk_frozen BK361.out 1; have q105 : ((ji90) : Int) ≤ ((y366.length : Int) : Int) := of_decide_eq_true (by first | (with_reducible assumption) | assumption); obtain ⟨i0105, hi0105, _, hsz105, _⟩ := info_parts info41; have hcut105 := cut_to (P := Try.prog) 42 41 .i64 Try.underlying42 hi0105 Ao101 y366.length co101 (ji90) (of_decide_eq_true (by first | (with_reducible assumption) | assumption)) q105 (Kd.R_reads' HO368.out).2.1; have hr105 := Kd.R_take (m := ((ji90) : Int).toNat) HO368.out (by omega); have hy105 : y370.length = ((ji90) : Int).toNat := (by rw [Ny370.out, List.length_take]; omega); rw [← Ny370.out] at hr105; rw [← hy105] at hr105 hcut105; clear hy105 hi0105 hsz105 HO368; have HO372 := Aside0.mk hr105; clear hr105; replace q105 := eq_true q105; have hnb106 := NB360_359.out; have hnc106 := NB359_360.out; have hcz107_0 : w103.cell? ⟨gb360, 0, none⟩ = some (.bool false) := (blk_cell BK360.out 0).trans rfl; have hcz107_1 : w103.cell? ⟨gb360, 1, none⟩ = some (.slice none 0 0) := (blk_cell BK360.out 1).trans rfl; have hfz107_0 := blk_frozen BK360.out 0; have hfz107_1 := blk_frozen BK360.out 1))
                                                repeat (go_quiet (first | ((with_reducible refine gate_builtin (b := .append) (xs := #[.tmp 83, .tmp 85]) rfl ?_); at_builtin; refine Kd.R_append k41 (w0 := w) w.heap.size rfl (.tmp 83) (.tmp 85) 42 41 (.agg #[(.string ⟨#[]⟩), (.string ⟨#[]⟩), (.int .i64 0)]) 40 rfl Try.underlying42 info41 rfl (by decide) (by omega) (.slice Ao52 x362001_1.length co52) x362001_1 (⟨x364000_63, x364001_27, x364002_27⟩ : S41) [.string x364000_63, .string x364001_27, .int .i64 x364002_27] (fun k_ => k_ ≠ gb363) (fun _ => False) rfl rfl ?aP (fun _ hk => hk.elim) ?aF ?aO ?aB ?aS ?aL ?_; (case aP => exact k41_mkM _ _ _ (⟨x364000_63, x364001_27, x364002_27⟩ : S41)); (case aB => exact (by repeat (first | (with_reducible first | exact HB.out | apply below_alloc | apply pw_below_drewN | apply below_drew1 | refine below_set ?_ GE359.out | refine below_set ?_ GE360.out | refine below_set ?_ GE361.out | refine below_set ?_ GE363.out) | exact HB.out))); (case aF => exact (fun k_ hk => Kd.freshB (g := gb363) (o := .cells #[.string x364000_63, .string x364001_27, .int .i64 x364002_27] 41 (0, 0)) (by exact BK363.out) k_ hk)); (case aO => exact (by exact HO_362001.out)); (case aS => exact (below_size (by repeat (first | (with_reducible first | exact HB.out | apply below_alloc | apply pw_below_drewN | apply below_drew1 | refine below_set ?_ GE359.out | refine below_set ?_ GE360.out | refine below_set ?_ GE361.out | refine below_set ?_ GE363.out) | exact HB.out)))); (case aL => have := LMc87.out; omega); intro v367 w100 ho hb hg hat; rw [← Ny366.out] at ho; have n0_ := Aside0.mk (blk_grown (g := gb359) (o := .cells #[.bool a0_0, .slice (some ad362) l0_1.length c0_1] 44 (0, 0)) (by exact BK359.out) hg (Kd.R_ne HO_362001.out BK359.out (by decide))); have n1_ := Aside0.mk (blk_grown (g := gb360) (o := .cells #[.bool false, .slice none 0 0] 44 (0, 0)) (by exact BK360.out) hg (Kd.R_ne HO_362001.out BK360.out (by decide))); have n2_ := Aside0.mk (blk_grown (g := gb361) (o := .cells #[.bool a0_0, .slice Ao52 x362001_1.length co52] 44 (0, 0)) (by exact BK361.out) hg (Kd.R_ne HO_362001.out BK361.out (by decide))); have n3_ := Aside0.mk (blk_grown (g := gb363) (o := .cells #[.string x364000_63, .string x364001_27, .int .i64 x364002_27] 41 (0, 0)) (by exact BK363.out) hg (Kd.R_away HO_362001.out (fun _ hk => hk))); have n4_ := Aside0.mk (hb); have n5_ := Aside0.mk (ho); clear BK359; clear BK360; clear BK361; clear BK363; clear HB; clear HO_362001; have BK359 := n0_; have BK360 := n1_; have BK361 := n2_; have BK363 := n3_; have HB := n4_; have HO368 := n5_; clear n0_ n1_ n2_ n3_ n4_ n5_; clear ho hb hg hat; obtain ⟨Ao101, co101, eo101⟩ := Kd.R_slice HO368.out; subst eo101; have hcz102_0 : w100.cell? ⟨gb361, 0, none⟩ = some (.bool a0_0) := (blk_cell BK361.out 0).trans rfl; have hcz102_1 : w100.cell? ⟨gb361, 1, none⟩ = some (.slice Ao52 x362001_1.length co52) := (blk_cell BK361.out 1).trans rfl; have hfz102_0 := blk_frozen BK361.out 0; have hfz102_1 := blk_frozen BK361.out 1) | (go_at_call 25; (with_reducible refine (waybillref7_NodeSize.calls kj63 a0_0 _ _ y366 t369 _ ?side1 ?side2 A88.out).mono ?_); (case side1 => refine (Kd.R_reads' (e := 41) (base := w.heap.size) (ok := fun k_ => k_ ≠ gb363) (n := y366.length) (c := co101) ?_).2.2; exact (by exact (Kd.R_mono (Kd.R_far (p := ⟨gb361, 1, none⟩) (Kd.R_types HO368.out BK361.out (by decide)) (fun _ hk => hk.2) (.slice Ao101 y366.length co101)) (fun _ h_ => h_.1)))); (case side2 => exact (Kd.R_reads' HO368.out).2.1); rintro e w103 ⟨rfl, hb⟩; have n0_ := Aside0.mk (Kd.R_below (by exact (Kd.R_mono (Kd.R_far (p := ⟨gb361, 1, none⟩) (Kd.R_types HO368.out BK361.out (by decide)) (fun _ hk => hk.2) (.slice Ao101 y366.length co101)) (fun _ h_ => h_.1))) hb); have n1_ := Aside0.mk (blk_below (g := gb359) (o := .cells #[.bool a0_0, .slice (some ad362) l0_1.length c0_1] 44 (0, 0)) (by refine blk_far ?_ NB359_361.out _; exact BK359.out) hb); have n2_ := Aside0.mk (blk_below (g := gb360) (o := .cells #[.bool false, .slice none 0 0] 44 (0, 0)) (by refine blk_far ?_ NB360_361.out _; exact BK360.out) hb); have n3_ := Aside0.mk (blk_below (g := gb361) (o := .cells #[.bool a0_0, .slice Ao101 y366.length co101] 44 (0, 0)) (by refine blk_put (cs := #[.bool a0_0, .slice Ao52 x362001_1.length co52]) ?_ 1 _ rfl; exact BK361.out) hb); have n4_ := Aside0.mk (blk_below (g := gb363) (o := .cells #[.string x364000_63, .string x364001_27, .int .i64 x364002_27] 41 (0, 0)) (by refine blk_far ?_ NB363_361.out _; exact BK363.out) hb); have n5_ := Aside0.mk (below_step (by repeat (first | (with_reducible first | exact HB.out | apply below_alloc | apply pw_below_drewN | apply below_drew1 | refine below_set ?_ GE359.out | refine below_set ?_ GE360.out | refine below_set ?_ GE361.out | refine below_set ?_ GE363.out) | exact HB.out)) hb); clear HO368; clear BK359; clear BK360; clear BK361; clear BK363; clear HB; have HO368 := n0_; have BK359 := n1_; have BK360 := n2_; have BK361 := n3_; have BK363 := n4_; have HB := n5_; clear n0_ n1_ n2_ n3_ n4_ n5_; (try clear hb); (try clear hb2); (try clear hk); (try clear hi); (try clear hge); have hcz104_0 : w103.cell? ⟨gb361, 0, none⟩ = some (.bool a0_0) := (blk_cell BK361.out 0).trans rfl; have hcz104_1 : w103.cell? ⟨gb361, 1, none⟩ = some (.slice Ao101 y366.length co101) := (blk_cell BK361.out 1).trans rfl; have hfz104_0 := blk_frozen BK361.out 0; have hfz104_1 := blk_frozen BK361.out 1; have q105 : ((ji90) : Int) ≤ ((y366.length : Int) : Int) := of_decide_eq_true (by first | (with_reducible assumption) | assumption); obtain ⟨i0105, hi0105, _, hsz105, _⟩ := info_parts info41; have hcut105 := cut_to (P := Try.prog) 42 41 .i64 Try.underlying42 hi0105 Ao101 y366.length co101 (ji90) (of_decide_eq_true (by first | (with_reducible assumption) | assumption)) q105 (Kd.R_reads' HO368.out).2.1; have hr105 := Kd.R_take (m := ((ji90) : Int).toNat) HO368.out (by omega); have hy105 : y370.length = ((ji90) : Int).toNat := (by rw [Ny370.out, List.length_take]; omega); rw [← Ny370.out] at hr105; rw [← hy105] at hr105 hcut105; clear hy105 hi0105 hsz105 HO368; have HO372 := Aside0.mk hr105; clear hr105; replace q105 := eq_true q105; have hnb106 := NB360_359.out; have hnc106 := NB359_360.out; have hcz107_0 : w103.cell? ⟨gb360, 0, none⟩ = some (.bool false) := (blk_cell BK360.out 0).trans rfl; have hcz107_1 : w103.cell? ⟨gb360, 1, none⟩ = some (.slice none 0 0) := (blk_cell BK360.out 1).trans rfl; have hfz107_0 := blk_frozen BK360.out 0; have hfz107_1 := blk_frozen BK360.out 1)); try go_wp2_with (first | ((with_reducible refine gate_builtin (b := .append) (xs := #[.tmp 83, .tmp 85]) rfl ?_); at_builtin; refine Kd.R_append k41 (w0 := w) w.heap.size rfl (.tmp 83) (.tmp 85) 42 41 (.agg #[(.string ⟨#[]⟩), (.string ⟨#[]⟩), (.int .i64 0)]) 40 rfl Try.underlying42 info41 rfl (by decide) (by omega) (.slice Ao52 x362001_1.length co52) x362001_1 (⟨x364000_63, x364001_27, x364002_27⟩ : S41) [.string x364000_63, .string x364001_27, .int .i64 x364002_27] (fun k_ => k_ ≠ gb363) (fun _ => False) rfl rfl ?aP (fun _ hk => hk.elim) ?aF ?aO ?aB ?aS ?aL ?_; (case aP => exact k41_mkM _ _ _ (⟨x364000_63, x364001_27, x364002_27⟩ : S41)); (case aB => exact (by repeat (first | (with_reducible first | exact HB.out | apply below_alloc | apply pw_below_drewN | apply below_drew1 | refine below_set ?_ GE359.out | refine below_set ?_ GE360.out | refine below_set ?_ GE361.out | refine below_set ?_ GE363.out) | exact HB.out))); (case aF => exact (fun k_ hk => Kd.freshB (g := gb363) (o := .cells #[.string x364000_63, .string x364001_27, .int .i64 x364002_27] 41 (0, 0)) (by exact BK363.out) k_ hk)); (case aO => exact (by exact HO_362001.out)); (case aS => exact (below_size (by repeat (first | (with_reducible first | exact HB.out | apply below_alloc | apply pw_below_drewN | apply below_drew1 | refine below_set ?_ GE359.out | refine below_set ?_ GE360.out | refine below_set ?_ GE361.out | refine below_set ?_ GE363.out) | exact HB.out)))); (case aL => have := LMc87.out; omega); intro v367 w100 ho hb hg hat; rw [← Ny366.out] at ho; have n0_ := Aside0.mk (blk_grown (g := gb359) (o := .cells #[.bool a0_0, .slice (some ad362) l0_1.length c0_1] 44 (0, 0)) (by exact BK359.out) hg (Kd.R_ne HO_362001.out BK359.out (by decide))); have n1_ := Aside0.mk (blk_grown (g := gb360) (o := .cells #[.bool false, .slice none 0 0] 44 (0, 0)) (by exact BK360.out) hg (Kd.R_ne HO_362001.out BK360.out (by decide))); have n2_ := Aside0.mk (blk_grown (g := gb361) (o := .cells #[.bool a0_0, .slice Ao52 x362001_1.length co52] 44 (0, 0)) (by exact BK361.out) hg (Kd.R_ne HO_362001.out BK361.out (by decide))); have n3_ := Aside0.mk (blk_grown (g := gb363) (o := .cells #[.string x364000_63, .string x364001_27, .int .i64 x364002_27] 41 (0, 0)) (by exact BK363.out) hg (Kd.R_away HO_362001.out (fun _ hk => hk))); have n4_ := Aside0.mk (hb); have n5_ := Aside0.mk (ho); clear BK359; clear BK360; clear BK361; clear BK363; clear HB; clear HO_362001; have BK359 := n0_; have BK360 := n1_; have BK361 := n2_; have BK363 := n3_; have HB := n4_; have HO368 := n5_; clear n0_ n1_ n2_ n3_ n4_ n5_; clear ho hb hg hat; obtain ⟨Ao101, co101, eo101⟩ := Kd.R_slice HO368.out; subst eo101; have hcz102_0 : w100.cell? ⟨gb361, 0, none⟩ = some (.bool a0_0) := (blk_cell BK361.out 0).trans rfl; have hcz102_1 : w100.cell? ⟨gb361, 1, none⟩ = some (.slice Ao52 x362001_1.length co52) := (blk_cell BK361.out 1).trans rfl; have hfz102_0 := blk_frozen BK361.out 0; have hfz102_1 := blk_frozen BK361.out 1) | (go_at_call 25; (with_reducible refine (waybillref7_NodeSize.calls kj63 a0_0 _ _ y366 t369 _ ?side1 ?side2 A88.out).mono ?_); (case side1 => refine (Kd.R_reads' (e := 41) (base := w.heap.size) (ok := fun k_ => k_ ≠ gb363) (n := y366.length) (c := co101) ?_).2.2; exact (by exact (Kd.R_mono (Kd.R_far (p := ⟨gb361, 1, none⟩) (Kd.R_types HO368.out BK361.out (by decide)) (fun _ hk => hk.2) (.slice Ao101 y366.length co101)) (fun _ h_ => h_.1)))); (case side2 => exact (Kd.R_reads' HO368.out).2.1); rintro e w103 ⟨rfl, hb⟩; have n0_ := Aside0.mk (Kd.R_below (by exact (Kd.R_mono (Kd.R_far (p := ⟨gb361, 1, none⟩) (Kd.R_types HO368.out BK361.out (by decide)) (fun _ hk => hk.2) (.slice Ao101 y366.length co101)) (fun _ h_ => h_.1))) hb); have n1_ := Aside0.mk (blk_below (g := gb359) (o := .cells #[.bool a0_0, .slice (some ad362) l0_1.length c0_1] 44 (0, 0)) (by refine blk_far ?_ NB359_361.out _; exact BK359.out) hb); have n2_ := Aside0.mk (blk_below (g := gb360) (o := .cells #[.bool false, .slice none 0 0] 44 (0, 0)) (by refine blk_far ?_ NB360_361.out _; exact BK360.out) hb); have n3_ := Aside0.mk (blk_below (g := gb361) (o := .cells #[.bool a0_0, .slice Ao101 y366.length co101] 44 (0, 0)) (by refine blk_put (cs := #[.bool a0_0, .slice Ao52 x362001_1.length co52]) ?_ 1 _ rfl; exact BK361.out) hb); have n4_ := Aside0.mk (blk_below (g := gb363) (o := .cells #[.string x364000_63, .string x364001_27, .int .i64 x364002_27] 41 (0, 0)) (by refine blk_far ?_ NB363_361.out _; exact BK363.out) hb); have n5_ := Aside0.mk (below_step (by repeat (first | (with_reducible first | exact HB.out | apply below_alloc | apply pw_below_drewN | apply below_drew1 | refine below_set ?_ GE359.out | refine below_set ?_ GE360.out | refine below_set ?_ GE361.out | refine below_set ?_ GE363.out) | exact HB.out)) hb); clear HO368; clear BK359; clear BK360; clear BK361; clear BK363; clear HB; have HO368 := n0_; have BK359 := n1_; have BK360 := n2_; have BK361 := n3_; have BK363 := n4_; have HB := n5_; clear n0_ n1_ n2_ n3_ n4_ n5_; (try clear hb); (try clear hb2); (try clear hk); (try clear hi); (try clear hge); have hcz104_0 : w103.cell? ⟨gb361, 0, none⟩ = some (.bool a0_0) := (blk_cell BK361.out 0).trans rfl; have hcz104_1 : w103.cell? ⟨gb361, 1, none⟩ = some (.slice Ao101 y366.length co101) := (blk_cell BK361.out 1).trans rfl; have hfz104_0 := blk_frozen BK361.out 0; have hfz104_1 := blk_frozen BK361.out 1; have q105 : ((ji90) : Int) ≤ ((y366.length : Int) : Int) := of_decide_eq_true (by first | (with_reducible assumption) | assumption); obtain ⟨i0105, hi0105, _, hsz105, _⟩ := info_parts info41; have hcut105 := cut_to (P := Try.prog) 42 41 .i64 Try.underlying42 hi0105 Ao101 y366.length co101 (ji90) (of_decide_eq_true (by first | (with_reducible assumption) | assumption)) q105 (Kd.R_reads' HO368.out).2.1; have hr105 := Kd.R_take (m := ((ji90) : Int).toNat) HO368.out (by omega); have hy105 : y370.length = ((ji90) : Int).toNat := (by rw [Ny370.out, List.length_take]; omega); rw [← Ny370.out] at hr105; rw [← hy105] at hr105 hcut105; clear hy105 hi0105 hsz105 HO368; have HO372 := Aside0.mk hr105; clear hr105; replace q105 := eq_true q105; have hnb106 := NB360_359.out; have hnc106 := NB359_360.out; have hcz107_0 : w103.cell? ⟨gb360, 0, none⟩ = some (.bool false) := (blk_cell BK360.out 0).trans rfl; have hcz107_1 : w103.cell? ⟨gb360, 1, none⟩ = some (.slice none 0 0) := (blk_cell BK360.out 1).trans rfl; have hfz107_0 := blk_frozen BK360.out 0; have hfz107_1 := blk_frozen BK360.out 1)))
                                                refine bodyPost_ret (results_cell_row rfl _ _ gb360 44 #[.bool a0_0, .slice Ao101 y370.length co101] (0, 0) _ rfl (by refine blk_put (cs := #[.bool a0_0, .slice none 0 0]) ?_ 1 _ rfl; refine blk_put (cs := #[.bool false, .slice none 0 0]) ?_ 0 _ rfl; refine blk_far ?_ NB360_361.out _; exact BK360.out) Try.underlying44 rfl (by kernel_rfl)) rfl ?_
                                                exact ⟨_, by first | rfl | (simp [errW_none, errW_some]; done) | (simp [errW_none, errW_some]; rfl) | (simp only [← hji21, ← hji25, ← hji90]; first | rfl | (simp [errW_none, errW_some]; done) | (simp [errW_none, errW_some]; rfl)) | (simp [*, errW_none, errW_some]; done) | (simp [*, errW_none, errW_some]; rfl), by exact Kd.R_mono (Kd.R_far (p := ⟨gb360, 1, none⟩) (Kd.R_far (p := ⟨gb360, 0, none⟩) (Kd.R_far (p := ⟨gb361, 1, none⟩) (Kd.R_types (Kd.R_types HO372.out BK361.out (by decide)) BK360.out (by decide)) (fun _ hk => hk.1.2) (.slice Ao101 y370.length co101)) (fun _ hk => hk.2) (.bool a0_0)) (fun _ hk => hk.2) (.slice Ao101 y370.length co101)) (fun _ hk => trivial), by repeat (first | (with_reducible first | exact HB.out | apply below_alloc | apply pw_below_drewN | apply below_drew1 | refine below_set ?_ GE359.out | refine below_set ?_ GE360.out | refine below_set ?_ GE361.out | refine below_set ?_ GE363.out) | exact HB.out)⟩
                                              · rw [if_neg c92] at H
                                                exact absurd H (by simp)
                                            · rw [if_neg c91] at H
                                              exact absurd H (by simp)
                                          · rw [if_neg c89] at H
                                            have c89b0 : decide (512 < t369) = false := decide_eq_false c89
                                            clear c89
                                            have H' := Aside0.mk H
                                            clear H
                                            have hnb108 := NB363_359.out
                                            have hnc108 := NB359_363.out
                                            have hnb109 := NB363_360.out
                                            have hnc109 := NB360_363.out
                                            have hnb110 := NB363_361.out
                                            have hnc110 := NB361_363.out
                                            have hcz111_0 : wc.cell? ⟨gb363, 0, none⟩ = some (.string x364000_63) := (blk_cell BK363.out 0).trans rfl
                                            have hcz111_1 : wc.cell? ⟨gb363, 1, none⟩ = some (.string x364001_27) := (blk_cell BK363.out 1).trans rfl
                                            have hcz111_2 : wc.cell? ⟨gb363, 2, none⟩ = some (.int .i64 x364002_27) := (blk_cell BK363.out 2).trans rfl
                                            have hfz111_0 := blk_frozen BK363.out 0
                                            have hfz111_1 := blk_frozen BK363.out 1
                                            have hfz111_2 := blk_frozen BK363.out 2
                                            have hnb112 := NB361_359.out
                                            have hnc112 := NB359_361.out
                                            have hnb113 := NB361_360.out
                                            have hnc113 := NB360_361.out
                                            have hcz114_0 : wc.cell? ⟨gb361, 0, none⟩ = some (.bool a0_0) := (blk_cell BK361.out 0).trans rfl
                                            have hcz114_1 : wc.cell? ⟨gb361, 1, none⟩ = some (.slice Ao52 x362001_1.length co52) := (blk_cell BK361.out 1).trans rfl
                                            have hfz114_0 := blk_frozen BK361.out 0
                                            have hfz114_1 := blk_frozen BK361.out 1
                                            go_wp2_with (first | ((with_reducible refine gate_builtin (b := .append) (xs := #[.tmp 83, .tmp 85]) rfl ?_); at_builtin; refine Kd.R_append k41 (w0 := w) w.heap.size rfl (.tmp 83) (.tmp 85) 42 41 (.agg #[(.string ⟨#[]⟩), (.string ⟨#[]⟩), (.int .i64 0)]) 40 rfl Try.underlying42 info41 rfl (by decide) (by omega) (.slice Ao52 x362001_1.length co52) x362001_1 (⟨x364000_63, x364001_27, x364002_27⟩ : S41) [.string x364000_63, .string x364001_27, .int .i64 x364002_27] (fun k_ => k_ ≠ gb363) (fun _ => False) rfl rfl ?aP (fun _ hk => hk.elim) ?aF ?aO ?aB ?aS ?aL ?_; (case aP => exact k41_mkM _ _ _ (⟨x364000_63, x364001_27, x364002_27⟩ : S41)); (case aB => exact (by repeat (first | (with_reducible first | exact HB.out | apply below_alloc | apply pw_below_drewN | apply below_drew1 | refine below_set ?_ GE359.out | refine below_set ?_ GE360.out | refine below_set ?_ GE361.out | refine below_set ?_ GE363.out) | exact HB.out))); (case aF => exact (fun k_ hk => Kd.freshB (g := gb363) (o := .cells #[.string x364000_63, .string x364001_27, .int .i64 x364002_27] 41 (0, 0)) (by exact BK363.out) k_ hk)); (case aO => exact (by exact HO_362001.out)); (case aS => exact (below_size (by repeat (first | (with_reducible first | exact HB.out | apply below_alloc | apply pw_below_drewN | apply below_drew1 | refine below_set ?_ GE359.out | refine below_set ?_ GE360.out | refine below_set ?_ GE361.out | refine below_set ?_ GE363.out) | exact HB.out)))); (case aL => have := LMc87.out; omega); intro v367 w115 ho hb hg hat; rw [← Ny366.out] at ho; have n0_ := Aside0.mk (blk_grown (g := gb359) (o := .cells #[.bool a0_0, .slice (some ad362) l0_1.length c0_1] 44 (0, 0)) (by exact BK359.out) hg (Kd.R_ne HO_362001.out BK359.out (by decide))); have n1_ := Aside0.mk (blk_grown (g := gb360) (o := .cells #[.bool false, .slice none 0 0] 44 (0, 0)) (by exact BK360.out) hg (Kd.R_ne HO_362001.out BK360.out (by decide))); have n2_ := Aside0.mk (blk_grown (g := gb361) (o := .cells #[.bool a0_0, .slice Ao52 x362001_1.length co52] 44 (0, 0)) (by exact BK361.out) hg (Kd.R_ne HO_362001.out BK361.out (by decide))); have n3_ := Aside0.mk (blk_grown (g := gb363) (o := .cells #[.string x364000_63, .string x364001_27, .int .i64 x364002_27] 41 (0, 0)) (by exact BK363.out) hg (Kd.R_away HO_362001.out (fun _ hk => hk))); have n4_ := Aside0.mk (hb); have n5_ := Aside0.mk (ho); clear BK359; clear BK360; clear BK361; clear BK363; clear HB; clear HO_362001; have BK359 := n0_; have BK360 := n1_; have BK361 := n2_; have BK363 := n3_; have HB := n4_; have HO368 := n5_; clear n0_ n1_ n2_ n3_ n4_ n5_; clear ho hb hg hat; obtain ⟨Ao116, co116, eo116⟩ := Kd.R_slice HO368.out; subst eo116; have hcz117_0 : w115.cell? ⟨gb361, 0, none⟩ = some (.bool a0_0) := (blk_cell BK361.out 0).trans rfl; have hcz117_1 : w115.cell? ⟨gb361, 1, none⟩ = some (.slice Ao52 x362001_1.length co52) := (blk_cell BK361.out 1).trans rfl; have hfz117_0 := blk_frozen BK361.out 0; have hfz117_1 := blk_frozen BK361.out 1) | (go_at_call 25; (with_reducible refine (waybillref7_NodeSize.calls kj63 a0_0 _ _ y366 t369 _ ?side1 ?side2 A88.out).mono ?_); (case side1 => refine (Kd.R_reads' (e := 41) (base := w.heap.size) (ok := fun k_ => k_ ≠ gb363) (n := y366.length) (c := co116) ?_).2.2; exact (by exact (Kd.R_mono (Kd.R_far (p := ⟨gb361, 1, none⟩) (Kd.R_types HO368.out BK361.out (by decide)) (fun _ hk => hk.2) (.slice Ao116 y366.length co116)) (fun _ h_ => h_.1)))); (case side2 => exact (Kd.R_reads' HO368.out).2.1); rintro e w118 ⟨rfl, hb⟩; have n0_ := Aside0.mk (Kd.R_below (by exact (Kd.R_mono (Kd.R_far (p := ⟨gb361, 1, none⟩) (Kd.R_types HO368.out BK361.out (by decide)) (fun _ hk => hk.2) (.slice Ao116 y366.length co116)) (fun _ h_ => h_.1))) hb); have n1_ := Aside0.mk (blk_below (g := gb359) (o := .cells #[.bool a0_0, .slice (some ad362) l0_1.length c0_1] 44 (0, 0)) (by refine blk_far ?_ NB359_361.out _; exact BK359.out) hb); have n2_ := Aside0.mk (blk_below (g := gb360) (o := .cells #[.bool false, .slice none 0 0] 44 (0, 0)) (by refine blk_far ?_ NB360_361.out _; exact BK360.out) hb); have n3_ := Aside0.mk (blk_below (g := gb361) (o := .cells #[.bool a0_0, .slice Ao116 y366.length co116] 44 (0, 0)) (by refine blk_put (cs := #[.bool a0_0, .slice Ao52 x362001_1.length co52]) ?_ 1 _ rfl; exact BK361.out) hb); have n4_ := Aside0.mk (blk_below (g := gb363) (o := .cells #[.string x364000_63, .string x364001_27, .int .i64 x364002_27] 41 (0, 0)) (by refine blk_far ?_ NB363_361.out _; exact BK363.out) hb); have n5_ := Aside0.mk (below_step (by repeat (first | (with_reducible first | exact HB.out | apply below_alloc | apply pw_below_drewN | apply below_drew1 | refine below_set ?_ GE359.out | refine below_set ?_ GE360.out | refine below_set ?_ GE361.out | refine below_set ?_ GE363.out) | exact HB.out)) hb); clear HO368; clear BK359; clear BK360; clear BK361; clear BK363; clear HB; have HO368 := n0_; have BK359 := n1_; have BK360 := n2_; have BK361 := n3_; have BK363 := n4_; have HB := n5_; clear n0_ n1_ n2_ n3_ n4_ n5_; (try clear hb); (try clear hb2); (try clear hk); (try clear hi); (try clear hge)))
                                            repeat (go_quiet (first | ((with_reducible refine gate_builtin (b := .append) (xs := #[.tmp 83, .tmp 85]) rfl ?_); at_builtin; refine Kd.R_append k41 (w0 := w) w.heap.size rfl (.tmp 83) (.tmp 85) 42 41 (.agg #[(.string ⟨#[]⟩), (.string ⟨#[]⟩), (.int .i64 0)]) 40 rfl Try.underlying42 info41 rfl (by decide) (by omega) (.slice Ao52 x362001_1.length co52) x362001_1 (⟨x364000_63, x364001_27, x364002_27⟩ : S41) [.string x364000_63, .string x364001_27, .int .i64 x364002_27] (fun k_ => k_ ≠ gb363) (fun _ => False) rfl rfl ?aP (fun _ hk => hk.elim) ?aF ?aO ?aB ?aS ?aL ?_; (case aP => exact k41_mkM _ _ _ (⟨x364000_63, x364001_27, x364002_27⟩ : S41)); (case aB => exact (by repeat (first | (with_reducible first | exact HB.out | apply below_alloc | apply pw_below_drewN | apply below_drew1 | refine below_set ?_ GE359.out | refine below_set ?_ GE360.out | refine below_set ?_ GE361.out | refine below_set ?_ GE363.out) | exact HB.out))); (case aF => exact (fun k_ hk => Kd.freshB (g := gb363) (o := .cells #[.string x364000_63, .string x364001_27, .int .i64 x364002_27] 41 (0, 0)) (by exact BK363.out) k_ hk)); (case aO => exact (by exact HO_362001.out)); (case aS => exact (below_size (by repeat (first | (with_reducible first | exact HB.out | apply below_alloc | apply pw_below_drewN | apply below_drew1 | refine below_set ?_ GE359.out | refine below_set ?_ GE360.out | refine below_set ?_ GE361.out | refine below_set ?_ GE363.out) | exact HB.out)))); (case aL => have := LMc87.out; omega); intro v367 w115 ho hb hg hat; rw [← Ny366.out] at ho; have n0_ := Aside0.mk (blk_grown (g := gb359) (o := .cells #[.bool a0_0, .slice (some ad362) l0_1.length c0_1] 44 (0, 0)) (by exact BK359.out) hg (Kd.R_ne HO_362001.out BK359.out (by decide))); have n1_ := Aside0.mk (blk_grown (g := gb360) (o := .cells #[.bool false, .slice none 0 0] 44 (0, 0)) (by exact BK360.out) hg (Kd.R_ne HO_362001.out BK360.out (by decide))); have n2_ := Aside0.mk (blk_grown (g := gb361) (o := .cells #[.bool a0_0, .slice Ao52 x362001_1.length co52] 44 (0, 0)) (by exact BK361.out) hg (Kd.R_ne HO_362001.out BK361.out (by decide))); have n3_ := Aside0.mk (blk_grown (g := gb363) (o := .cells #[.string x364000_63, .string x364001_27, .int .i64 x364002_27] 41 (0, 0)) (by exact BK363.out) hg (Kd.R_away HO_362001.out (fun _ hk => hk))); have n4_ := Aside0.mk (hb); have n5_ := Aside0.mk (ho); clear BK359; clear BK360; clear BK361; clear BK363; clear HB; clear HO_362001; have BK359 := n0_; have BK360 := n1_; have BK361 := n2_; have BK363 := n3_; have HB := n4_; have HO368 := n5_; clear n0_ n1_ n2_ n3_ n4_ n5_; clear ho hb hg hat; obtain ⟨Ao116, co116, eo116⟩ := Kd.R_slice HO368.out; subst eo116; have hcz117_0 : w115.cell? ⟨gb361, 0, none⟩ = some (.bool a0_0) := (blk_cell BK361.out 0).trans rfl; have hcz117_1 : w115.cell? ⟨gb361, 1, none⟩ = some (.slice Ao52 x362001_1.length co52) := (blk_cell BK361.out 1).trans rfl; have hfz117_0 := blk_frozen BK361.out 0; have hfz117_1 := blk_frozen BK361.out 1) | (go_at_call 25; (with_reducible refine (waybillref7_NodeSize.calls kj63 a0_0 _ _ y366 t369 _ ?side1 ?side2 A88.out).mono ?_); (case side1 => refine (Kd.R_reads' (e := 41) (base := w.heap.size) (ok := fun k_ => k_ ≠ gb363) (n := y366.length) (c := co116) ?_).2.2; exact (by exact (Kd.R_mono (Kd.R_far (p := ⟨gb361, 1, none⟩) (Kd.R_types HO368.out BK361.out (by decide)) (fun _ hk => hk.2) (.slice Ao116 y366.length co116)) (fun _ h_ => h_.1)))); (case side2 => exact (Kd.R_reads' HO368.out).2.1); rintro e w118 ⟨rfl, hb⟩; have n0_ := Aside0.mk (Kd.R_below (by exact (Kd.R_mono (Kd.R_far (p := ⟨gb361, 1, none⟩) (Kd.R_types HO368.out BK361.out (by decide)) (fun _ hk => hk.2) (.slice Ao116 y366.length co116)) (fun _ h_ => h_.1))) hb); have n1_ := Aside0.mk (blk_below (g := gb359) (o := .cells #[.bool a0_0, .slice (some ad362) l0_1.length c0_1] 44 (0, 0)) (by refine blk_far ?_ NB359_361.out _; exact BK359.out) hb); have n2_ := Aside0.mk (blk_below (g := gb360) (o := .cells #[.bool false, .slice none 0 0] 44 (0, 0)) (by refine blk_far ?_ NB360_361.out _; exact BK360.out) hb); have n3_ := Aside0.mk (blk_below (g := gb361) (o := .cells #[.bool a0_0, .slice Ao116 y366.length co116] 44 (0, 0)) (by refine blk_put (cs := #[.bool a0_0, .slice Ao52 x362001_1.length co52]) ?_ 1 _ rfl; exact BK361.out) hb); have n4_ := Aside0.mk (blk_below (g := gb363) (o := .cells #[.string x364000_63, .string x364001_27, .int .i64 x364002_27] 41 (0, 0)) (by refine blk_far ?_ NB363_361.out _; exact BK363.out) hb); have n5_ := Aside0.mk (below_step (by repeat (first | (with_reducible first | exact HB.out | apply below_alloc | apply pw_below_drewN | apply below_drew1 | refine below_set ?_ GE359.out | refine below_set ?_ GE360.out | refine below_set ?_ GE361.out | refine below_set ?_ GE363.out) | exact HB.out)) hb); clear HO368; clear BK359; clear BK360; clear BK361; clear BK363; clear HB; have HO368 := n0_; have BK359 := n1_; have BK360 := n2_; have BK361 := n3_; have BK363 := n4_; have HB := n5_; clear n0_ n1_ n2_ n3_ n4_ n5_; (try clear hb); (try clear hb2); (try clear hk); (try clear hi); (try clear hge))); try go_wp2_with (first | ((with_reducible refine gate_builtin (b := .append) (xs := #[.tmp 83, .tmp 85]) rfl ?_); at_builtin; refine Kd.R_append k41 (w0 := w) w.heap.size rfl (.tmp 83) (.tmp 85) 42 41 (.agg #[(.string ⟨#[]⟩), (.string ⟨#[]⟩), (.int .i64 0)]) 40 rfl Try.underlying42 info41 rfl (by decide) (by omega) (.slice Ao52 x362001_1.length co52) x362001_1 (⟨x364000_63, x364001_27, x364002_27⟩ : S41) [.string x364000_63, .string x364001_27, .int .i64 x364002_27] (fun k_ => k_ ≠ gb363) (fun _ => False) rfl rfl ?aP (fun _ hk => hk.elim) ?aF ?aO ?aB ?aS ?aL ?_; (case aP => exact k41_mkM _ _ _ (⟨x364000_63, x364001_27, x364002_27⟩ : S41)); (case aB => exact (by repeat (first | (with_reducible first | exact HB.out | apply below_alloc | apply pw_below_drewN | apply below_drew1 | refine below_set ?_ GE359.out | refine below_set ?_ GE360.out | refine below_set ?_ GE361.out | refine below_set ?_ GE363.out) | exact HB.out))); (case aF => exact (fun k_ hk => Kd.freshB (g := gb363) (o := .cells #[.string x364000_63, .string x364001_27, .int .i64 x364002_27] 41 (0, 0)) (by exact BK363.out) k_ hk)); (case aO => exact (by exact HO_362001.out)); (case aS => exact (below_size (by repeat (first | (with_reducible first | exact HB.out | apply below_alloc | apply pw_below_drewN | apply below_drew1 | refine below_set ?_ GE359.out | refine below_set ?_ GE360.out | refine below_set ?_ GE361.out | refine below_set ?_ GE363.out) | exact HB.out)))); (case aL => have := LMc87.out; omega); intro v367 w115 ho hb hg hat; rw [← Ny366.out] at ho; have n0_ := Aside0.mk (blk_grown (g := gb359) (o := .cells #[.bool a0_0, .slice (some ad362) l0_1.length c0_1] 44 (0, 0)) (by exact BK359.out) hg (Kd.R_ne HO_362001.out BK359.out (by decide))); have n1_ := Aside0.mk (blk_grown (g := gb360) (o := .cells #[.bool false, .slice none 0 0] 44 (0, 0)) (by exact BK360.out) hg (Kd.R_ne HO_362001.out BK360.out (by decide))); have n2_ := Aside0.mk (blk_grown (g := gb361) (o := .cells #[.bool a0_0, .slice Ao52 x362001_1.length co52] 44 (0, 0)) (by exact BK361.out) hg (Kd.R_ne HO_362001.out BK361.out (by decide))); have n3_ := Aside0.mk (blk_grown (g := gb363) (o := .cells #[.string x364000_63, .string x364001_27, .int .i64 x364002_27] 41 (0, 0)) (by exact BK363.out) hg (Kd.R_away HO_362001.out (fun _ hk => hk))); have n4_ := Aside0.mk (hb); have n5_ := Aside0.mk (ho); clear BK359; clear BK360; clear BK361; clear BK363; clear HB; clear HO_362001; have BK359 := n0_; have BK360 := n1_; have BK361 := n2_; have BK363 := n3_; have HB := n4_; have HO368 := n5_; clear n0_ n1_ n2_ n3_ n4_ n5_; clear ho hb hg hat; obtain ⟨Ao116, co116, eo116⟩ := Kd.R_slice HO368.out; subst eo116; have hcz117_0 : w115.cell? ⟨gb361, 0, none⟩ = some (.bool a0_0) := (blk_cell BK361.out 0).trans rfl; have hcz117_1 : w115.cell? ⟨gb361, 1, none⟩ = some (.slice Ao52 x362001_1.length co52) := (blk_cell BK361.out 1).trans rfl; have hfz117_0 := blk_frozen BK361.out 0; have hfz117_1 := blk_frozen BK361.out 1) | (go_at_call 25; (with_reducible refine (waybillref7_NodeSize.calls kj63 a0_0 _ _ y366 t369 _ ?side1 ?side2 A88.out).mono ?_); (case side1 => refine (Kd.R_reads' (e := 41) (base := w.heap.size) (ok := fun k_ => k_ ≠ gb363) (n := y366.length) (c := co116) ?_).2.2; exact (by exact (Kd.R_mono (Kd.R_far (p := ⟨gb361, 1, none⟩) (Kd.R_types HO368.out BK361.out (by decide)) (fun _ hk => hk.2) (.slice Ao116 y366.length co116)) (fun _ h_ => h_.1)))); (case side2 => exact (Kd.R_reads' HO368.out).2.1); rintro e w118 ⟨rfl, hb⟩; have n0_ := Aside0.mk (Kd.R_below (by exact (Kd.R_mono (Kd.R_far (p := ⟨gb361, 1, none⟩) (Kd.R_types HO368.out BK361.out (by decide)) (fun _ hk => hk.2) (.slice Ao116 y366.length co116)) (fun _ h_ => h_.1))) hb); have n1_ := Aside0.mk (blk_below (g := gb359) (o := .cells #[.bool a0_0, .slice (some ad362) l0_1.length c0_1] 44 (0, 0)) (by refine blk_far ?_ NB359_361.out _; exact BK359.out) hb); have n2_ := Aside0.mk (blk_below (g := gb360) (o := .cells #[.bool false, .slice none 0 0] 44 (0, 0)) (by refine blk_far ?_ NB360_361.out _; exact BK360.out) hb); have n3_ := Aside0.mk (blk_below (g := gb361) (o := .cells #[.bool a0_0, .slice Ao116 y366.length co116] 44 (0, 0)) (by refine blk_put (cs := #[.bool a0_0, .slice Ao52 x362001_1.length co52]) ?_ 1 _ rfl; exact BK361.out) hb); have n4_ := Aside0.mk (blk_below (g := gb363) (o := .cells #[.string x364000_63, .string x364001_27, .int .i64 x364002_27] 41 (0, 0)) (by refine blk_far ?_ NB363_361.out _; exact BK363.out) hb); have n5_ := Aside0.mk (below_step (by repeat (first | (with_reducible first | exact HB.out | apply below_alloc | apply pw_below_drewN | apply below_drew1 | refine below_set ?_ GE359.out | refine below_set ?_ GE360.out | refine below_set ?_ GE361.out | refine below_set ?_ GE363.out) | exact HB.out)) hb); clear HO368; clear BK359; clear BK360; clear BK361; clear BK363; clear HB; have HO368 := n0_; have BK359 := n1_; have BK360 := n2_; have BK361 := n3_; have BK363 := n4_; have HB := n5_; clear n0_ n1_ n2_ n3_ n4_ n5_; (try clear hb); (try clear hb2); (try clear hk); (try clear hi); (try clear hge))))
                                            go_roundg kj63
                                            case measure => have := HK1.out; have := HJ9.out; have := HJ27.out; have := HJ46.out; have := HJ63.out; omega
                                            case rel => exact ⟨(wrap64 (x4_1 + 1)), (y366), (.slice Ao116 y366.length co116), (by first | rfl | (simp; done) | (simp [*]; done)), H', ⟨by have := HK1.out; have := HJ9.out; have := HJ27.out; have := HJ46.out; have := HJ63.out; omega⟩, ⟨by exact Kd.R_mono HO368.out (fun _ hk => trivial)⟩, ⟨by exact BK359.out⟩, ⟨by exact BK360.out⟩, ⟨by exact BK361.out⟩, ⟨by repeat (first | (with_reducible first | exact HB.out | apply below_alloc | apply pw_below_drewN | apply below_drew1 | refine below_set ?_ GE359.out | refine below_set ?_ GE360.out | refine below_set ?_ GE361.out | refine below_set ?_ GE363.out) | exact HB.out)⟩⟩
                                        · rw [if_neg c87] at H
                                          exact absurd H (by simp)
                        · rw [if_neg c27] at H
                          exact absurd H (by simp)
                      · rw [if_neg c26] at H
                        exact absurd H (by simp)
                    · rw [if_neg c24] at H
                      exact absurd H (by simp)
                  · rw [if_neg c23] at H
                    exact absurd H (by simp)
                · rw [if_neg c22] at H
                  exact absurd H (by simp)
              · rw [if_neg c20] at H
                exact absurd H (by simp)
            · rw [if_neg c19] at H
              exact absurd H (by simp)
          · replace c18 := Bool.eq_false_iff.mpr c18
            subst c18
            have H1 : (some (a0_0, x362001_1)) = some (r1, r2) := by rw [if_neg (show ¬ (false = true) by decide)] at H; exact H
            clear H
            have H := H1
            clear H1
            simp only [Option.some.injEq, Prod.mk.injEq] at H
            obtain ⟨rfl, rfl⟩ := H
            have hnb119 := NB361_359.out
            have hnc119 := NB359_361.out
            have hnb120 := NB361_360.out
            have hnc120 := NB360_361.out
            have hcz121_0 : wc.cell? ⟨gb361, 0, none⟩ = some (.bool a0_0) := (blk_cell BK361.out 0).trans rfl
            have hcz121_1 : wc.cell? ⟨gb361, 1, none⟩ = some (u362001) := (blk_cell BK361.out 1).trans rfl
            have hfz121_0 := blk_frozen BK361.out 0
            have hfz121_1 := blk_frozen BK361.out 1
            have hnb122 := NB360_359.out
            have hnc122 := NB359_360.out
            have hcz123_0 : wc.cell? ⟨gb360, 0, none⟩ = some (.bool false) := (blk_cell BK360.out 0).trans rfl
            have hcz123_1 : wc.cell? ⟨gb360, 1, none⟩ = some (.slice none 0 0) := (blk_cell BK360.out 1).trans rfl
            have hfz123_0 := blk_frozen BK360.out 0
            have hfz123_1 := blk_frozen BK360.out 1
            obtain ⟨Ao124, co124, eo124⟩ := Kd.R_slice HO_362001.out
            subst eo124
            go_wp2
            repeat (go_quiet (fail); try go_wp2)
            refine bodyPost_ret (results_cell_row rfl _ _ gb360 44 #[.bool a0_0, .slice Ao124 x362001_1.length co124] (0, 0) _ rfl (by refine blk_put (cs := #[.bool a0_0, .slice none 0 0]) ?_ 1 _ rfl; refine blk_put (cs := #[.bool false, .slice none 0 0]) ?_ 0 _ rfl; exact BK360.out) Try.underlying44 rfl (by kernel_rfl)) rfl ?_
            exact ⟨_, by first | rfl | (simp [errW_none, errW_some]; done) | (simp [errW_none, errW_some]; rfl) | (simp [*, errW_none, errW_some]; done) | (simp [*, errW_none, errW_some]; rfl), by exact Kd.R_mono (Kd.R_far (p := ⟨gb360, 1, none⟩) (Kd.R_far (p := ⟨gb360, 0, none⟩) (Kd.R_types HO_362001.out BK360.out (by decide)) (fun _ hk => hk.2) (.bool a0_0)) (fun _ hk => hk.2) (.slice Ao124 x362001_1.length co124)) (fun _ hk => trivial), by repeat (first | (with_reducible first | exact HB.out | apply below_alloc | apply pw_below_drewN | apply below_drew1 | refine below_set ?_ GE359.out | refine below_set ?_ GE360.out | refine below_set ?_ GE361.out) | exact HB.out)⟩

end Go.Proofs.Ytfhaffpegncdiaa.PN
