/- What functions of the given program come to, and that they do: written out of the translation by a program of this session; Lean checks it. -/
import Derived.Test.YtlhcjgmdcnmnnaaPAx0
import Derived.Test.YtlhcjgmdcnmnnaaPAx10
import Derived.Test.YtlhcjgmdcnmnnaaPAx11
import Derived.Test.YtlhcjgmdcnmnnaaPAx14
import Derived.Test.YtlhcjgmdcnmnnaaPAx15
namespace Go.Proofs.Ytlhcjgmdcnmnnaa.PA
open Go.RowKit Go.Proofs.YtlhcjgmdcnmnnaaW.PrintWords Go.Proofs.YtlhcjgmdcnmnnaaW.PrintLast Go.Proofs.YtlhcjgmdcnmnnaaW.PrintMore
attribute [local go_sem] max2_int min2_int max_two min_two max_three min_three max_four min_four   -- for this text's walks alone
set_option linter.unusedVariables false
set_option linter.unusedSimpArgs false

/-! ### waybilllaw3_FramTells: function 12 -/
mutual
def waybilllaw3_FramTells.j0 : Nat → List Int → Int → Int → Int → Bool → Int → Int → List Int → Option (Bool)
  | 0, _, _, _, _, _, _, _, _ => none
  | k + 1, x0, x2, x3, x4, x32, x596000, x596001, x596002 => if x32 = true then ((waybilllaw3_awake.f k).bind fun t596 => (some t596)) else ((fram_Append.f k (([5] : List Int)) x596000 x596001 x596002).bind fun bt600 => ((waybillref1_FrameOk.f x596000 x596001 x596002).bind fun t604 => ((some (([5] : List Int) : List Int)).bind fun y605 => (if t604 = true then ((waybillref1_Frame.f k y605 x596000 x596001 x596002).bind fun t608 => (waybilllaw3_FramTells.j1 k x0 x2 x3 x4 bt600.1 bt600.2 t604 t608)) else (waybilllaw3_FramTells.j1 k x0 x2 x3 x4 bt600.1 bt600.2 t604 y605)))))
def waybilllaw3_FramTells.j1 : Nat → List Int → Int → Int → Int → List Int → Bool → Bool → List Int → Option (Bool)
  | 0, _, _, _, _, _, _, _, _ => none
  | k + 1, x0, x2, x3, x4, x11, x12, x13, x14 => if (x12 != x13) = true then (waybilllaw3_FramTells.j2 k x0 x2 x3 x4 x14 true) else (waybilllaw3_FramTells.j2 k x0 x2 x3 x4 x14 ((strOfNums x11).toList != (strOfNums x14).toList))
def waybilllaw3_FramTells.j2 : Nat → List Int → Int → Int → Int → List Int → Bool → Option (Bool)
  | 0, _, _, _, _, _, _ => none
  | k + 1, x0, x2, x3, x4, x14, x56 => if x56 = true then (none) else ((some (([] : List Int) : List Int)).bind fun y611 => (if 1 ≤ (x14.length : Int) then ((some (x14.drop 1 : List Int)).bind fun y614 => (if y611.length + y614.length < 140737488355328 then ((some (y611 ++ y614 : List Int)).bind fun y618 => (if (y618.length : Int) > 0 then (if (y618.length : Int) = 0 then (none) else (if 0 ≤ (Int.tmod (Go.bits .and .i64 x2 65535) (y618.length : Int)) then (if (Int.tmod (Go.bits .and .i64 x2 65535) (y618.length : Int)) < (y618.length : Int) then (waybilllaw3_FramTells.j3 k x0 x4 x14 (y618.set ((Int.tmod (Go.bits .and .i64 x2 65535) (y618.length : Int)) : Int).toNat (Go.bits .xor .u8 (rd y618 (Int.tmod (Go.bits .and .i64 x2 65535) (y618.length : Int))) x3))) else (none)) else (none))) else (waybilllaw3_FramTells.j3 k x0 x4 x14 y618))) else (none))) else (none)))
def waybilllaw3_FramTells.j3 : Nat → List Int → Int → List Int → List Int → Option (Bool)
  | 0, _, _, _, _ => none
  | k + 1, x0, x4, x14, x15 => waybilllaw3_FramTells.l0 k x0 x4 x14 x15 0
def waybilllaw3_FramTells.l0 : Nat → List Int → Int → List Int → List Int → Int → Option (Bool)
  | 0, _, _, _, _, _ => none
  | k + 1, x0, x4, x14, x15, x16 => if x16 < 4 then (if (x14.length : Int) = 0 then (none) else (if 1 ≤ (wrap64 (1 + (Int.tmod (Go.bits .and .i64 x4 65535) (x14.length : Int)))) then (if (wrap64 (1 + (Int.tmod (Go.bits .and .i64 x4 65535) (x14.length : Int)))) ≤ (x14.length : Int) then ((some (([] : List Int) : List Int)).bind fun y629 => (if 1 ≤ (x14.length : Int) then ((some (x14.drop 1 : List Int)).bind fun y632 => (if y629.length + y632.length < 140737488355328 then ((some (y629 ++ y632 : List Int)).bind fun y637 => (if y637.length + x0.length < 140737488355328 then (if 0 ≤ x16 then ((some (([x0, x15, ((x14.take ((wrap64 (1 + (Int.tmod (Go.bits .and .i64 x4 65535) (x14.length : Int)))) : Int).toNat).drop 1), (y637 ++ x0)] : List (List Int)).getD (x16).toNat [] : List Int)).bind fun y643 => ((fram_Parse.f k y643).bind fun bt646 => ((waybillref1_FrameOf.f k y643).bind fun bt654 => (if bt646.2.2.2.2 = bt654.2.2.2.2 then (if bt646.2.2.2.1 = bt654.2.2.2.1 then ((waybilllaw3_Same.f bt646.1 bt646.2.1 bt646.2.2.1 bt654.1 bt654.2.1 bt654.2.2.1).bind fun t662 => (if t662 = true then (waybilllaw3_FramTells.l0 k x0 x4 x14 x15 (wrap64 (x16 + 1))) else (none))) else (none)) else (none))))) else (none)) else (none))) else (none))) else (none))) else (none)) else (none))) else ((waybilllaw3_awake.f k).bind fun t623 => (some t623))
end
def waybilllaw3_FramTells.f (k : Nat) (l0 : List Int) (a1_0 : Int) (a1_1 : Int) (l1_2 : List Int) (a2 : Int) (a3 : Int) (a4 : Int) : Option (Bool) := if (l0.length : Int) > 5000 then (waybilllaw3_FramTells.j0 k l0 a2 a3 a4 true a1_0 a1_1 l1_2) else (waybilllaw3_FramTells.j0 k l0 a2 a3 a4 (decide ((l1_2.length : Int) > 5000)) a1_0 a1_1 l1_2)
theorem waybilllaw3_FramTells.mono_l : ∀ k, (∀ y0 y1 y2 y3 y4 y5 y6 y7, LeO (waybilllaw3_FramTells.j0 k y0 y1 y2 y3 y4 y5 y6 y7) (waybilllaw3_FramTells.j0 (k + 1) y0 y1 y2 y3 y4 y5 y6 y7)) ∧ (∀ y0 y1 y2 y3 y4 y5 y6 y7, LeO (waybilllaw3_FramTells.j1 k y0 y1 y2 y3 y4 y5 y6 y7) (waybilllaw3_FramTells.j1 (k + 1) y0 y1 y2 y3 y4 y5 y6 y7)) ∧ (∀ y0 y1 y2 y3 y4 y5, LeO (waybilllaw3_FramTells.j2 k y0 y1 y2 y3 y4 y5) (waybilllaw3_FramTells.j2 (k + 1) y0 y1 y2 y3 y4 y5)) ∧ (∀ y0 y1 y2 y3, LeO (waybilllaw3_FramTells.j3 k y0 y1 y2 y3) (waybilllaw3_FramTells.j3 (k + 1) y0 y1 y2 y3)) ∧ (∀ y0 y1 y2 y3 y4, LeO (waybilllaw3_FramTells.l0 k y0 y1 y2 y3 y4) (waybilllaw3_FramTells.l0 (k + 1) y0 y1 y2 y3 y4))
  | 0 => ⟨fun _ _ _ _ _ _ _ _ r h => by simp [waybilllaw3_FramTells.j0] at h, fun _ _ _ _ _ _ _ _ r h => by simp [waybilllaw3_FramTells.j1] at h, fun _ _ _ _ _ _ r h => by simp [waybilllaw3_FramTells.j2] at h, fun _ _ _ _ r h => by simp [waybilllaw3_FramTells.j3] at h, fun _ _ _ _ _ r h => by simp [waybilllaw3_FramTells.l0] at h⟩
  | k + 1 => by
    obtain ⟨ih0, ih1, ih2, ih3, ih4⟩ := waybilllaw3_FramTells.mono_l k
    refine ⟨?_, ?_, ?_, ?_, ?_⟩
    · intro y0 y1 y2 y3 y4 y5 y6 y7
      unfold waybilllaw3_FramTells.j0
      repeat' first
      | (with_reducible exact ih0 _ _ _ _ _ _ _ _)
      | (with_reducible exact ih1 _ _ _ _ _ _ _ _)
      | (with_reducible exact ih2 _ _ _ _ _ _)
      | (with_reducible exact ih3 _ _ _ _)
      | (with_reducible exact ih4 _ _ _ _ _)
      | (with_reducible exact fram_Append.mono _ _ _ _ _)
      | (with_reducible exact fram_Parse.mono _ _)
      | (with_reducible exact waybilllaw3_awake.mono _)
      | (with_reducible exact waybillref1_Frame.mono _ _ _ _ _)
      | (with_reducible exact waybillref1_FrameOf.mono _ _)
      | (with_reducible exact LeO.refl _)
      | (with_reducible exact LeO.none _)
      | (with_reducible refine LeO.ite ?_ ?_)
      | (with_reducible refine LeO.bind ?_ (fun _ => ?_))
      | exact ih0 _ _ _ _ _ _ _ _
      | exact ih1 _ _ _ _ _ _ _ _
      | exact ih2 _ _ _ _ _ _
      | exact ih3 _ _ _ _
      | exact ih4 _ _ _ _ _
      | exact fram_Append.mono _ _ _ _ _
      | exact fram_Parse.mono _ _
      | exact waybilllaw3_awake.mono _
      | exact waybillref1_Frame.mono _ _ _ _ _
      | exact waybillref1_FrameOf.mono _ _
      | exact LeO.none _
      | refine LeO.ite ?_ ?_
      | refine LeO.bind ?_ (fun _ => ?_)
    · intro y0 y1 y2 y3 y4 y5 y6 y7
      unfold waybilllaw3_FramTells.j1
      repeat' first
      | (with_reducible exact ih0 _ _ _ _ _ _ _ _)
      | (with_reducible exact ih1 _ _ _ _ _ _ _ _)
      | (with_reducible exact ih2 _ _ _ _ _ _)
      | (with_reducible exact ih3 _ _ _ _)
      | (with_reducible exact ih4 _ _ _ _ _)
      | (with_reducible exact fram_Append.mono _ _ _ _ _)
      | (with_reducible exact fram_Parse.mono _ _)
      | (with_reducible exact waybilllaw3_awake.mono _)
      | (with_reducible exact waybillref1_Frame.mono _ _ _ _ _)
      | (with_reducible exact waybillref1_FrameOf.mono _ _)
      | (with_reducible exact LeO.refl _)
      | (with_reducible exact LeO.none _)
      | (with_reducible refine LeO.ite ?_ ?_)
      | (with_reducible refine LeO.bind ?_ (fun _ => ?_))
      | exact ih0 _ _ _ _ _ _ _ _
      | exact ih1 _ _ _ _ _ _ _ _
      | exact ih2 _ _ _ _ _ _
      | exact ih3 _ _ _ _
      | exact ih4 _ _ _ _ _
      | exact fram_Append.mono _ _ _ _ _
      | exact fram_Parse.mono _ _
      | exact waybilllaw3_awake.mono _
      | exact waybillref1_Frame.mono _ _ _ _ _
      | exact waybillref1_FrameOf.mono _ _
      | exact LeO.none _
      | refine LeO.ite ?_ ?_
      | refine LeO.bind ?_ (fun _ => ?_)
    · intro y0 y1 y2 y3 y4 y5
      unfold waybilllaw3_FramTells.j2
      repeat' first
      | (with_reducible exact ih0 _ _ _ _ _ _ _ _)
      | (with_reducible exact ih1 _ _ _ _ _ _ _ _)
      | (with_reducible exact ih2 _ _ _ _ _ _)
      | (with_reducible exact ih3 _ _ _ _)
      | (with_reducible exact ih4 _ _ _ _ _)
      | (with_reducible exact fram_Append.mono _ _ _ _ _)
      | (with_reducible exact fram_Parse.mono _ _)
      | (with_reducible exact waybilllaw3_awake.mono _)
      | (with_reducible exact waybillref1_Frame.mono _ _ _ _ _)
      | (with_reducible exact waybillref1_FrameOf.mono _ _)
      | (with_reducible exact LeO.refl _)
      | (with_reducible exact LeO.none _)
      | (with_reducible refine LeO.ite ?_ ?_)
      | (with_reducible refine LeO.bind ?_ (fun _ => ?_))
      | exact ih0 _ _ _ _ _ _ _ _
      | exact ih1 _ _ _ _ _ _ _ _
      | exact ih2 _ _ _ _ _ _
      | exact ih3 _ _ _ _
      | exact ih4 _ _ _ _ _
      | exact fram_Append.mono _ _ _ _ _
      | exact fram_Parse.mono _ _
      | exact waybilllaw3_awake.mono _
      | exact waybillref1_Frame.mono _ _ _ _ _
      | exact waybillref1_FrameOf.mono _ _
      | exact LeO.none _
      | refine LeO.ite ?_ ?_
      | refine LeO.bind ?_ (fun _ => ?_)
    · intro y0 y1 y2 y3
      unfold waybilllaw3_FramTells.j3
      repeat' first
      | (with_reducible exact ih0 _ _ _ _ _ _ _ _)
      | (with_reducible exact ih1 _ _ _ _ _ _ _ _)
      | (with_reducible exact ih2 _ _ _ _ _ _)
      | (with_reducible exact ih3 _ _ _ _)
      | (with_reducible exact ih4 _ _ _ _ _)
      | (with_reducible exact fram_Append.mono _ _ _ _ _)
      | (with_reducible exact fram_Parse.mono _ _)
      | (with_reducible exact waybilllaw3_awake.mono _)
      | (with_reducible exact waybillref1_Frame.mono _ _ _ _ _)
      | (with_reducible exact waybillref1_FrameOf.mono _ _)
      | (with_reducible exact LeO.refl _)
      | (with_reducible exact LeO.none _)
      | (with_reducible refine LeO.ite ?_ ?_)
      | (with_reducible refine LeO.bind ?_ (fun _ => ?_))
      | exact ih0 _ _ _ _ _ _ _ _
      | exact ih1 _ _ _ _ _ _ _ _
      | exact ih2 _ _ _ _ _ _
      | exact ih3 _ _ _ _
      | exact ih4 _ _ _ _ _
      | exact fram_Append.mono _ _ _ _ _
      | exact fram_Parse.mono _ _
      | exact waybilllaw3_awake.mono _
      | exact waybillref1_Frame.mono _ _ _ _ _
      | exact waybillref1_FrameOf.mono _ _
      | exact LeO.none _
      | refine LeO.ite ?_ ?_
      | refine LeO.bind ?_ (fun _ => ?_)
    · intro y0 y1 y2 y3 y4
      unfold waybilllaw3_FramTells.l0
      repeat' first
      | (with_reducible exact ih0 _ _ _ _ _ _ _ _)
      | (with_reducible exact ih1 _ _ _ _ _ _ _ _)
      | (with_reducible exact ih2 _ _ _ _ _ _)
      | (with_reducible exact ih3 _ _ _ _)
      | (with_reducible exact ih4 _ _ _ _ _)
      | (with_reducible exact fram_Append.mono _ _ _ _ _)
      | (with_reducible exact fram_Parse.mono _ _)
      | (with_reducible exact waybilllaw3_awake.mono _)
      | (with_reducible exact waybillref1_Frame.mono _ _ _ _ _)
      | (with_reducible exact waybillref1_FrameOf.mono _ _)
      | (with_reducible exact LeO.refl _)
      | (with_reducible exact LeO.none _)
      | (with_reducible refine LeO.ite ?_ ?_)
      | (with_reducible refine LeO.bind ?_ (fun _ => ?_))
      | exact ih0 _ _ _ _ _ _ _ _
      | exact ih1 _ _ _ _ _ _ _ _
      | exact ih2 _ _ _ _ _ _
      | exact ih3 _ _ _ _
      | exact ih4 _ _ _ _ _
      | exact fram_Append.mono _ _ _ _ _
      | exact fram_Parse.mono _ _
      | exact waybilllaw3_awake.mono _
      | exact waybillref1_Frame.mono _ _ _ _ _
      | exact waybillref1_FrameOf.mono _ _
      | exact LeO.none _
      | refine LeO.ite ?_ ?_
      | refine LeO.bind ?_ (fun _ => ?_)
theorem waybilllaw3_FramTells.mono : ∀ a0 a1 a2 a3 a4 a5 a6 k, LeO (waybilllaw3_FramTells.f k a0 a1 a2 a3 a4 a5 a6) (waybilllaw3_FramTells.f (k + 1) a0 a1 a2 a3 a4 a5 a6) := by
  intro a0 a1 a2 a3 a4 a5 a6 k
  obtain ⟨ih0, ih1, ih2, ih3, ih4⟩ := waybilllaw3_FramTells.mono_l k
  unfold waybilllaw3_FramTells.f
  repeat' first
      | (with_reducible exact ih0 _ _ _ _ _ _ _ _)
      | (with_reducible exact ih1 _ _ _ _ _ _ _ _)
      | (with_reducible exact ih2 _ _ _ _ _ _)
      | (with_reducible exact ih3 _ _ _ _)
      | (with_reducible exact ih4 _ _ _ _ _)
      | (with_reducible exact fram_Append.mono _ _ _ _ _)
      | (with_reducible exact fram_Parse.mono _ _)
      | (with_reducible exact waybilllaw3_awake.mono _)
      | (with_reducible exact waybillref1_Frame.mono _ _ _ _ _)
      | (with_reducible exact waybillref1_FrameOf.mono _ _)
      | (with_reducible exact LeO.refl _)
      | (with_reducible exact LeO.none _)
      | (with_reducible refine LeO.ite ?_ ?_)
      | (with_reducible refine LeO.bind ?_ (fun _ => ?_))
      | exact ih0 _ _ _ _ _ _ _ _
      | exact ih1 _ _ _ _ _ _ _ _
      | exact ih2 _ _ _ _ _ _
      | exact ih3 _ _ _ _
      | exact ih4 _ _ _ _ _
      | exact fram_Append.mono _ _ _ _ _
      | exact fram_Parse.mono _ _
      | exact waybilllaw3_awake.mono _
      | exact waybillref1_Frame.mono _ _ _ _ _
      | exact waybillref1_FrameOf.mono _ _
      | exact LeO.none _
      | refine LeO.ite ?_ ?_
      | refine LeO.bind ?_ (fun _ => ?_)
def waybilllaw3_FramTells.T16 : Bool × List (List Nat × List Nat) := (true, [([], []), ([], []), ([], []), ([], []), ([3], [3]), ([], []), ([5], [5]), ([4, 6], [4, 6]), ([7], [7]), ([2, 8], [2, 8]), ([], []), ([], []), ([11], [11]), ([10, 12], [10, 12]), ([], []), ([13, 14, 13], [13, 14]), ([0, 1, 9, 15], [0, 1, 9, 15]), ([], []), ([16, 17], [16, 17]), ([18], [18]), ([19, 15, 0, 1, 2, 3, 4, 5, 6, 7, 8, 9, 10, 11, 12, 13, 14, 15, 16, 17, 18, 19], [19])])
def waybilllaw3_FramTells.B16 : List Nat := [0, 0, 0, 0, 8, 0, 32, 120, 248, 508, 0, 0, 2048, 7168, 0, 31744, 65535, 0, 262143, 524287, 1048575]
theorem waybilllaw3_FramTells.tab16 : rtab .any (opsOf Try.f12 16) = waybilllaw3_FramTells.T16 := by kernel_rfl
theorem waybilllaw3_FramTells.bits16 : waitsOk waybilllaw3_FramTells.T16.2 waybilllaw3_FramTells.B16 = true := by kernel_rfl
set_option maxHeartbeats 8000000 in
set_option maxRecDepth 100000 in
theorem waybilllaw3_FramTells.calls (k : Nat) (P0_ : Nat → Prop) (A0 : Option Addr) (c0 : Nat) (l0 : List Int) (a1_0 : Int) (a1_1 : Int) (A1_2 : Option Addr) (c1_2 : Nat) (l1_2 : List Int) (a2 : Int) (a3 : Int) (a4 : Int) (r : Bool) (w : World) (hs0 : Kd.V (Kd.int .u8) 5 w w.heap.size (fun k_ => P0_ k_) (.slice A0 l0.length c0) l0) (hr1_2 : Kd.C (Kd.int .u8) w A1_2 l1_2.length l1_2) (hc1_2 : l1_2.length ≤ c1_2) (h : waybilllaw3_FramTells.f k l0 a1_0 a1_1 l1_2 a2 a3 a4 = some r) :
    Calls Try.prog 12 #[.slice A0 l0.length c0, .agg #[.int .i64 a1_0, .int .i64 a1_1, .slice A1_2 l1_2.length c1_2], .int .i64 a2, .int .u8 a3, .int .i64 a4] w fun e w' => e = .returned (.bool r) ∧ Below w.heap.size w w' := by
  have hu68 := Try.underlying68
  have HO0 := Aside0.mk (show Kd.V (Kd.int .u8) 5 w w.heap.size (fun k_ => (P0_ k_ ∨ w.heap.size ≤ k_)) (.slice A0 l0.length c0) l0 from Kd.V_mono hs0 (fun k_ hk => .inl hk))
  have HR1_2 := Aside0.mk hr1_2
  have HC1_2 := Aside0.mk hc1_2
  clear hr1_2 hc1_2
  have HB := Aside0.mk (Below.refl w.heap.size w)
  have H : (if (l0.length : Int) > 5000 then (waybilllaw3_FramTells.j0 k l0 a2 a3 a4 true a1_0 a1_1 l1_2) else (waybilllaw3_FramTells.j0 k l0 a2 a3 a4 (decide ((l1_2.length : Int) > 5000)) a1_0 a1_1 l1_2)) = some r := h
  clear h
  have HC6 := Aside0.mk H
  clear H
  go_enter Try.func12, Try.ntmps12
  go_upto_region 1 with (first | ((with_reducible refine gate_dst (N := 6) rfl ?_); (try (refine gate_guard (by rfl) ?_; dsimp only)); refine box_event ?hg (N := 6) ?hd (cs := #[.int .i64 a1_0, .int .i64 a1_1, .slice A1_2 l1_2.length c1_2]) (t := 68) ?hr ?_; (case hd => rfl); (case hg => rfl); (case hr => first | (go_simp; done) | (go_simp; rfl)); intro gb595 hg w7 hbox hb; have n0_ := Aside0.mk (Kd.V_below (Kd.V_elderB (by (with_reducible repeat (first | apply Kd.V_alloc | apply Kd.V_drewN | apply Kd.V_drew)); exact HO0.out) gb595 (Nat.le_of_eq hg.symm)) hb); have n1_ := Aside0.mk (below_step (by repeat (first | (with_reducible first | exact HB.out | apply below_alloc | apply pw_below_drewN | apply below_drew1) | exact HB.out)) hb); have n2_ := Aside0.mk (hbox); have n3_ := Aside0.mk ((by rw [hg]; exact (below_size (by repeat (first | (with_reducible first | exact HB.out | apply below_alloc | apply pw_below_drewN | apply below_drew1) | exact HB.out))) : w.heap.size ≤ gb595)); have n4_ := Aside0.mk ((by rw [hg]; exact (below_size (by repeat (first | (with_reducible first | exact HB.out | apply below_alloc | apply pw_below_drewN | apply below_drew1) | exact HB.out))) : w.heap.size ≤ gb595)); clear HO0; clear HB; have HO0 := n0_; have HB := n1_; have BK595 := n2_; have GW595 := n3_; have GE595 := n4_; clear n0_ n1_ n2_ n3_ n4_; clear hb hbox hg))
  (try simp only [Act.put, List.setIfInBounds_toArray, List.set_cons_zero, List.set_cons_succ])
  go_cut [32] (fun v32 wc => ∃ (kq : Nat) (x32_5 : Bool), v32 = .bool x32_5 ∧ Aside0 (waybilllaw3_FramTells.j0 kq l0 a2 a3 a4 x32_5 a1_0 a1_1 l1_2 = some r) ∧ Aside0 (kq ≤ k) ∧ Aside0 (Kd.V (Kd.int .u8) 5 wc w.heap.size (fun k_ => (P0_ k_ ∨ w.heap.size ≤ k_) ∧ k_ ≠ gb595) (.slice A0 l0.length c0) l0) ∧ Aside0 (wc.heap[gb595]? = some (.cells #[.int .i64 a1_0, .int .i64 a1_1, (.slice A1_2 l1_2.length c1_2)] 68 (0, 0))) ∧ Aside0 (Below w.heap.size w wc))
  case first =>
    have H := HC6.out
    clear HC6
    by_cases c8 : (l0.length : Int) > 5000
    · rw [if_pos c8] at H
      have c8b0 : decide (5000 < (l0.length : Int)) = true := decide_eq_true c8
      have c8b1 : decide (5000 < l0.length) = true := decide_eq_true (by omega)
      clear c8
      (first | rw [c8b0] | rw [c8b2] | rw [c8b1] | (simp only [i64_w, i32_w]; rw [c8b0]) | skip)
      have H' := Aside0.mk H
      clear H
      go_wp2
      go_meet
      case rel => exact ⟨_, (true), (by first | rfl | (simp; done) | (simp [*]; done)), H', ⟨by first | omega | exact Nat.le_refl _⟩, ⟨by (with_reducible repeat (first | apply Kd.V_alloc | apply Kd.V_drewN | apply Kd.V_drew)); exact HO0.out⟩, ⟨by (with_reducible repeat (first | refine blk_drewN ?_ _ | refine blk_drew ?_ | refine blk_alloc ?_ _)); exact BK595.out⟩, ⟨by repeat (first | (with_reducible first | exact HB.out | apply below_alloc | apply pw_below_drewN | apply below_drew1 | refine below_set ?_ GE595.out) | exact HB.out)⟩⟩
    · rw [if_neg c8] at H
      have c8b0 : decide (5000 < (l0.length : Int)) = false := decide_eq_false c8
      have c8b1 : decide (5000 < l0.length) = false := decide_eq_false (by omega)
      clear c8
      (first | rw [c8b0] | rw [c8b2] | rw [c8b1] | (simp only [i64_w, i32_w]; rw [c8b0]) | skip)
      have H' := Aside0.mk H
      clear H
      have hcz9_0 : w7.cell? ⟨gb595, 0, none⟩ = some (.int .i64 a1_0) := (blk_cell BK595.out 0).trans rfl
      have hcz9_1 : w7.cell? ⟨gb595, 1, none⟩ = some (.int .i64 a1_1) := (blk_cell BK595.out 1).trans rfl
      have hcz9_2 : w7.cell? ⟨gb595, 2, none⟩ = some (.slice A1_2 l1_2.length c1_2) := (blk_cell BK595.out 2).trans rfl
      have hfz9_0 := blk_frozen BK595.out 0
      have hfz9_1 := blk_frozen BK595.out 1
      have hfz9_2 := blk_frozen BK595.out 2
      go_wp2
      go_meet
      case rel => exact ⟨_, (decide ((l1_2.length : Int) > 5000)), (by first | rfl | (simp; done) | (simp [*]; done)), H', ⟨by first | omega | exact Nat.le_refl _⟩, ⟨by (with_reducible repeat (first | apply Kd.V_alloc | apply Kd.V_drewN | apply Kd.V_drew)); exact HO0.out⟩, ⟨by (with_reducible repeat (first | refine blk_drewN ?_ _ | refine blk_drew ?_ | refine blk_alloc ?_ _)); exact BK595.out⟩, ⟨by repeat (first | (with_reducible first | exact HB.out | apply below_alloc | apply pw_below_drewN | apply below_drew1 | refine below_set ?_ GE595.out) | exact HB.out)⟩⟩
  case rest =>
    clear HC6
    try clear c1
    try clear p2
    try clear c8
    try clear c8b0
    try clear c8b1
    try clear hcz9_0
    try clear hcz9_1
    try clear hcz9_2
    try clear hfz9_0
    try clear hfz9_1
    try clear hfz9_2
    obtain ⟨kq, x32_5, rfl, HA, HJ5, HO_0, BK595, HB⟩ := hcut
    cases kq with
    | zero => exact absurd HA.out (by simp [waybilllaw3_FramTells.j0])
    | succ kj5 =>
      have H := HA.out
      clear HA
      simp only [waybilllaw3_FramTells.j0] at H
      by_cases c10 : x32_5 = true
      · subst c10
        have H1 : ((waybilllaw3_awake.f kj5).bind fun t596 => (some t596)) = some r := by rw [if_pos rfl] at H; exact H
        clear H
        have H := H1
        clear H1
        replace H := Option.bind_eq_some_iff.mp H
        obtain ⟨t596, A110, H⟩ := H
        replace H : (some t596) = some r := H
        have A11 := Aside0.mk A110
        clear A110
        obtain rfl := Option.some.inj H
        go_wp2_with (first | ((with_reducible refine gate_callee (f := 38) rfl ?_); refine goesL_ (some 33) rfl rfl Try.func38 (by kernel_rfl) rfl #[] rfl (by (try simp only [List.map_toArray, List.map_cons, List.map_nil]); first | done | rfl | (simp only [List.length_drop, List.length_take]; rfl)) ?_; (with_reducible refine (waybilllaw3_awake.calls kj5  t596 _ A11.out).mono ?_); rintro e w12 ⟨rfl, hb⟩; refine ⟨_, rfl, ?_⟩; have n0_ := Aside0.mk (Kd.V_below (by (with_reducible repeat (first | apply Kd.V_alloc | apply Kd.V_drewN | apply Kd.V_drew)); exact HO_0.out) hb); have n1_ := Aside0.mk (blk_below (g := gb595) (o := .cells #[.int .i64 a1_0, .int .i64 a1_1, .slice A1_2 l1_2.length c1_2] 68 (0, 0)) (by (with_reducible repeat (first | refine blk_drewN ?_ _ | refine blk_drew ?_ | refine blk_alloc ?_ _)); exact BK595.out) hb); have n2_ := Aside0.mk (below_step (by repeat (first | (with_reducible first | exact HB.out | apply below_alloc | apply pw_below_drewN | apply below_drew1 | refine below_set ?_ GE595.out) | exact HB.out)) hb); clear HO_0; clear BK595; clear HB; have HO_0 := n0_; have BK595 := n1_; have HB := n2_; clear n0_ n1_ n2_; (try clear hb); (try clear hb2); (try clear hk); (try clear hi); (try clear hge)))
        all_goals first | (go_ret; exact ⟨by first | rfl | (simp [errW_none, errW_some]; done) | (simp [errW_none, errW_some]; rfl) | (simp [*, errW_none, errW_some]; done) | (simp [*, errW_none, errW_some]; rfl), by repeat (first | (with_reducible first | exact HB.out | apply below_alloc | apply pw_below_drewN | apply below_drew1 | refine below_set ?_ GE595.out) | exact HB.out)⟩) | (exfalso; simp_all; done)
      · replace c10 := Bool.eq_false_iff.mpr c10
        subst c10
        have H1 : ((fram_Append.f kj5 (([5] : List Int)) a1_0 a1_1 l1_2).bind fun bt600 => ((waybillref1_FrameOk.f a1_0 a1_1 l1_2).bind fun t604 => ((some (([5] : List Int) : List Int)).bind fun y605 => (if t604 = true then ((waybillref1_Frame.f kj5 y605 a1_0 a1_1 l1_2).bind fun t608 => (waybilllaw3_FramTells.j1 kj5 l0 a2 a3 a4 bt600.1 bt600.2 t604 t608)) else (waybilllaw3_FramTells.j1 kj5 l0 a2 a3 a4 bt600.1 bt600.2 t604 y605))))) = some r := by rw [if_neg (show ¬ (false = true) by decide)] at H; exact H
        clear H
        have H := H1
        clear H1
        obtain ⟨y597, hy597⟩ : ∃ y_ : List Int, y_ = (([5] : List Int)) := ⟨_, rfl⟩
        replace H : ((fram_Append.f kj5 y597 a1_0 a1_1 l1_2).bind fun bt600 => ((waybillref1_FrameOk.f a1_0 a1_1 l1_2).bind fun t604 => ((some (([5] : List Int) : List Int)).bind fun y605 => (if t604 = true then ((waybillref1_Frame.f kj5 y605 a1_0 a1_1 l1_2).bind fun t608 => (waybilllaw3_FramTells.j1 kj5 l0 a2 a3 a4 bt600.1 bt600.2 t604 t608)) else (waybilllaw3_FramTells.j1 kj5 l0 a2 a3 a4 bt600.1 bt600.2 t604 y605))))) = some r := by first | (rw [hy597]; with_reducible exact H) | (have H2_ := (Option.bind_some _ _).symm.trans H; rw [hy597]; with_reducible exact H2_) | (have H2_ := (Option.bind_some _ _).symm.trans H; with_reducible exact H2_) | with_reducible exact H | (rw [hy597]; exact H) | exact H
        have Ny597 := Aside0.mk hy597
        clear hy597
        replace H := Option.bind_eq_some_iff.mp H
        obtain ⟨⟨t600, t603⟩, A130, H⟩ := H
        replace H : ((waybillref1_FrameOk.f a1_0 a1_1 l1_2).bind fun t604 => ((some (([5] : List Int) : List Int)).bind fun y605 => (if t604 = true then ((waybillref1_Frame.f kj5 y605 a1_0 a1_1 l1_2).bind fun t608 => (waybilllaw3_FramTells.j1 kj5 l0 a2 a3 a4 t600 t603 t604 t608)) else (waybilllaw3_FramTells.j1 kj5 l0 a2 a3 a4 t600 t603 t604 y605)))) = some r := H
        have A13 := Aside0.mk A130
        clear A130
        replace H := Option.bind_eq_some_iff.mp H
        obtain ⟨t604, A140, H⟩ := H
        replace H : ((some (([5] : List Int) : List Int)).bind fun y605 => (if t604 = true then ((waybillref1_Frame.f kj5 y605 a1_0 a1_1 l1_2).bind fun t608 => (waybilllaw3_FramTells.j1 kj5 l0 a2 a3 a4 t600 t603 t604 t608)) else (waybilllaw3_FramTells.j1 kj5 l0 a2 a3 a4 t600 t603 t604 y605))) = some r := H
        have A14 := Aside0.mk A140
        clear A140
        obtain ⟨y605, hy605⟩ : ∃ y_ : List Int, y_ = (([5] : List Int)) := ⟨_, rfl⟩
        replace H : (if t604 = true then ((waybillref1_Frame.f kj5 y605 a1_0 a1_1 l1_2).bind fun t608 => (waybilllaw3_FramTells.j1 kj5 l0 a2 a3 a4 t600 t603 t604 t608)) else (waybilllaw3_FramTells.j1 kj5 l0 a2 a3 a4 t600 t603 t604 y605)) = some r := by first | (rw [hy605]; with_reducible exact H) | (have H2_ := (Option.bind_some _ _).symm.trans H; rw [hy605]; with_reducible exact H2_) | (have H2_ := (Option.bind_some _ _).symm.trans H; with_reducible exact H2_) | with_reducible exact H | (rw [hy605]; exact H) | exact H
        have Ny605 := Aside0.mk hy605
        clear hy605
        have HC15 := Aside0.mk H
        clear H
        go_upto_if 43 with (first | ((with_reducible refine gate_dst (N := 35) rfl ?_); (try (refine gate_guard (by rfl) ?_; dsimp only)); refine Kd.R_lit (Kd.int .u8) _ 5 ?hg (N := 35) ?hd (xs := ([5] : List Int)) (inner := [.int .u8 5]) (ok := fun _ => True) (okp := fun _ => True) ?hr ?hp (fun _ hk => hk) trivial (Below.refl _ _) (Nat.le_refl _) (by simp) ?_; (case hd => rfl); (case hg => rfl); (case hr => first | (go_simp; done) | (go_simp; rfl)); (case hp => exact (Reps.one (show Kd.M (Kd.int .u8) _ _ _ 5 [.int .u8 5] from rfl) (Reps.none _ _))); intro v598 w16 ho17 hb hg_ hnew_; clear hg_ hnew_; (first | rw [← Ny597.out] at ho17 | (simp only [Int.reduceToNat] at ho17; rw [← Ny597.out] at ho17)); have n0_ := Aside0.mk (Kd.V_elder' (by (with_reducible repeat (first | apply Kd.V_alloc | apply Kd.V_drewN | apply Kd.V_drew)); exact HO_0.out) (Kd.R_base ho17) hb); have n1_ := Aside0.mk (Kd.R_lower (Kd.R_newM (M := fun k_ => (w.heap.size ≤ k_)) ho17 (below_size (by repeat (first | (with_reducible first | exact HB.out | apply below_alloc | apply pw_below_drewN | apply below_drew1 | refine below_set ?_ GE595.out) | exact HB.out))) (fun k_ h_ => h_)) (below_size (by repeat (first | (with_reducible first | exact HB.out | apply below_alloc | apply pw_below_drewN | apply below_drew1 | refine below_set ?_ GE595.out) | exact HB.out)))); have n2_ := Aside0.mk (blk_below (g := gb595) (o := .cells #[.int .i64 a1_0, .int .i64 a1_1, .slice A1_2 l1_2.length c1_2] 68 (0, 0)) (by (with_reducible repeat (first | refine blk_drewN ?_ _ | refine blk_drew ?_ | refine blk_alloc ?_ _)); exact BK595.out) hb); have n3_ := Aside0.mk (below_step (by repeat (first | (with_reducible first | exact HB.out | apply below_alloc | apply pw_below_drewN | apply below_drew1 | refine below_set ?_ GE595.out) | exact HB.out)) hb); clear HO_0; clear BK595; clear HB; have HO_0 := n0_; have HO599 := n1_; have BK595 := n2_; have HB := n3_; clear n0_ n1_ n2_ n3_; clear hb ho17; have hcz18_0 : w16.cell? ⟨gb595, 0, none⟩ = some (.int .i64 a1_0) := (blk_cell BK595.out 0).trans rfl; have hcz18_1 : w16.cell? ⟨gb595, 1, none⟩ = some (.int .i64 a1_1) := (blk_cell BK595.out 1).trans rfl; have hcz18_2 : w16.cell? ⟨gb595, 2, none⟩ = some (.slice A1_2 l1_2.length c1_2) := (blk_cell BK595.out 2).trans rfl; have hfz18_0 := blk_frozen BK595.out 0; have hfz18_1 := blk_frozen BK595.out 1; have hfz18_2 := blk_frozen BK595.out 2; obtain ⟨Ao19, co19, eo19⟩ := Kd.R_slice HO599.out; subst eo19) | ((with_reducible refine gate_callee (f := 39) rfl ?_); refine goesL_ (some 37) rfl rfl Try.func39 (by kernel_rfl) rfl #[.slice Ao19 y597.length co19, .agg #[.int .i64 a1_0, .int .i64 a1_1, .slice A1_2 l1_2.length c1_2]] rfl (by (try simp only [List.map_toArray, List.map_cons, List.map_nil]); first | done | rfl | (simp only [List.length_drop, List.length_take]; rfl)) ?_; (with_reducible refine (fram_Append.calls kj5 _ _ y597 a1_0 a1_1 _ _ l1_2 t600 t603 _ ?side1 ?side2 ?side3 ?side4 A13.out).mono ?_); (case side1 => repeat (first | exact (Kd.R_reads' HO599.out).2.2 | (with_reducible refine Kd.C_alloc ?_ _) | (with_reducible refine Kd.C_drewN ?_ _) | (with_reducible refine Kd.C_drew ?_))); (case side2 => exact (Kd.R_reads' HO599.out).2.1); (case side3 => repeat (first | exact (Kd.C_below HR1_2.out HB.out) | (with_reducible refine Kd.C_alloc ?_ _) | (with_reducible refine Kd.C_drewN ?_ _) | (with_reducible refine Kd.C_drew ?_))); (case side4 => exact HC1_2.out); rintro e w20 ⟨v601, rfl, ho0, hb⟩; refine ⟨_, rfl, ?_⟩; have n0_ := Aside0.mk (Kd.V_elder' (by (with_reducible repeat (first | apply Kd.V_alloc | apply Kd.V_drewN | apply Kd.V_drew)); exact HO_0.out) (Kd.R_base ho0) hb); have n1_ := Aside0.mk (Kd.R_elder' (by (with_reducible repeat (first | apply Kd.R_alloc | apply Kd.R_drewN | apply Kd.R_drew)); exact HO599.out) (Kd.R_base ho0) hb); have n2_ := Aside0.mk (Kd.R_lower (Kd.R_new' (Kd.R_newM (M := fun k_ => (w.heap.size ≤ k_)) ho0 (below_size (by repeat (first | (with_reducible first | exact HB.out | apply below_alloc | apply pw_below_drewN | apply below_drew1 | refine below_set ?_ GE595.out) | exact HB.out))) (fun k_ h_ => h_)) (Kd.R_lt (by (with_reducible repeat (first | apply Kd.R_alloc | apply Kd.R_drewN | apply Kd.R_drew)); exact HO599.out))) (below_size (by repeat (first | (with_reducible first | exact HB.out | apply below_alloc | apply pw_below_drewN | apply below_drew1 | refine below_set ?_ GE595.out) | exact HB.out)))); have n3_ := Aside0.mk (blk_below (g := gb595) (o := .cells #[.int .i64 a1_0, .int .i64 a1_1, .slice A1_2 l1_2.length c1_2] 68 (0, 0)) (by (with_reducible repeat (first | refine blk_drewN ?_ _ | refine blk_drew ?_ | refine blk_alloc ?_ _)); exact BK595.out) hb); have n4_ := Aside0.mk (below_step (by repeat (first | (with_reducible first | exact HB.out | apply below_alloc | apply pw_below_drewN | apply below_drew1 | refine below_set ?_ GE595.out) | exact HB.out)) hb); clear HO_0; clear HO599; clear BK595; clear HB; have HO_0 := n0_; have HO599 := n1_; have HO602 := n2_; have BK595 := n3_; have HB := n4_; clear n0_ n1_ n2_ n3_ n4_; (try clear hb); (try clear hb2); (try clear hk); (try clear hi); (try clear hge); (try clear ho0); have hcz21_0 : w20.cell? ⟨gb595, 0, none⟩ = some (.int .i64 a1_0) := (blk_cell BK595.out 0).trans rfl; have hcz21_1 : w20.cell? ⟨gb595, 1, none⟩ = some (.int .i64 a1_1) := (blk_cell BK595.out 1).trans rfl; have hcz21_2 : w20.cell? ⟨gb595, 2, none⟩ = some (.slice A1_2 l1_2.length c1_2) := (blk_cell BK595.out 2).trans rfl; have hfz21_0 := blk_frozen BK595.out 0; have hfz21_1 := blk_frozen BK595.out 1; have hfz21_2 := blk_frozen BK595.out 2) | ((with_reducible refine gate_callee (f := 42) rfl ?_); refine goesL_ (some 41) rfl rfl Try.func42 (by kernel_rfl) rfl #[.agg #[.int .i64 a1_0, .int .i64 a1_1, .slice A1_2 l1_2.length c1_2]] rfl (by (try simp only [List.map_toArray, List.map_cons, List.map_nil]); first | done | rfl | (simp only [List.length_drop, List.length_take]; rfl)) ?_; (with_reducible refine (waybillref1_FrameOk.calls a1_0 a1_1 _ _ l1_2 t604 _ ?side1 ?side2 A14.out).mono ?_); (case side1 => repeat (first | exact (Kd.C_below HR1_2.out HB.out) | (with_reducible refine Kd.C_alloc ?_ _) | (with_reducible refine Kd.C_drewN ?_ _) | (with_reducible refine Kd.C_drew ?_))); (case side2 => exact HC1_2.out); rintro e w22 ⟨rfl, hb⟩; refine ⟨_, rfl, ?_⟩; have n0_ := Aside0.mk (Kd.V_below (by (with_reducible repeat (first | apply Kd.V_alloc | apply Kd.V_drewN | apply Kd.V_drew)); exact HO_0.out) hb); have n1_ := Aside0.mk (Kd.R_below (by (with_reducible repeat (first | apply Kd.R_alloc | apply Kd.R_drewN | apply Kd.R_drew)); exact HO599.out) hb); have n2_ := Aside0.mk (Kd.R_below (by (with_reducible repeat (first | apply Kd.R_alloc | apply Kd.R_drewN | apply Kd.R_drew)); exact HO602.out) hb); have n3_ := Aside0.mk (blk_below (g := gb595) (o := .cells #[.int .i64 a1_0, .int .i64 a1_1, .slice A1_2 l1_2.length c1_2] 68 (0, 0)) (by (with_reducible repeat (first | refine blk_drewN ?_ _ | refine blk_drew ?_ | refine blk_alloc ?_ _)); exact BK595.out) hb); have n4_ := Aside0.mk (below_step (by repeat (first | (with_reducible first | exact HB.out | apply below_alloc | apply pw_below_drewN | apply below_drew1 | refine below_set ?_ GE595.out) | exact HB.out)) hb); clear HO_0; clear HO599; clear HO602; clear BK595; clear HB; have HO_0 := n0_; have HO599 := n1_; have HO602 := n2_; have BK595 := n3_; have HB := n4_; clear n0_ n1_ n2_ n3_ n4_; (try clear hb); (try clear hb2); (try clear hk); (try clear hi); (try clear hge)) | ((with_reducible refine gate_dst (N := 42) rfl ?_); (try (refine gate_guard (by rfl) ?_; dsimp only)); refine Kd.R_lit (Kd.int .u8) _ 5 ?hg (N := 42) ?hd (xs := ([5] : List Int)) (inner := [.int .u8 5]) (ok := fun _ => True) (okp := fun _ => True) ?hr ?hp (fun _ hk => hk) trivial (Below.refl _ _) (Nat.le_refl _) (by simp) ?_; (case hd => rfl); (case hg => rfl); (case hr => first | (go_simp; done) | (go_simp; rfl)); (case hp => exact (Reps.one (show Kd.M (Kd.int .u8) _ _ _ 5 [.int .u8 5] from rfl) (Reps.none _ _))); intro v606 w23 ho24 hb hg_ hnew_; clear hg_ hnew_; (first | rw [← Ny605.out] at ho24 | (simp only [Int.reduceToNat] at ho24; rw [← Ny605.out] at ho24)); have n0_ := Aside0.mk (Kd.V_elder' (by (with_reducible repeat (first | apply Kd.V_alloc | apply Kd.V_drewN | apply Kd.V_drew)); exact HO_0.out) (Kd.R_base ho24) hb); have n1_ := Aside0.mk (Kd.R_elder' (by (with_reducible repeat (first | apply Kd.R_alloc | apply Kd.R_drewN | apply Kd.R_drew)); exact HO599.out) (Kd.R_base ho24) hb); have n2_ := Aside0.mk (Kd.R_elder' (by (with_reducible repeat (first | apply Kd.R_alloc | apply Kd.R_drewN | apply Kd.R_drew)); exact HO602.out) (Kd.R_base ho24) hb); have n3_ := Aside0.mk (Kd.R_lower (Kd.R_new' (Kd.R_new' (Kd.R_newM (M := fun k_ => (w.heap.size ≤ k_)) ho24 (below_size (by repeat (first | (with_reducible first | exact HB.out | apply below_alloc | apply pw_below_drewN | apply below_drew1 | refine below_set ?_ GE595.out) | exact HB.out))) (fun k_ h_ => h_)) (Kd.R_lt (by (with_reducible repeat (first | apply Kd.R_alloc | apply Kd.R_drewN | apply Kd.R_drew)); exact HO599.out))) (Kd.R_lt (by (with_reducible repeat (first | apply Kd.R_alloc | apply Kd.R_drewN | apply Kd.R_drew)); exact HO602.out))) (below_size (by repeat (first | (with_reducible first | exact HB.out | apply below_alloc | apply pw_below_drewN | apply below_drew1 | refine below_set ?_ GE595.out) | exact HB.out)))); have n4_ := Aside0.mk (blk_below (g := gb595) (o := .cells #[.int .i64 a1_0, .int .i64 a1_1, .slice A1_2 l1_2.length c1_2] 68 (0, 0)) (by (with_reducible repeat (first | refine blk_drewN ?_ _ | refine blk_drew ?_ | refine blk_alloc ?_ _)); exact BK595.out) hb); have n5_ := Aside0.mk (below_step (by repeat (first | (with_reducible first | exact HB.out | apply below_alloc | apply pw_below_drewN | apply below_drew1 | refine below_set ?_ GE595.out) | exact HB.out)) hb); clear HO_0; clear HO599; clear HO602; clear BK595; clear HB; have HO_0 := n0_; have HO599 := n1_; have HO602 := n2_; have HO607 := n3_; have BK595 := n4_; have HB := n5_; clear n0_ n1_ n2_ n3_ n4_ n5_; clear hb ho24))
        (try simp only [Act.put, List.setIfInBounds_toArray, List.set_cons_zero, List.set_cons_succ])
        go_cut [14] (fun v14 wc => ∃ (kq : Nat) (x14_14 : List Int), Aside0 (waybilllaw3_FramTells.j1 kq l0 a2 a3 a4 t600 t603 t604 x14_14 = some r) ∧ Aside0 (kq ≤ kj5) ∧ Aside0 (Kd.V (Kd.int .u8) 5 wc w.heap.size (fun k_ => (P0_ k_ ∨ w.heap.size ≤ k_) ∧ some k_ ≠ (v601 : Value).ownBlock ∧ some k_ ≠ (v14 : Value).ownBlock ∧ k_ ≠ gb595) (.slice A0 l0.length c0) l0) ∧ Aside0 (Kd.R (Kd.int .u8) 5 wc w.heap.size (fun k_ => (w.heap.size ≤ k_) ∧ some k_ ≠ (v14 : Value).ownBlock) v601 t600) ∧ Aside0 (Kd.R (Kd.int .u8) 5 wc w.heap.size (fun k_ => (w.heap.size ≤ k_) ∧ some k_ ≠ (v601 : Value).ownBlock) v14 x14_14) ∧ Aside0 (wc.heap[gb595]? = some (.cells #[.int .i64 a1_0, .int .i64 a1_1, (.slice A1_2 l1_2.length c1_2)] 68 (0, 0))) ∧ Aside0 (Below w.heap.size w wc))
        case first =>
          have H := HC15.out
          clear HC15
          by_cases c25 : t604 = true
          · subst c25
            have H1 : ((waybillref1_Frame.f kj5 y605 a1_0 a1_1 l1_2).bind fun t608 => (waybilllaw3_FramTells.j1 kj5 l0 a2 a3 a4 t600 t603 true t608)) = some r := by rw [if_pos rfl] at H; exact H
            clear H
            have H := H1
            clear H1
            replace H := Option.bind_eq_some_iff.mp H
            obtain ⟨t608, A260, H⟩ := H
            replace H : (waybilllaw3_FramTells.j1 kj5 l0 a2 a3 a4 t600 t603 true t608) = some r := H
            have A26 := Aside0.mk A260
            clear A260
            have H' := Aside0.mk H
            clear H
            have hcz27_0 : w23.cell? ⟨gb595, 0, none⟩ = some (.int .i64 a1_0) := (blk_cell BK595.out 0).trans rfl
            have hcz27_1 : w23.cell? ⟨gb595, 1, none⟩ = some (.int .i64 a1_1) := (blk_cell BK595.out 1).trans rfl
            have hcz27_2 : w23.cell? ⟨gb595, 2, none⟩ = some (.slice A1_2 l1_2.length c1_2) := (blk_cell BK595.out 2).trans rfl
            have hfz27_0 := blk_frozen BK595.out 0
            have hfz27_1 := blk_frozen BK595.out 1
            have hfz27_2 := blk_frozen BK595.out 2
            obtain ⟨Ao28, co28, eo28⟩ := Kd.R_slice HO607.out
            subst eo28
            go_wp2_with (first | ((with_reducible refine gate_callee (f := 43) rfl ?_); refine goesL_ (some 46) rfl rfl Try.func43 (by kernel_rfl) rfl #[.slice Ao28 y605.length co28, .agg #[.int .i64 a1_0, .int .i64 a1_1, .slice A1_2 l1_2.length c1_2]] rfl (by (try simp only [List.map_toArray, List.map_cons, List.map_nil]); first | done | rfl | (simp only [List.length_drop, List.length_take]; rfl)) ?_; (with_reducible refine (waybillref1_Frame.calls kj5 _ _ y605 a1_0 a1_1 _ _ l1_2 t608 _ ?side1 ?side2 ?side3 ?side4 A26.out).mono ?_); (case side1 => repeat (first | exact (Kd.R_reads' HO607.out).2.2 | (with_reducible refine Kd.C_alloc ?_ _) | (with_reducible refine Kd.C_drewN ?_ _) | (with_reducible refine Kd.C_drew ?_))); (case side2 => exact (Kd.R_reads' HO607.out).2.1); (case side3 => repeat (first | exact (Kd.C_below HR1_2.out HB.out) | (with_reducible refine Kd.C_alloc ?_ _) | (with_reducible refine Kd.C_drewN ?_ _) | (with_reducible refine Kd.C_drew ?_))); (case side4 => exact HC1_2.out); rintro e w29 ⟨v609, rfl, ho0, hb⟩; refine ⟨_, rfl, ?_⟩; have n0_ := Aside0.mk (Kd.V_elder' (by (with_reducible repeat (first | apply Kd.V_alloc | apply Kd.V_drewN | apply Kd.V_drew)); exact HO_0.out) (Kd.R_base ho0) hb); have n1_ := Aside0.mk (Kd.R_elder' (by (with_reducible repeat (first | apply Kd.R_alloc | apply Kd.R_drewN | apply Kd.R_drew)); exact HO599.out) (Kd.R_base ho0) hb); have n2_ := Aside0.mk (Kd.R_elder' (by (with_reducible repeat (first | apply Kd.R_alloc | apply Kd.R_drewN | apply Kd.R_drew)); exact HO602.out) (Kd.R_base ho0) hb); have n3_ := Aside0.mk (Kd.R_elder' (by (with_reducible repeat (first | apply Kd.R_alloc | apply Kd.R_drewN | apply Kd.R_drew)); exact HO607.out) (Kd.R_base ho0) hb); have n4_ := Aside0.mk (Kd.R_lower (Kd.R_new' (Kd.R_new' (Kd.R_new' (Kd.R_newM (M := fun k_ => (w.heap.size ≤ k_)) ho0 (below_size (by repeat (first | (with_reducible first | exact HB.out | apply below_alloc | apply pw_below_drewN | apply below_drew1 | refine below_set ?_ GE595.out) | exact HB.out))) (fun k_ h_ => h_)) (Kd.R_lt (by (with_reducible repeat (first | apply Kd.R_alloc | apply Kd.R_drewN | apply Kd.R_drew)); exact HO599.out))) (Kd.R_lt (by (with_reducible repeat (first | apply Kd.R_alloc | apply Kd.R_drewN | apply Kd.R_drew)); exact HO602.out))) (Kd.R_lt (by (with_reducible repeat (first | apply Kd.R_alloc | apply Kd.R_drewN | apply Kd.R_drew)); exact HO607.out))) (below_size (by repeat (first | (with_reducible first | exact HB.out | apply below_alloc | apply pw_below_drewN | apply below_drew1 | refine below_set ?_ GE595.out) | exact HB.out)))); have n5_ := Aside0.mk (blk_below (g := gb595) (o := .cells #[.int .i64 a1_0, .int .i64 a1_1, .slice A1_2 l1_2.length c1_2] 68 (0, 0)) (by (with_reducible repeat (first | refine blk_drewN ?_ _ | refine blk_drew ?_ | refine blk_alloc ?_ _)); exact BK595.out) hb); have n6_ := Aside0.mk (below_step (by repeat (first | (with_reducible first | exact HB.out | apply below_alloc | apply pw_below_drewN | apply below_drew1 | refine below_set ?_ GE595.out) | exact HB.out)) hb); clear HO_0; clear HO599; clear HO602; clear HO607; clear BK595; clear HB; have HO_0 := n0_; have HO599 := n1_; have HO602 := n2_; have HO607 := n3_; have HO610 := n4_; have BK595 := n5_; have HB := n6_; clear n0_ n1_ n2_ n3_ n4_ n5_ n6_; (try clear hb); (try clear hb2); (try clear hk); (try clear hi); (try clear hge); (try clear ho0)))
            go_meet
            case rel => exact ⟨_, (t608), H', ⟨by have := HJ5.out; first | omega | exact Nat.le_refl _⟩, ⟨by (with_reducible repeat (first | apply Kd.V_alloc | apply Kd.V_drewN | apply Kd.V_drew)); exact Kd.V_mono HO_0.out (fun _ hk => ⟨hk.1.1.1.1.1, ⟨hk.1.1.2, ⟨hk.2, hk.1.1.1.1.2⟩⟩⟩)⟩, ⟨by (with_reducible repeat (first | apply Kd.R_alloc | apply Kd.R_drewN | apply Kd.R_drew)); exact Kd.R_mono HO602.out (fun _ hk => ⟨hk.1.1.1.1, hk.2⟩)⟩, ⟨by (with_reducible repeat (first | apply Kd.R_alloc | apply Kd.R_drewN | apply Kd.R_drew)); exact Kd.R_mono HO610.out (fun _ hk => ⟨hk.1.1.1.1, hk.1.2⟩)⟩, ⟨by (with_reducible repeat (first | refine blk_drewN ?_ _ | refine blk_drew ?_ | refine blk_alloc ?_ _)); exact BK595.out⟩, ⟨by repeat (first | (with_reducible first | exact HB.out | apply below_alloc | apply pw_below_drewN | apply below_drew1 | refine below_set ?_ GE595.out) | exact HB.out)⟩⟩
          · replace c25 := Bool.eq_false_iff.mpr c25
            subst c25
            have H1 : (waybilllaw3_FramTells.j1 kj5 l0 a2 a3 a4 t600 t603 false y605) = some r := by rw [if_neg (show ¬ (false = true) by decide)] at H; exact H
            clear H
            have H := H1
            clear H1
            have H' := Aside0.mk H
            clear H
            go_wp2
            go_meet
            case rel => exact ⟨_, (y605), H', ⟨by have := HJ5.out; first | omega | exact Nat.le_refl _⟩, ⟨by (with_reducible repeat (first | apply Kd.V_alloc | apply Kd.V_drewN | apply Kd.V_drew)); exact Kd.V_mono HO_0.out (fun _ hk => ⟨hk.1.1.1.1, ⟨hk.1.2, ⟨hk.2, hk.1.1.1.2⟩⟩⟩)⟩, ⟨by (with_reducible repeat (first | apply Kd.R_alloc | apply Kd.R_drewN | apply Kd.R_drew)); exact Kd.R_mono HO602.out (fun _ hk => ⟨hk.1.1.1, hk.2⟩)⟩, ⟨by (with_reducible repeat (first | apply Kd.R_alloc | apply Kd.R_drewN | apply Kd.R_drew)); exact Kd.R_mono HO607.out (fun _ hk => ⟨hk.1.1.1, hk.2⟩)⟩, ⟨by (with_reducible repeat (first | refine blk_drewN ?_ _ | refine blk_drew ?_ | refine blk_alloc ?_ _)); exact BK595.out⟩, ⟨by repeat (first | (with_reducible first | exact HB.out | apply below_alloc | apply pw_below_drewN | apply below_drew1 | refine below_set ?_ GE595.out) | exact HB.out)⟩⟩
        case rest =>
          clear HC15
          try clear c1
          try clear c2
          try clear p2
          try clear c3
          try clear c4
          try clear c8
          try clear c8b0
          try clear c8b1
          try clear c10
          try clear c12
          try clear c25
          try clear hcz18_0
          try clear hcz18_1
          try clear hcz18_2
          try clear hcz21_0
          try clear hcz21_1
          try clear hcz21_2
          try clear hcz27_0
          try clear hcz27_1
          try clear hcz27_2
          try clear hcz9_0
          try clear hcz9_1
          try clear hcz9_2
          try clear hfz18_0
          try clear hfz18_1
          try clear hfz18_2
          try clear hfz21_0
          try clear hfz21_1
          try clear hfz21_2
          try clear hfz27_0
          try clear hfz27_1
          try clear hfz27_2
          try clear hfz9_0
          try clear hfz9_1
          try clear hfz9_2
          try clear p2
          obtain ⟨kq, x14_14, HA, HJ14, HO_0, HO_11, HO_14, BK595, HB⟩ := hcut
          cases kq with
          | zero => exact absurd HA.out (by simp [waybilllaw3_FramTells.j1])
          | succ kj14 =>
            have H := HA.out
            clear HA
            simp only [waybilllaw3_FramTells.j1] at H
            have HC30 := Aside0.mk H
            clear H
            go_upto_region 8 with (fail)
            go_cut [56] (fun v56 wc => ∃ (kq : Nat) (x56_29 : Bool), v56 = .bool x56_29 ∧ Aside0 (waybilllaw3_FramTells.j2 kq l0 a2 a3 a4 x14_14 x56_29 = some r) ∧ Aside0 (kq ≤ kj14) ∧ Aside0 (Kd.V (Kd.int .u8) 5 wc w.heap.size (fun k_ => (P0_ k_ ∨ w.heap.size ≤ k_) ∧ some k_ ≠ (u14 : Value).ownBlock ∧ k_ ≠ gb595) (.slice A0 l0.length c0) l0) ∧ Aside0 (Kd.R (Kd.int .u8) 5 wc w.heap.size (fun k_ => (w.heap.size ≤ k_)) u14 x14_14) ∧ Aside0 (wc.heap[gb595]? = some (.cells #[.int .i64 a1_0, .int .i64 a1_1, (.slice A1_2 l1_2.length c1_2)] 68 (0, 0))) ∧ Aside0 (Below w.heap.size w wc))
            case first =>
              have H := HC30.out
              clear HC30
              by_cases c31 : (t603 != t604) = true
              · rw [if_pos c31] at H
                have c31b0 : (t603 != t604) = true := c31
                (try (have c31b1 : decide (t603 = t604) = false := by simpa using c31))
                (try (have c31b2 : (t603 == t604) = false := by simpa using c31))
                (try (have c31b3 : ¬ (t603 = t604) := by simpa using c31))
                clear c31
                (first | rw [c31b0] | rw [c31b2] | rw [c31b1] | (simp only [i64_w, i32_w]; rw [c31b0]) | skip)
                have H' := Aside0.mk H
                clear H
                go_wp2
                go_meet
                case rel => exact ⟨_, (true), (by first | rfl | (simp; done) | (simp [*]; done)), H', ⟨by have := HJ5.out; have := HJ14.out; first | omega | exact Nat.le_refl _⟩, ⟨by (with_reducible repeat (first | apply Kd.V_alloc | apply Kd.V_drewN | apply Kd.V_drew)); exact Kd.V_mono HO_0.out (fun _ hk => ⟨hk.1, ⟨hk.2.2.1, hk.2.2.2⟩⟩)⟩, ⟨by (with_reducible repeat (first | apply Kd.R_alloc | apply Kd.R_drewN | apply Kd.R_drew)); exact Kd.R_mono HO_14.out (fun _ hk => hk.1)⟩, ⟨by (with_reducible repeat (first | refine blk_drewN ?_ _ | refine blk_drew ?_ | refine blk_alloc ?_ _)); exact BK595.out⟩, ⟨by repeat (first | (with_reducible first | exact HB.out | apply below_alloc | apply pw_below_drewN | apply below_drew1 | refine below_set ?_ GE595.out) | exact HB.out)⟩⟩
              · rw [if_neg c31] at H
                have c31b0 : (t603 != t604) = false := by simpa using c31
                (try (have c31b1 : decide (t603 = t604) = true := by simpa using c31))
                (try (have c31b2 : (t603 == t604) = true := by simpa using c31))
                clear c31
                (first | rw [c31b0] | rw [c31b2] | rw [c31b1] | (simp only [i64_w, i32_w]; rw [c31b0]) | skip)
                have H' := Aside0.mk H
                clear H
                have hcv32 := own_string (P := Try.prog) Try.underlying26 Try.underlying5 Try.underlying9 (Kd.own_of_R HO_11.out)
                have hcv33 := own_string (P := Try.prog) Try.underlying26 Try.underlying5 Try.underlying9 (Kd.own_of_R HO_14.out)
                go_wp2
                go_meet
                case rel => exact ⟨_, (((strOfNums t600).toList != (strOfNums x14_14).toList)), (by first | rfl | (simp; done) | (simp [*]; done)), H', ⟨by have := HJ5.out; have := HJ14.out; first | omega | exact Nat.le_refl _⟩, ⟨by (with_reducible repeat (first | apply Kd.V_alloc | apply Kd.V_drewN | apply Kd.V_drew)); exact Kd.V_mono HO_0.out (fun _ hk => ⟨hk.1, ⟨hk.2.2.1, hk.2.2.2⟩⟩)⟩, ⟨by (with_reducible repeat (first | apply Kd.R_alloc | apply Kd.R_drewN | apply Kd.R_drew)); exact Kd.R_mono HO_14.out (fun _ hk => hk.1)⟩, ⟨by (with_reducible repeat (first | refine blk_drewN ?_ _ | refine blk_drew ?_ | refine blk_alloc ?_ _)); exact BK595.out⟩, ⟨by repeat (first | (with_reducible first | exact HB.out | apply below_alloc | apply pw_below_drewN | apply below_drew1 | refine below_set ?_ GE595.out) | exact HB.out)⟩⟩
            case rest =>
              clear HC30
              try clear c1
              try clear c2
              try clear p2
              try clear c3
              try clear hcv3
              try clear c4
              try clear c8
              try clear c8b0
              try clear c8b1
              try clear c10
              try clear c12
              try clear c25
              try clear c31
              try clear c31b0
              try clear c31b1
              try clear c31b2
              try clear hcv32
              try clear hcv33
              try clear hcz18_0
              try clear hcz18_1
              try clear hcz18_2
              try clear hcz21_0
              try clear hcz21_1
              try clear hcz21_2
              try clear hcz27_0
              try clear hcz27_1
              try clear hcz27_2
              try clear hcz9_0
              try clear hcz9_1
              try clear hcz9_2
              try clear hfz18_0
              try clear hfz18_1
              try clear hfz18_2
              try clear hfz21_0
              try clear hfz21_1
              try clear hfz21_2
              try clear hfz27_0
              try clear hfz27_1
              try clear hfz27_2
              try clear hfz9_0
              try clear hfz9_1
              try clear hfz9_2
              try clear p2
              obtain ⟨kq, x56_29, rfl, HA, HJ29, HO_0, HO_14, BK595, HB⟩ := hcut
              cases kq with
              | zero => exact absurd HA.out (by simp [waybilllaw3_FramTells.j2])
              | succ kj29 =>
                have H := HA.out
                clear HA
                simp only [waybilllaw3_FramTells.j2] at H
                by_cases c34 : x56_29 = true
                · subst c34
                  have H1 : (none) = some r := by rw [if_pos rfl] at H; exact H
                  clear H
                  have H := H1
                  clear H1
                  exact absurd H (by simp)
                · replace c34 := Bool.eq_false_iff.mpr c34
                  subst c34
                  have H1 : ((some (([] : List Int) : List Int)).bind fun y611 => (if 1 ≤ (x14_14.length : Int) then ((some (x14_14.drop 1 : List Int)).bind fun y614 => (if y611.length + y614.length < 140737488355328 then ((some (y611 ++ y614 : List Int)).bind fun y618 => (if (y618.length : Int) > 0 then (if (y618.length : Int) = 0 then (none) else (if 0 ≤ (Int.tmod (Go.bits .and .i64 a2 65535) (y618.length : Int)) then (if (Int.tmod (Go.bits .and .i64 a2 65535) (y618.length : Int)) < (y618.length : Int) then (waybilllaw3_FramTells.j3 kj29 l0 a4 x14_14 (y618.set ((Int.tmod (Go.bits .and .i64 a2 65535) (y618.length : Int)) : Int).toNat (Go.bits .xor .u8 (rd y618 (Int.tmod (Go.bits .and .i64 a2 65535) (y618.length : Int))) a3))) else (none)) else (none))) else (waybilllaw3_FramTells.j3 kj29 l0 a4 x14_14 y618))) else (none))) else (none))) = some r := by rw [if_neg (show ¬ (false = true) by decide)] at H; exact H
                  clear H
                  have H := H1
                  clear H1
                  obtain ⟨y611, hy611⟩ : ∃ y_ : List Int, y_ = (([] : List Int)) := ⟨_, rfl⟩
                  replace H : (if 1 ≤ (x14_14.length : Int) then ((some (x14_14.drop 1 : List Int)).bind fun y614 => (if y611.length + y614.length < 140737488355328 then ((some (y611 ++ y614 : List Int)).bind fun y618 => (if (y618.length : Int) > 0 then (if (y618.length : Int) = 0 then (none) else (if 0 ≤ (Int.tmod (Go.bits .and .i64 a2 65535) (y618.length : Int)) then (if (Int.tmod (Go.bits .and .i64 a2 65535) (y618.length : Int)) < (y618.length : Int) then (waybilllaw3_FramTells.j3 kj29 l0 a4 x14_14 (y618.set ((Int.tmod (Go.bits .and .i64 a2 65535) (y618.length : Int)) : Int).toNat (Go.bits .xor .u8 (rd y618 (Int.tmod (Go.bits .and .i64 a2 65535) (y618.length : Int))) a3))) else (none)) else (none))) else (waybilllaw3_FramTells.j3 kj29 l0 a4 x14_14 y618))) else (none))) else (none)) = some r := by first | (rw [hy611]; with_reducible exact H) | (have H2_ := (Option.bind_some _ _).symm.trans H; rw [hy611]; with_reducible exact H2_) | (have H2_ := (Option.bind_some _ _).symm.trans H; with_reducible exact H2_) | with_reducible exact H | (rw [hy611]; exact H) | exact H
                  have Ny611 := Aside0.mk hy611
                  clear hy611
                  by_cases c35 : 1 ≤ (x14_14.length : Int)
                  · rw [if_pos c35] at H
                    have c35b0 := eq_true c35
                    have c35b1 : decide (1 ≤ (x14_14.length : Int)) = true := decide_eq_true c35
                    clear c35
                    obtain ⟨y614, hy614⟩ : ∃ y_ : List Int, y_ = (x14_14.drop 1) := ⟨_, rfl⟩
                    replace H : (if y611.length + y614.length < 140737488355328 then ((some (y611 ++ y614 : List Int)).bind fun y618 => (if (y618.length : Int) > 0 then (if (y618.length : Int) = 0 then (none) else (if 0 ≤ (Int.tmod (Go.bits .and .i64 a2 65535) (y618.length : Int)) then (if (Int.tmod (Go.bits .and .i64 a2 65535) (y618.length : Int)) < (y618.length : Int) then (waybilllaw3_FramTells.j3 kj29 l0 a4 x14_14 (y618.set ((Int.tmod (Go.bits .and .i64 a2 65535) (y618.length : Int)) : Int).toNat (Go.bits .xor .u8 (rd y618 (Int.tmod (Go.bits .and .i64 a2 65535) (y618.length : Int))) a3))) else (none)) else (none))) else (waybilllaw3_FramTells.j3 kj29 l0 a4 x14_14 y618))) else (none)) = some r := by first | (rw [hy614]; with_reducible exact H) | (have H2_ := (Option.bind_some _ _).symm.trans H; rw [hy614]; with_reducible exact H2_) | (have H2_ := (Option.bind_some _ _).symm.trans H; with_reducible exact H2_) | with_reducible exact H | (rw [hy614]; exact H) | exact H
                    have Ny614 := Aside0.mk hy614
                    clear hy614
                    by_cases c36 : y611.length + y614.length < 140737488355328
                    · rw [if_pos c36] at H
                      have LMc36 := Aside0.mk c36
                      clear c36
                      obtain ⟨y618, hy618⟩ : ∃ y_ : List Int, y_ = (y611 ++ y614) := ⟨_, rfl⟩
                      replace H : (if (y618.length : Int) > 0 then (if (y618.length : Int) = 0 then (none) else (if 0 ≤ (Int.tmod (Go.bits .and .i64 a2 65535) (y618.length : Int)) then (if (Int.tmod (Go.bits .and .i64 a2 65535) (y618.length : Int)) < (y618.length : Int) then (waybilllaw3_FramTells.j3 kj29 l0 a4 x14_14 (y618.set ((Int.tmod (Go.bits .and .i64 a2 65535) (y618.length : Int)) : Int).toNat (Go.bits .xor .u8 (rd y618 (Int.tmod (Go.bits .and .i64 a2 65535) (y618.length : Int))) a3))) else (none)) else (none))) else (waybilllaw3_FramTells.j3 kj29 l0 a4 x14_14 y618)) = some r := by first | (rw [hy618]; with_reducible exact H) | (have H2_ := (Option.bind_some _ _).symm.trans H; rw [hy618]; with_reducible exact H2_) | (have H2_ := (Option.bind_some _ _).symm.trans H; with_reducible exact H2_) | with_reducible exact H | (rw [hy618]; exact H) | exact H
                      have Ny618 := Aside0.mk hy618
                      clear hy618
                      have HC37 := Aside0.mk H
                      clear H
                      go_upto_if 63 with (first | ((with_reducible refine gate_dst (N := 57) rfl ?_); (try (refine gate_guard (by rfl) ?_; dsimp only)); refine Kd.R_lit (Kd.int .u8) _ 5 ?hg (N := 57) ?hd (xs := ([] : List Int)) (inner := []) (ok := fun _ => True) (okp := fun _ => True) ?hr ?hp (fun _ hk => hk) trivial (Below.refl _ _) (Nat.le_refl _) (by simp) ?_; (case hd => rfl); (case hg => rfl); (case hr => first | (go_simp; done) | (go_simp; rfl)); (case hp => exact (Reps.none _ _)); intro v612 w38 ho39 hb hg_ hnew_; clear hg_ hnew_; (first | rw [← Ny611.out] at ho39 | (simp only [Int.reduceToNat] at ho39; rw [← Ny611.out] at ho39)); have n0_ := Aside0.mk (Kd.V_elder' (by (with_reducible repeat (first | apply Kd.V_alloc | apply Kd.V_drewN | apply Kd.V_drew)); exact HO_0.out) (Kd.R_base ho39) hb); have n1_ := Aside0.mk (Kd.R_elder' (by (with_reducible repeat (first | apply Kd.R_alloc | apply Kd.R_drewN | apply Kd.R_drew)); exact HO_14.out) (Kd.R_base ho39) hb); have n2_ := Aside0.mk (Kd.R_lower (Kd.R_new' (Kd.R_newM (M := fun k_ => (w.heap.size ≤ k_)) ho39 (below_size (by repeat (first | (with_reducible first | exact HB.out | apply below_alloc | apply pw_below_drewN | apply below_drew1 | refine below_set ?_ GE595.out) | exact HB.out))) (fun k_ h_ => h_)) (Kd.R_lt (by (with_reducible repeat (first | apply Kd.R_alloc | apply Kd.R_drewN | apply Kd.R_drew)); exact HO_14.out))) (below_size (by repeat (first | (with_reducible first | exact HB.out | apply below_alloc | apply pw_below_drewN | apply below_drew1 | refine below_set ?_ GE595.out) | exact HB.out)))); have n3_ := Aside0.mk (blk_below (g := gb595) (o := .cells #[.int .i64 a1_0, .int .i64 a1_1, .slice A1_2 l1_2.length c1_2] 68 (0, 0)) (by (with_reducible repeat (first | refine blk_drewN ?_ _ | refine blk_drew ?_ | refine blk_alloc ?_ _)); exact BK595.out) hb); have n4_ := Aside0.mk (below_step (by repeat (first | (with_reducible first | exact HB.out | apply below_alloc | apply pw_below_drewN | apply below_drew1 | refine below_set ?_ GE595.out) | exact HB.out)) hb); clear HO_0; clear HO_14; clear BK595; clear HB; have HO_0 := n0_; have HO_14 := n1_; have HO613 := n2_; have BK595 := n3_; have HB := n4_; clear n0_ n1_ n2_ n3_ n4_; clear hb ho39; obtain ⟨Ao41, co41, eo41⟩ := Kd.R_slice HO_14.out; subst eo41; have q40 : (1 : Int) ≤ ((x14_14.length : Int) : Int) := of_decide_eq_true (by first | (with_reducible assumption) | assumption); obtain ⟨i040, hi040, _, hsz40, _⟩ := info_parts info5; have hroom40 : x14_14.length ≤ co41 := (Kd.R_reads' HO_14.out).2.1; have hC40 : Kd.C (Kd.int .u8) _ Ao41 x14_14.length x14_14 := (Kd.R_reads' HO_14.out).2.2; have hcut40 := cut_from (P := Try.prog) 26 5 .i64 Try.underlying26 hi040 1 hsz40 Ao41 x14_14.length co41 1 (by omega) q40; have hr40 := Kd.C_drop (m := (1 : Int).toNat) (c := co41) hC40 (by omega) hroom40; obtain ⟨A40, hA40⟩ : ∃ A1, A1 = (if co41 = (1 : Int).toNat then Ao41 else (Ao41 : Option Addr).map (·.add ((1 : Int).toNat * 1))) := ⟨_, rfl⟩; obtain ⟨c40, hc40⟩ : ∃ c1, c1 = co41 - (1 : Int).toNat := ⟨_, rfl⟩; have hy40 : y614.length = x14_14.length - (1 : Int).toNat := (by rw [Ny614.out, List.length_drop] <;> omega); rw [show (x14_14).drop (1 : Int).toNat = y614 from Ny614.out.symm] at hr40; replace hr40 : Kd.C (Kd.int .u8) _ A40 y614.length y614 := (by rw [hA40]; exact hr40); rw [← hy40, ← hA40, ← hc40] at hcut40; have HR617 := Aside0.mk hr40; have HC617 := Aside0.mk (show y614.length ≤ c40 from by rw [hy40, hc40]; exact Nat.sub_le_sub_right hroom40 _); clear hr40 hC40 hroom40 hi040 hsz40 hc40; have KY40 := Aside0.mk hy40; have KA40 := Aside0.mk hA40; clear hy40 hA40; have KL40 := Aside0.mk (show 1 ≤ x14_14.length from by omega); replace q40 := eq_true q40) | ((with_reducible refine gate_builtin (b := .append) (xs := #[.tmp 57, .tmp 59]) rfl ?_); (try (refine gate_guard (by rfl) ?_; dsimp only)); at_builtin; refine Kd.R_append_rows (Kd.int .u8) (w0 := w) w.heap.size rfl (.tmp 57) (.tmp 59) 26 5 (.int .u8 0) 1 rfl Try.underlying26 info5 rfl (by decide) (by omega) v612 y611 y614 _ _ _ (fun k_ => (w.heap.size ≤ k_) ∧ some k_ ≠ (.slice Ao41 x14_14.length co41 : Value).ownBlock) (fun _ => False) rfl rfl ?aO ?aR (fun _ _ h => h) (fun _ h => h.elim) ?aF ?aB ?aS ?aL ?_; (case aR => repeat (first | exact (by repeat (first | (with_reducible exact HR617.out) | (with_reducible refine Kd.C_alloc ?_ _) | (with_reducible refine Kd.C_drewN ?_ _) | (with_reducible refine Kd.C_drew ?_) | exact HR617.out)) | (with_reducible refine Kd.C_alloc ?_ _) | (with_reducible refine Kd.C_drewN ?_ _) | (with_reducible refine Kd.C_drew ?_))); (case aB => exact (by repeat (first | (with_reducible first | exact HB.out | apply below_alloc | apply pw_below_drewN | apply below_drew1 | refine below_set ?_ GE595.out) | exact HB.out))); (case aF => exact (fun k_ hk => ⟨(Nat.le_trans (below_size (by repeat (first | (with_reducible first | exact HB.out | apply below_alloc | apply pw_below_drewN | apply below_drew1 | refine below_set ?_ GE595.out) | exact HB.out))) hk), Kd.fresh' (Kd.R_lt (by (with_reducible repeat (first | apply Kd.R_alloc | apply Kd.R_drewN | apply Kd.R_drew)); exact HO_14.out)) k_ hk⟩)); (case aO => exact (by (with_reducible repeat (first | apply Kd.R_alloc | apply Kd.R_drewN | apply Kd.R_drew)); exact Kd.R_mono HO613.out (fun _ hk => ⟨hk.1.1, hk.2⟩))); (case aS => exact (below_size (by repeat (first | (with_reducible first | exact HB.out | apply below_alloc | apply pw_below_drewN | apply below_drew1 | refine below_set ?_ GE595.out) | exact HB.out)))); (case aL => have := LMc36.out; omega); intro v619 w42 ho hb hg hat; rw [← Ny618.out] at ho; have n0_ := Aside0.mk (Kd.V_afterv (ok := (fun k_ => (P0_ k_ ∨ w.heap.size ≤ k_) ∧ some k_ ≠ (.slice Ao41 x14_14.length co41 : Value).ownBlock ∧ k_ ≠ gb595)) (by (with_reducible repeat (first | apply Kd.V_alloc | apply Kd.V_drewN | apply Kd.V_drew)); exact HO_0.out) hg hat); have n1_ := Aside0.mk (Kd.R_after (ok := (fun k_ => (w.heap.size ≤ k_))) (by (with_reducible repeat (first | apply Kd.R_alloc | apply Kd.R_drewN | apply Kd.R_drew)); exact HO_14.out) hg hat); have n2_ := Aside0.mk (blk_grown (g := gb595) (o := .cells #[.int .i64 a1_0, .int .i64 a1_1, .slice A1_2 l1_2.length c1_2] 68 (0, 0)) (by (with_reducible repeat (first | refine blk_drewN ?_ _ | refine blk_drew ?_ | refine blk_alloc ?_ _)); exact BK595.out) hg (Kd.R_ne HO613.out BK595.out (by decide))); have n3_ := Aside0.mk (hb); have n4_ := Aside0.mk ((show Kd.C (Kd.int .u8) w42 A40 y614.length y614 from by rw [Ny614.out, KA40.out]; exact Kd.C_drop (m := 1) (c := co41) ((Kd.R_reads' (Kd.R_after (ok := (fun k_ => (w.heap.size ≤ k_))) (by (with_reducible repeat (first | apply Kd.R_alloc | apply Kd.R_drewN | apply Kd.R_drew)); exact HO_14.out) hg hat)).2.2) KL40.out ((Kd.R_reads' (Kd.R_after (ok := (fun k_ => (w.heap.size ≤ k_))) (by (with_reducible repeat (first | apply Kd.R_alloc | apply Kd.R_drewN | apply Kd.R_drew)); exact HO_14.out) hg hat)).2.1))); have n5_ := Aside0.mk (ho); clear HO_0; clear HO_14; clear BK595; clear HB; clear HR617; clear HO613; have HO_0 := n0_; have HO_14 := n1_; have BK595 := n2_; have HB := n3_; have HR617 := n4_; have HO620 := n5_; clear n0_ n1_ n2_ n3_ n4_ n5_; clear ho hb hg hat; obtain ⟨Ao43, co43, eo43⟩ := Kd.R_slice HO620.out; subst eo43))
                      (try simp only [Act.put, List.setIfInBounds_toArray, List.set_cons_zero, List.set_cons_succ])
                      go_cut [] (fun wc => ∃ (kq : Nat) (x15_36 : List Int), Aside0 (waybilllaw3_FramTells.j3 kq l0 a4 x14_14 x15_36 = some r) ∧ Aside0 (kq ≤ kj29) ∧ Aside0 (Kd.V (Kd.int .u8) 5 wc w.heap.size (fun k_ => (P0_ k_ ∨ w.heap.size ≤ k_) ∧ some k_ ≠ ((.slice Ao41 x14_14.length co41) : Value).ownBlock ∧ some k_ ≠ ((.slice Ao43 y618.length co43) : Value).ownBlock ∧ k_ ≠ gb595) (.slice A0 l0.length c0) l0) ∧ Aside0 (Kd.R (Kd.int .u8) 5 wc w.heap.size (fun k_ => (w.heap.size ≤ k_) ∧ some k_ ≠ ((.slice Ao43 y618.length co43) : Value).ownBlock) (.slice Ao41 x14_14.length co41) x14_14) ∧ Aside0 (Kd.R (Kd.int .u8) 5 wc w.heap.size (fun k_ => (w.heap.size ≤ k_) ∧ some k_ ≠ ((.slice Ao41 x14_14.length co41) : Value).ownBlock) (.slice Ao43 y618.length co43) x15_36) ∧ Aside0 (wc.heap[gb595]? = some (.cells #[.int .i64 a1_0, .int .i64 a1_1, (.slice A1_2 l1_2.length c1_2)] 68 (0, 0))) ∧ Aside0 (Kd.C (Kd.int .u8) wc A40 y614.length y614) ∧ Aside0 (Below w.heap.size w wc))
                      case first =>
                        have H := HC37.out
                        clear HC37
                        by_cases c44 : (y618.length : Int) > 0
                        · rw [if_pos c44] at H
                          have c44b0 : decide (0 < (y618.length : Int)) = true := decide_eq_true c44
                          have c44b1 : decide (0 < y618.length) = true := decide_eq_true (by omega)
                          clear c44
                          (first | rw [c44b0] | rw [c44b2] | rw [c44b1] | (simp only [i64_w, i32_w]; rw [c44b0]) | skip)
                          by_cases c45 : (y618.length : Int) = 0
                          · rw [if_pos c45] at H
                            exact absurd H (by simp)
                          · rw [if_neg c45] at H
                            have c45b0 : ((y618.length : Int) == 0) = false := beq_eq_false_iff_ne.mpr c45
                            have c45b1 : ((y618.length : Int) != 0) = true := bne_iff_ne.mpr c45
                            have c45b2 : ¬ (y618 = []) := fun h_ => c45 (by rw [h_]; rfl)
                            obtain ⟨ji46, hji46⟩ : ∃ j_ : Int, (Int.tmod (Go.bits .and .i64 a2 65535) (y618.length : Int)) = j_ := ⟨_, rfl⟩
                            replace H : (if 0 ≤ (ji46) then (if (ji46) < (y618.length : Int) then (waybilllaw3_FramTells.j3 kj29 l0 a4 x14_14 (y618.set ((ji46) : Int).toNat (Go.bits .xor .u8 (rd y618 (ji46)) a3))) else (none)) else (none)) = some r := by first | (rw [hji46] at H; exact H) | (simp only [hji46] at H ⊢; exact H)
                            by_cases c47 : 0 ≤ (ji46)
                            · rw [if_pos c47] at H
                              have c47b0 : decide (0 ≤ (ji46)) = true := decide_eq_true c47
                              clear c47
                              by_cases c48 : (ji46) < (y618.length : Int)
                              · rw [if_pos c48] at H
                                have c48b0 : decide ((ji46) < (y618.length : Int)) = true := decide_eq_true c48
                                clear c48
                                obtain ⟨y622, hy622⟩ : ∃ y_ : List Int, y_ = (y618.set ((ji46) : Int).toNat (Go.bits .xor .u8 (rd y618 (ji46)) a3)) := ⟨_, rfl⟩
                                replace H : (waybilllaw3_FramTells.j3 kj29 l0 a4 x14_14 y622) = some r := by first | (rw [hy622]; with_reducible exact H) | (have H2_ := (Option.bind_some _ _).symm.trans H; rw [hy622]; with_reducible exact H2_) | (have H2_ := (Option.bind_some _ _).symm.trans H; with_reducible exact H2_) | with_reducible exact H | (rw [hy622]; exact H) | exact H
                                have Ny622 := Aside0.mk hy622
                                clear hy622
                                have H' := Aside0.mk H
                                clear H
                                have p621 : 0 ≤ ((ji46) : Int) := of_decide_eq_true (by first | (with_reducible assumption) | assumption)
                                have q621 : (ji46) < (y618.length : Int) := of_decide_eq_true (by first | (with_reducible assumption) | assumption)
                                obtain ⟨ad621, e621, hx621_0⟩ := Kd.at_int (Kd.R_reads' HO620.out).2.2 (ji46) p621 q621
                                cases e621
                                replace p621 := eq_true p621
                                replace q621 := eq_true q621
                                have p49 : 0 ≤ ((ji46) : Int) := of_decide_eq_true (by first | (with_reducible assumption) | assumption)
                                have q49 : ((ji46) : Int) < ((y618.length : Int) : Int) := of_decide_eq_true (by first | (with_reducible assumption) | assumption)
                                obtain ⟨go49, co49, eo49, gb49, gl49, cl49, HG49⟩ := Kd.R_form HO620.out (by omega)
                                (first | cases eo49 | (injection eo49 with ea_ en_ ec_; (first | subst ea_ | (injection ea_ with ea_; subst ea_)); subst ec_; clear en_))
                                have GB49 := Aside0.mk gb49
                                have GG49 := Aside0.mk HG49
                                clear gb49 gl49 HG49
                                (first | simp only [add_plain] at hx621_0 | skip)
                                obtain ⟨hx49_0, hf49_0⟩ := Kd.R_celln 0 HO620.out ((ji46) : Int) p49 q49
                                replace p49 := eq_true p49
                                replace q49 := eq_true q49
                                have HP50 := Kd.R_putg HO620.out ((ji46) : Int) (Go.bits .xor .u8 (rd y618 (ji46)) a3)
                                go_wp2_with (first | ((with_reducible refine gate_store (t := 5) (p := 74) rfl ?_); refine store_event (t := 5) (p := 74) (v := ?vo_w51) (w1 := (w42.setCell ⟨go49, ((ji46) : Int).toNat, none⟩ (.int .u8 (Go.bits .xor .u8 (rd y618 (ji46)) a3)))) ?hg ?ho ?hn ?hr ?_; (case ho => rfl); (case hg => rfl); (case hn => rfl); (case hr => first | (go_simp; done) | (go_simp; rfl)); intro w51 hw; have hg : w42.grownBy w51 (some go49) := (by rw [hw]; exact HP50.2); have hp_ : Kd.R (Kd.int .u8) 5 w51 w.heap.size (fun k_ => (w.heap.size ≤ k_) ∧ some k_ ≠ (.slice Ao41 x14_14.length co41 : Value).ownBlock) (.slice (some ⟨go49, 0, none⟩) y618.length co43) y622 := (by rw [hw, Ny622.out]; exact HP50.1); clear HP50; have n0_ := Aside0.mk (Kd.V_afterv (v := (.slice (some ⟨go49, 0, none⟩) y618.length co43)) (v1 := (.slice (some ⟨go49, 0, none⟩) y618.length co43)) (ok := (fun k_ => (P0_ k_ ∨ w.heap.size ≤ k_) ∧ some k_ ≠ (.slice Ao41 x14_14.length co41 : Value).ownBlock ∧ k_ ≠ gb595)) (by (with_reducible repeat (first | apply Kd.V_alloc | apply Kd.V_drewN | apply Kd.V_drew)); exact HO_0.out) hg (.inl rfl)); have n1_ := Aside0.mk (Kd.R_after (v := (.slice (some ⟨go49, 0, none⟩) y618.length co43)) (v1 := (.slice (some ⟨go49, 0, none⟩) y618.length co43)) (ok := (fun k_ => (w.heap.size ≤ k_))) (by (with_reducible repeat (first | apply Kd.R_alloc | apply Kd.R_drewN | apply Kd.R_drew)); exact HO_14.out) hg (.inl rfl)); have n2_ := Aside0.mk (blk_grown (g := gb595) (o := .cells #[.int .i64 a1_0, .int .i64 a1_1, .slice A1_2 l1_2.length c1_2] 68 (0, 0)) (by (with_reducible repeat (first | refine blk_drewN ?_ _ | refine blk_drew ?_ | refine blk_alloc ?_ _)); exact BK595.out) hg (Kd.R_ne HO620.out BK595.out (by decide))); have n3_ := Aside0.mk (hp_); have n4_ := Aside0.mk ((by rw [hw]; exact below_set (HB.out) GB49.out : Below w.heap.size w w51)); have n5_ := Aside0.mk ((show Kd.C (Kd.int .u8) w51 A40 y614.length y614 from by rw [Ny614.out, KA40.out]; exact Kd.C_drop (m := 1) (c := co41) ((Kd.R_reads' (Kd.R_after (v := (.slice (some ⟨go49, 0, none⟩) y618.length co43)) (v1 := (.slice (some ⟨go49, 0, none⟩) y618.length co43)) (ok := (fun k_ => (w.heap.size ≤ k_))) (by (with_reducible repeat (first | apply Kd.R_alloc | apply Kd.R_drewN | apply Kd.R_drew)); exact HO_14.out) hg (.inl rfl))).2.2) KL40.out ((Kd.R_reads' (Kd.R_after (v := (.slice (some ⟨go49, 0, none⟩) y618.length co43)) (v1 := (.slice (some ⟨go49, 0, none⟩) y618.length co43)) (ok := (fun k_ => (w.heap.size ≤ k_))) (by (with_reducible repeat (first | apply Kd.R_alloc | apply Kd.R_drewN | apply Kd.R_drew)); exact HO_14.out) hg (.inl rfl))).2.1))); clear HO_0; clear HO_14; clear BK595; clear HO620; clear HB; clear HR617; have HO_0 := n0_; have HO_14 := n1_; have BK595 := n2_; have HO620 := n3_; have HB := n4_; have HR617 := n5_; clear n0_ n1_ n2_ n3_ n4_ n5_; clear hg hw hp_))
                                go_meet
                                case rel => exact ⟨_, (y622), H', ⟨by have := HJ5.out; have := HJ14.out; have := HJ29.out; first | omega | exact Nat.le_refl _⟩, ⟨by (with_reducible repeat (first | apply Kd.V_alloc | apply Kd.V_drewN | apply Kd.V_drew)); exact Kd.V_mono HO_0.out (fun _ hk => ⟨hk.1.1, ⟨hk.1.2.1, ⟨hk.2, hk.1.2.2⟩⟩⟩)⟩, ⟨by (with_reducible repeat (first | apply Kd.R_alloc | apply Kd.R_drewN | apply Kd.R_drew)); exact HO_14.out⟩, ⟨by (with_reducible repeat (first | apply Kd.R_alloc | apply Kd.R_drewN | apply Kd.R_drew)); exact HO620.out⟩, ⟨by (with_reducible repeat (first | refine blk_drewN ?_ _ | refine blk_drew ?_ | refine blk_alloc ?_ _)); exact BK595.out⟩, ⟨by repeat (first | (with_reducible exact HR617.out) | (with_reducible refine Kd.C_alloc ?_ _) | (with_reducible refine Kd.C_drewN ?_ _) | (with_reducible refine Kd.C_drew ?_) | exact HR617.out)⟩, ⟨by repeat (first | (with_reducible first | exact HB.out | apply below_alloc | apply pw_below_drewN | apply below_drew1 | refine below_set ?_ GE595.out) | exact HB.out)⟩⟩
                              · rw [if_neg c48] at H
                                exact absurd H (by simp)
                            · rw [if_neg c47] at H
                              exact absurd H (by simp)
                        · rw [if_neg c44] at H
                          have c44b0 : decide (0 < (y618.length : Int)) = false := decide_eq_false c44
                          have c44b1 : decide (0 < y618.length) = false := decide_eq_false (by omega)
                          clear c44
                          (first | rw [c44b0] | rw [c44b2] | rw [c44b1] | (simp only [i64_w, i32_w]; rw [c44b0]) | skip)
                          have H' := Aside0.mk H
                          clear H
                          go_wp2
                          go_meet
                          case rel => exact ⟨_, (y618), H', ⟨by have := HJ5.out; have := HJ14.out; have := HJ29.out; first | omega | exact Nat.le_refl _⟩, ⟨by (with_reducible repeat (first | apply Kd.V_alloc | apply Kd.V_drewN | apply Kd.V_drew)); exact Kd.V_mono HO_0.out (fun _ hk => ⟨hk.1.1, ⟨hk.1.2.1, ⟨hk.2, hk.1.2.2⟩⟩⟩)⟩, ⟨by (with_reducible repeat (first | apply Kd.R_alloc | apply Kd.R_drewN | apply Kd.R_drew)); exact HO_14.out⟩, ⟨by (with_reducible repeat (first | apply Kd.R_alloc | apply Kd.R_drewN | apply Kd.R_drew)); exact HO620.out⟩, ⟨by (with_reducible repeat (first | refine blk_drewN ?_ _ | refine blk_drew ?_ | refine blk_alloc ?_ _)); exact BK595.out⟩, ⟨by repeat (first | (with_reducible exact HR617.out) | (with_reducible refine Kd.C_alloc ?_ _) | (with_reducible refine Kd.C_drewN ?_ _) | (with_reducible refine Kd.C_drew ?_) | exact HR617.out)⟩, ⟨by repeat (first | (with_reducible first | exact HB.out | apply below_alloc | apply pw_below_drewN | apply below_drew1 | refine below_set ?_ GE595.out) | exact HB.out)⟩⟩
                      case rest =>
                        clear HC37
                        try clear c1
                        try clear c2
                        try clear p2
                        try clear c3
                        try clear hcv3
                        try clear c4
                        try clear p4
                        try clear q4
                        try clear hx4
                        try clear p6
                        try clear q6
                        try clear hx6
                        try clear c8
                        try clear c8b0
                        try clear c8b1
                        try clear c10
                        try clear c12
                        try clear c25
                        try clear c31
                        try clear c31b0
                        try clear c31b1
                        try clear c31b2
                        try clear hcv32
                        try clear hcv33
                        try clear c34
                        try clear c35
                        try clear c35b0
                        try clear c35b1
                        try clear c36
                        try clear c38
                        try clear c39
                        try clear c40
                        try clear q40
                        try clear c42
                        try clear c43
                        try clear c44
                        try clear c44b0
                        try clear c44b1
                        try clear c45
                        try clear c45b0
                        try clear c45b1
                        try clear c45b2
                        try clear c47
                        try clear c47b0
                        try clear c48
                        try clear c48b0
                        try clear p49
                        try clear q49
                        try clear hx49
                        try clear hf49
                        try clear hcut40
                        try clear hcz18_0
                        try clear hcz18_1
                        try clear hcz18_2
                        try clear hcz21_0
                        try clear hcz21_1
                        try clear hcz21_2
                        try clear hcz27_0
                        try clear hcz27_1
                        try clear hcz27_2
                        try clear hcz9_0
                        try clear hcz9_1
                        try clear hcz9_2
                        try clear hfz18_0
                        try clear hfz18_1
                        try clear hfz18_2
                        try clear hfz21_0
                        try clear hfz21_1
                        try clear hfz21_2
                        try clear hfz27_0
                        try clear hfz27_1
                        try clear hfz27_2
                        try clear hfz9_0
                        try clear hfz9_1
                        try clear hfz9_2
                        try clear hx49_0
                        try clear hx621_0
                        try clear p2
                        try clear p49
                        try clear p621
                        try clear q40
                        try clear q49
                        try clear q621
                        obtain ⟨kq, x15_36, HA, HJ36, HO_0, HO_14, HO_15, BK595, HR617, HB⟩ := hcut
                        have hl15_36 := (Kd.R_reads' HO_15.out).1
                        rw [hl15_36] at HO_15
                        (try simp only [hl15_36])
                        (try simp only [hl15_36] at BK595)
                        (try simp only [hl15_36] at HO_0)
                        (try simp only [hl15_36] at HO_14)
                        cases kq with
                        | zero => exact absurd HA.out (by simp [waybilllaw3_FramTells.j3])
                        | succ kj36 =>
                          have H := HA.out
                          clear HA
                          simp only [waybilllaw3_FramTells.j3] at H
                          have H' := Aside0.mk H
                          clear H
                          go_wp2
                          go_loopg [16] kj36 (fun kq v16 w' => ∃ (x16_5 : Int), v16 = .int .i64 x16_5 ∧ Aside0 (waybilllaw3_FramTells.l0 kq l0 a4 x14_14 x15_36 x16_5 = some r) ∧ Aside0 (kq ≤ kj36) ∧ Aside0 (Kd.V (Kd.int .u8) 5 w' w.heap.size (fun k_ => (P0_ k_ ∨ w.heap.size ≤ k_) ∧ k_ ≠ gb595) (.slice A0 l0.length c0) l0) ∧ Aside0 (Kd.V (Kd.int .u8) 5 w' w.heap.size (fun k_ => (P0_ k_ ∨ w.heap.size ≤ k_) ∧ k_ ≠ gb595) (.slice Ao41 x14_14.length co41) x14_14) ∧ Aside0 (Kd.V (Kd.int .u8) 5 w' w.heap.size (fun k_ => (P0_ k_ ∨ w.heap.size ≤ k_) ∧ k_ ≠ gb595) (.slice Ao43 x15_36.length co43) x15_36) ∧ Aside0 (w'.heap[gb595]? = some (.cells #[.int .i64 a1_0, .int .i64 a1_1, (.slice A1_2 l1_2.length c1_2)] 68 (0, 0))) ∧ Aside0 (Below w.heap.size w w'))
                          case atStart => exact ⟨(0), (by first | rfl | (simp; done) | (simp [*]; done)), H', ⟨Nat.le_refl _⟩, ⟨by (try simp only [hl15_36]); (with_reducible repeat (first | apply Kd.V_alloc | apply Kd.V_drewN | apply Kd.V_drew)); exact Kd.V_mono HO_0.out (fun _ hk => ⟨hk.1, hk.2.2.2⟩)⟩, ⟨Kd.V_mono (Kd.R_V (ok := fun k_ => ((w.heap.size ≤ k_) ∧ k_ ≠ gb595)) (by (try simp only [hl15_36]); (with_reducible repeat (first | apply Kd.R_alloc | apply Kd.R_drewN | apply Kd.R_drew)); exact Kd.R_mono (Kd.R_types HO_14.out BK595.out (by decide)) (fun _ hk => ⟨hk.1.1, hk.2⟩))) (fun k_ hk => by first | exact ⟨(.inr (hk.1)), hk.2⟩ | exact (.inr (hk)))⟩, ⟨Kd.V_mono (Kd.R_V (ok := fun k_ => ((w.heap.size ≤ k_) ∧ k_ ≠ gb595)) (by (try simp only [hl15_36]); (with_reducible repeat (first | apply Kd.R_alloc | apply Kd.R_drewN | apply Kd.R_drew)); exact Kd.R_mono (Kd.R_types HO_15.out BK595.out (by decide)) (fun _ hk => ⟨hk.1.1, hk.2⟩))) (fun k_ hk => by first | exact ⟨(.inr (hk.1)), hk.2⟩ | exact (.inr (hk)))⟩, ⟨by (try simp only [hl15_36]); (with_reducible repeat (first | refine blk_drewN ?_ _ | refine blk_drew ?_ | refine blk_alloc ?_ _)); exact BK595.out⟩, ⟨by repeat (first | (with_reducible first | exact HB.out | apply below_alloc | apply pw_below_drewN | apply below_drew1 | refine below_set ?_ GE595.out) | exact HB.out)⟩⟩
                          case round =>
                            clear H'
                            try clear c1
                            try clear c2
                            try clear p2
                            try clear c3
                            try clear hcv3
                            try clear c4
                            try clear p4
                            try clear q4
                            try clear hx4
                            try clear p6
                            try clear q6
                            try clear hx6
                            try clear c8
                            try clear c8b0
                            try clear c8b1
                            try clear c10
                            try clear c12
                            try clear c25
                            try clear c31
                            try clear c31b0
                            try clear c31b1
                            try clear c31b2
                            try clear hcv32
                            try clear hcv33
                            try clear c34
                            try clear c35
                            try clear c35b0
                            try clear c35b1
                            try clear c36
                            try clear c38
                            try clear c39
                            try clear c40
                            try clear q40
                            try clear c42
                            try clear c43
                            try clear c44
                            try clear c44b0
                            try clear c44b1
                            try clear c45
                            try clear c45b0
                            try clear c45b1
                            try clear c45b2
                            try clear c47
                            try clear c47b0
                            try clear c48
                            try clear c48b0
                            try clear p49
                            try clear q49
                            try clear hx49
                            try clear hf49
                            try clear hcut40
                            try clear hcz18_0
                            try clear hcz18_1
                            try clear hcz18_2
                            try clear hcz21_0
                            try clear hcz21_1
                            try clear hcz21_2
                            try clear hcz27_0
                            try clear hcz27_1
                            try clear hcz27_2
                            try clear hcz9_0
                            try clear hcz9_1
                            try clear hcz9_2
                            try clear hfz18_0
                            try clear hfz18_1
                            try clear hfz18_2
                            try clear hfz21_0
                            try clear hfz21_1
                            try clear hfz21_2
                            try clear hfz27_0
                            try clear hfz27_1
                            try clear hfz27_2
                            try clear hfz9_0
                            try clear hfz9_1
                            try clear hfz9_2
                            try clear hx49_0
                            try clear hx621_0
                            try clear p2
                            try clear p4
                            try clear p49
                            try clear p6
                            try clear p621
                            try clear q4
                            try clear q40
                            try clear q49
                            try clear q6
                            try clear q621
                            obtain ⟨x16_5, rfl, HA, HK5, HO_0, HO_14, HO_15, BK595, HB⟩ := hrel
                            cases gk with
                            | zero => exact absurd HA.out (by simp [waybilllaw3_FramTells.l0])
                            | succ k5 =>
                              have H := HA.out
                              clear HA
                              simp only [waybilllaw3_FramTells.l0] at H
                              by_cases c52 : x16_5 < 4
                              · rw [if_pos c52] at H
                                have c52b0 : decide (x16_5 < 4) = true := decide_eq_true c52
                                clear c52
                                by_cases c53 : (x14_14.length : Int) = 0
                                · rw [if_pos c53] at H
                                  exact absurd H (by simp)
                                · rw [if_neg c53] at H
                                  have c53b0 : ((x14_14.length : Int) == 0) = false := beq_eq_false_iff_ne.mpr c53
                                  have c53b1 : ((x14_14.length : Int) != 0) = true := bne_iff_ne.mpr c53
                                  have c53b2 : ¬ (x14_14 = []) := fun h_ => c53 (by rw [h_]; rfl)
                                  obtain ⟨ji54, hji54⟩ : ∃ j_ : Int, (wrap64 (1 + (Int.tmod (Go.bits .and .i64 a4 65535) (x14_14.length : Int)))) = j_ := ⟨_, rfl⟩
                                  replace H : (if 1 ≤ (ji54) then (if (ji54) ≤ (x14_14.length : Int) then ((some (([] : List Int) : List Int)).bind fun y629 => (if 1 ≤ (x14_14.length : Int) then ((some (x14_14.drop 1 : List Int)).bind fun y632 => (if y629.length + y632.length < 140737488355328 then ((some (y629 ++ y632 : List Int)).bind fun y637 => (if y637.length + l0.length < 140737488355328 then (if 0 ≤ x16_5 then ((some (([l0, x15_36, ((x14_14.take ((ji54) : Int).toNat).drop 1), (y637 ++ l0)] : List (List Int)).getD (x16_5).toNat [] : List Int)).bind fun y643 => ((fram_Parse.f k5 y643).bind fun bt646 => ((waybillref1_FrameOf.f k5 y643).bind fun bt654 => (if bt646.2.2.2.2 = bt654.2.2.2.2 then (if bt646.2.2.2.1 = bt654.2.2.2.1 then ((waybilllaw3_Same.f bt646.1 bt646.2.1 bt646.2.2.1 bt654.1 bt654.2.1 bt654.2.2.1).bind fun t662 => (if t662 = true then (waybilllaw3_FramTells.l0 k5 l0 a4 x14_14 x15_36 (wrap64 (x16_5 + 1))) else (none))) else (none)) else (none))))) else (none)) else (none))) else (none))) else (none))) else (none)) else (none)) = some r := by first | (rw [hji54] at H; exact H) | (simp only [hji54] at H ⊢; exact H)
                                  have hji54w : (IntKind.i64.wrap (1 + (Int.tmod (Go.bits .and .i64 a4 65535) (x14_14.length : Int)))) = ji54 := (i64_w _).trans hji54
                                  by_cases c55 : 1 ≤ (ji54)
                                  · rw [if_pos c55] at H
                                    have c55b0 := eq_true c55
                                    have c55b1 : decide (1 ≤ (ji54)) = true := decide_eq_true c55
                                    clear c55
                                    by_cases c56 : (ji54) ≤ (x14_14.length : Int)
                                    · rw [if_pos c56] at H
                                      have c56b0 := eq_true c56
                                      have c56b1 : decide ((ji54) ≤ (x14_14.length : Int)) = true := decide_eq_true c56
                                      clear c56
                                      obtain ⟨y624, hy624⟩ : ∃ y_ : List Int, y_ = ((x14_14.take ((ji54) : Int).toNat).drop 1) := ⟨_, rfl⟩
                                      replace H : ((some (([] : List Int) : List Int)).bind fun y629 => (if 1 ≤ (x14_14.length : Int) then ((some (x14_14.drop 1 : List Int)).bind fun y632 => (if y629.length + y632.length < 140737488355328 then ((some (y629 ++ y632 : List Int)).bind fun y637 => (if y637.length + l0.length < 140737488355328 then (if 0 ≤ x16_5 then ((some (([l0, x15_36, y624, (y637 ++ l0)] : List (List Int)).getD (x16_5).toNat [] : List Int)).bind fun y643 => ((fram_Parse.f k5 y643).bind fun bt646 => ((waybillref1_FrameOf.f k5 y643).bind fun bt654 => (if bt646.2.2.2.2 = bt654.2.2.2.2 then (if bt646.2.2.2.1 = bt654.2.2.2.1 then ((waybilllaw3_Same.f bt646.1 bt646.2.1 bt646.2.2.1 bt654.1 bt654.2.1 bt654.2.2.1).bind fun t662 => (if t662 = true then (waybilllaw3_FramTells.l0 k5 l0 a4 x14_14 x15_36 (wrap64 (x16_5 + 1))) else (none))) else (none)) else (none))))) else (none)) else (none))) else (none))) else (none))) = some r := by first | (rw [hy624]; with_reducible exact H) | (have H2_ := (Option.bind_some _ _).symm.trans H; rw [hy624]; with_reducible exact H2_) | (have H2_ := (Option.bind_some _ _).symm.trans H; with_reducible exact H2_) | with_reducible exact H | (rw [hy624]; exact H) | exact H
                                      have Ny624 := Aside0.mk hy624
                                      clear hy624
                                      obtain ⟨y629, hy629⟩ : ∃ y_ : List Int, y_ = (([] : List Int)) := ⟨_, rfl⟩
                                      replace H : (if 1 ≤ (x14_14.length : Int) then ((some (x14_14.drop 1 : List Int)).bind fun y632 => (if y629.length + y632.length < 140737488355328 then ((some (y629 ++ y632 : List Int)).bind fun y637 => (if y637.length + l0.length < 140737488355328 then (if 0 ≤ x16_5 then ((some (([l0, x15_36, y624, (y637 ++ l0)] : List (List Int)).getD (x16_5).toNat [] : List Int)).bind fun y643 => ((fram_Parse.f k5 y643).bind fun bt646 => ((waybillref1_FrameOf.f k5 y643).bind fun bt654 => (if bt646.2.2.2.2 = bt654.2.2.2.2 then (if bt646.2.2.2.1 = bt654.2.2.2.1 then ((waybilllaw3_Same.f bt646.1 bt646.2.1 bt646.2.2.1 bt654.1 bt654.2.1 bt654.2.2.1).bind fun t662 => (if t662 = true then (waybilllaw3_FramTells.l0 k5 l0 a4 x14_14 x15_36 (wrap64 (x16_5 + 1))) else (none))) else (none)) else (none))))) else (none)) else (none))) else (none))) else (none)) = some r := by first | (rw [hy629]; with_reducible exact H) | (have H2_ := (Option.bind_some _ _).symm.trans H; rw [hy629]; with_reducible exact H2_) | (have H2_ := (Option.bind_some _ _).symm.trans H; with_reducible exact H2_) | with_reducible exact H | (rw [hy629]; exact H) | exact H
                                      have Ny629 := Aside0.mk hy629
                                      clear hy629
                                      by_cases c57 : 1 ≤ (x14_14.length : Int)
                                      · rw [if_pos c57] at H
                                        have c57b0 := eq_true c57
                                        have c57b1 : decide (1 ≤ (x14_14.length : Int)) = true := decide_eq_true c57
                                        clear c57
                                        obtain ⟨y632, hy632⟩ : ∃ y_ : List Int, y_ = (x14_14.drop 1) := ⟨_, rfl⟩
                                        replace H : (if y629.length + y632.length < 140737488355328 then ((some (y629 ++ y632 : List Int)).bind fun y637 => (if y637.length + l0.length < 140737488355328 then (if 0 ≤ x16_5 then ((some (([l0, x15_36, y624, (y637 ++ l0)] : List (List Int)).getD (x16_5).toNat [] : List Int)).bind fun y643 => ((fram_Parse.f k5 y643).bind fun bt646 => ((waybillref1_FrameOf.f k5 y643).bind fun bt654 => (if bt646.2.2.2.2 = bt654.2.2.2.2 then (if bt646.2.2.2.1 = bt654.2.2.2.1 then ((waybilllaw3_Same.f bt646.1 bt646.2.1 bt646.2.2.1 bt654.1 bt654.2.1 bt654.2.2.1).bind fun t662 => (if t662 = true then (waybilllaw3_FramTells.l0 k5 l0 a4 x14_14 x15_36 (wrap64 (x16_5 + 1))) else (none))) else (none)) else (none))))) else (none)) else (none))) else (none)) = some r := by first | (rw [hy632]; with_reducible exact H) | (have H2_ := (Option.bind_some _ _).symm.trans H; rw [hy632]; with_reducible exact H2_) | (have H2_ := (Option.bind_some _ _).symm.trans H; with_reducible exact H2_) | with_reducible exact H | (rw [hy632]; exact H) | exact H
                                        have Ny632 := Aside0.mk hy632
                                        clear hy632
                                        by_cases c58 : y629.length + y632.length < 140737488355328
                                        · rw [if_pos c58] at H
                                          have LMc58 := Aside0.mk c58
                                          clear c58
                                          obtain ⟨y637, hy637⟩ : ∃ y_ : List Int, y_ = (y629 ++ y632) := ⟨_, rfl⟩
                                          replace H : (if y637.length + l0.length < 140737488355328 then (if 0 ≤ x16_5 then ((some (([l0, x15_36, y624, (y637 ++ l0)] : List (List Int)).getD (x16_5).toNat [] : List Int)).bind fun y643 => ((fram_Parse.f k5 y643).bind fun bt646 => ((waybillref1_FrameOf.f k5 y643).bind fun bt654 => (if bt646.2.2.2.2 = bt654.2.2.2.2 then (if bt646.2.2.2.1 = bt654.2.2.2.1 then ((waybilllaw3_Same.f bt646.1 bt646.2.1 bt646.2.2.1 bt654.1 bt654.2.1 bt654.2.2.1).bind fun t662 => (if t662 = true then (waybilllaw3_FramTells.l0 k5 l0 a4 x14_14 x15_36 (wrap64 (x16_5 + 1))) else (none))) else (none)) else (none))))) else (none)) else (none)) = some r := by first | (rw [hy637]; with_reducible exact H) | (have H2_ := (Option.bind_some _ _).symm.trans H; rw [hy637]; with_reducible exact H2_) | (have H2_ := (Option.bind_some _ _).symm.trans H; with_reducible exact H2_) | with_reducible exact H | (rw [hy637]; exact H) | exact H
                                          have Ny637 := Aside0.mk hy637
                                          clear hy637
                                          by_cases c59 : y637.length + l0.length < 140737488355328
                                          · rw [if_pos c59] at H
                                            have LMc59 := Aside0.mk c59
                                            clear c59
                                            obtain ⟨y640, hy640⟩ : ∃ y_ : List Int, y_ = (y637 ++ l0) := ⟨_, rfl⟩
                                            replace H : (if 0 ≤ x16_5 then ((some (([l0, x15_36, y624, y640] : List (List Int)).getD (x16_5).toNat [] : List Int)).bind fun y643 => ((fram_Parse.f k5 y643).bind fun bt646 => ((waybillref1_FrameOf.f k5 y643).bind fun bt654 => (if bt646.2.2.2.2 = bt654.2.2.2.2 then (if bt646.2.2.2.1 = bt654.2.2.2.1 then ((waybilllaw3_Same.f bt646.1 bt646.2.1 bt646.2.2.1 bt654.1 bt654.2.1 bt654.2.2.1).bind fun t662 => (if t662 = true then (waybilllaw3_FramTells.l0 k5 l0 a4 x14_14 x15_36 (wrap64 (x16_5 + 1))) else (none))) else (none)) else (none))))) else (none)) = some r := by first | (rw [hy640]; with_reducible exact H) | (have H2_ := (Option.bind_some _ _).symm.trans H; rw [hy640]; with_reducible exact H2_) | (have H2_ := (Option.bind_some _ _).symm.trans H; with_reducible exact H2_) | with_reducible exact H | (rw [hy640]; exact H) | exact H
                                            have Ny640 := Aside0.mk hy640
                                            clear hy640
                                            by_cases c60 : 0 ≤ x16_5
                                            · rw [if_pos c60] at H
                                              have c60b0 : decide (0 ≤ x16_5) = true := decide_eq_true c60
                                              clear c60
                                              obtain ⟨y643, hy643⟩ : ∃ y_ : List Int, y_ = (([l0, x15_36, y624, y640] : List (List Int)).getD (x16_5).toNat []) := ⟨_, rfl⟩
                                              replace H : ((fram_Parse.f k5 y643).bind fun bt646 => ((waybillref1_FrameOf.f k5 y643).bind fun bt654 => (if bt646.2.2.2.2 = bt654.2.2.2.2 then (if bt646.2.2.2.1 = bt654.2.2.2.1 then ((waybilllaw3_Same.f bt646.1 bt646.2.1 bt646.2.2.1 bt654.1 bt654.2.1 bt654.2.2.1).bind fun t662 => (if t662 = true then (waybilllaw3_FramTells.l0 k5 l0 a4 x14_14 x15_36 (wrap64 (x16_5 + 1))) else (none))) else (none)) else (none)))) = some r := by first | (rw [hy643]; with_reducible exact H) | (have H2_ := (Option.bind_some _ _).symm.trans H; rw [hy643]; with_reducible exact H2_) | (have H2_ := (Option.bind_some _ _).symm.trans H; with_reducible exact H2_) | with_reducible exact H | (rw [hy643]; exact H) | exact H
                                              have Ny643 := Aside0.mk hy643
                                              clear hy643
                                              replace H := Option.bind_eq_some_iff.mp H
                                              obtain ⟨⟨t646, t647, t648, t651, t652⟩, A610, H⟩ := H
                                              replace H : ((waybillref1_FrameOf.f k5 y643).bind fun bt654 => (if t652 = bt654.2.2.2.2 then (if t651 = bt654.2.2.2.1 then ((waybilllaw3_Same.f t646 t647 t648 bt654.1 bt654.2.1 bt654.2.2.1).bind fun t662 => (if t662 = true then (waybilllaw3_FramTells.l0 k5 l0 a4 x14_14 x15_36 (wrap64 (x16_5 + 1))) else (none))) else (none)) else (none))) = some r := H
                                              have A61 := Aside0.mk A610
                                              clear A610
                                              replace H := Option.bind_eq_some_iff.mp H
                                              obtain ⟨⟨t654, t655, t656, t659, t660⟩, A620, H⟩ := H
                                              replace H : (if t652 = t660 then (if t651 = t659 then ((waybilllaw3_Same.f t646 t647 t648 t654 t655 t656).bind fun t662 => (if t662 = true then (waybilllaw3_FramTells.l0 k5 l0 a4 x14_14 x15_36 (wrap64 (x16_5 + 1))) else (none))) else (none)) else (none)) = some r := H
                                              have A62 := Aside0.mk A620
                                              clear A620
                                              by_cases c63 : t652 = t660
                                              · rw [if_pos c63] at H
                                                have c63b0 : (t652 == t660) = true := beq_iff_eq.mpr c63
                                                have c63b1 : (t652 != t660) = false := bne_eq_false_iff_eq.mpr c63
                                                clear c63
                                                by_cases c64 : t651 = t659
                                                · rw [if_pos c64] at H
                                                  have c64b0 : (t651 == t659) = true := beq_iff_eq.mpr c64
                                                  have c64b1 : (t651 != t659) = false := bne_eq_false_iff_eq.mpr c64
                                                  clear c64
                                                  replace H := Option.bind_eq_some_iff.mp H
                                                  obtain ⟨t662, A650, H⟩ := H
                                                  replace H : (if t662 = true then (waybilllaw3_FramTells.l0 k5 l0 a4 x14_14 x15_36 (wrap64 (x16_5 + 1))) else (none)) = some r := H
                                                  have A65 := Aside0.mk A650
                                                  clear A650
                                                  by_cases c66 : t662 = true
                                                  · subst c66
                                                    have H1 : (waybilllaw3_FramTells.l0 k5 l0 a4 x14_14 x15_36 (wrap64 (x16_5 + 1))) = some r := by rw [if_pos rfl] at H; exact H
                                                    clear H
                                                    have H := H1
                                                    clear H1
                                                    have H' := Aside0.mk H
                                                    clear H
                                                    try go_wp2
                                                    have n0_ := Aside0.mk (Kd.V_drew HO_0.out)
                                                    have n1_ := Aside0.mk (Kd.V_drew HO_14.out)
                                                    have n2_ := Aside0.mk (Kd.V_drew HO_15.out)
                                                    have n3_ := Aside0.mk (blk_drew BK595.out)
                                                    have n4_ := Aside0.mk (below_drew1 HB.out)
                                                    clear HO_0
                                                    clear HO_14
                                                    clear HO_15
                                                    clear BK595
                                                    clear HB
                                                    have HO_0 := n0_
                                                    have HO_14 := n1_
                                                    have HO_15 := n2_
                                                    have BK595 := n3_
                                                    have HB := n4_
                                                    clear n0_ n1_ n2_ n3_ n4_
                                                    have q68 : ((ji54) : Int) ≤ ((x14_14.length : Int) : Int) := of_decide_eq_true (by first | (with_reducible assumption) | assumption)
                                                    obtain ⟨i068, hi068, _, hsz68, _⟩ := info_parts info5
                                                    have hroom68 : x14_14.length ≤ co41 := (Kd.V_reads' HO_14.out).2.1
                                                    have hC68 : Kd.F (Kd.int .u8) _ _ Ao41 x14_14.length x14_14 := (Kd.V_at (base := w.heap.size) HO_14.out).2.2
                                                    have ql68 : (1 : Int) ≤ ((ji54) : Int) := of_decide_eq_true (by first | (with_reducible assumption) | assumption)
                                                    have hcut68 := cut_mid (P := Try.prog) 26 5 .i64 .i64 Try.underlying26 hi068 1 hsz68 Ao41 x14_14.length co41 1 (ji54) (by omega) ql68 q68 hroom68
                                                    have hr68 := Kd.F_mid (lo := (1 : Int).toNat) (hi := ((ji54) : Int).toNat) (c := co41) hC68 (by omega) (by omega) hroom68
                                                    obtain ⟨A68, hA68⟩ : ∃ A1, A1 = (if co41 = (1 : Int).toNat then Ao41 else (Ao41 : Option Addr).map (·.add ((1 : Int).toNat * 1))) := ⟨_, rfl⟩
                                                    obtain ⟨c68, hc68⟩ : ∃ c1, c1 = co41 - (1 : Int).toNat := ⟨_, rfl⟩
                                                    have hy68 : y624.length = ((ji54) : Int).toNat - (1 : Int).toNat := (by rw [Ny624.out, List.length_drop, List.length_take] <;> omega)
                                                    rw [show ((x14_14).take ((ji54) : Int).toNat).drop (1 : Int).toNat = y624 from Ny624.out.symm] at hr68
                                                    replace hr68 : Kd.F (Kd.int .u8) _ _ A68 y624.length y624 := (by rw [hA68]; exact hr68)
                                                    rw [← hy68, ← hA68, ← hc68] at hcut68
                                                    have HO628 := Aside0.mk (show Kd.V (Kd.int .u8) 5 _ w.heap.size _ (.slice A68 y624.length c68) y624 from Kd.V_mk (by rw [hy68, hc68]; exact Nat.sub_le_sub_right (Nat.le_trans (by omega) hroom68) _) hr68)
                                                    have HC628 := Aside0.mk (show y624.length ≤ c68 from by rw [hy68, hc68]; exact Nat.sub_le_sub_right (Nat.le_trans (by omega) hroom68) _)
                                                    clear hr68 hC68 hroom68 hi068 hsz68 hc68
                                                    have KY68 := Aside0.mk hy68
                                                    have KA68 := Aside0.mk hA68
                                                    clear hy68 hA68
                                                    replace q68 := eq_true q68
                                                    have q69 : (1 : Int) ≤ ((x14_14.length : Int) : Int) := of_decide_eq_true (by first | (with_reducible assumption) | assumption)
                                                    obtain ⟨i069, hi069, _, hsz69, _⟩ := info_parts info5
                                                    have hroom69 : x14_14.length ≤ co41 := (Kd.V_reads' HO_14.out).2.1
                                                    have hC69 : Kd.F (Kd.int .u8) _ _ Ao41 x14_14.length x14_14 := (Kd.V_at (base := w.heap.size) HO_14.out).2.2
                                                    have hcut69 := cut_from (P := Try.prog) 26 5 .i64 Try.underlying26 hi069 1 hsz69 Ao41 x14_14.length co41 1 (by omega) q69
                                                    have hr69 := Kd.F_cut (m := (1 : Int).toNat) (c := co41) hC69 (by omega) hroom69
                                                    obtain ⟨A69, hA69⟩ : ∃ A1, A1 = (if co41 = (1 : Int).toNat then Ao41 else (Ao41 : Option Addr).map (·.add ((1 : Int).toNat * 1))) := ⟨_, rfl⟩
                                                    obtain ⟨c69, hc69⟩ : ∃ c1, c1 = co41 - (1 : Int).toNat := ⟨_, rfl⟩
                                                    have hy69 : y632.length = x14_14.length - (1 : Int).toNat := (by rw [Ny632.out, List.length_drop] <;> omega)
                                                    rw [show (x14_14).drop (1 : Int).toNat = y632 from Ny632.out.symm] at hr69
                                                    replace hr69 : Kd.F (Kd.int .u8) _ _ A69 y632.length y632 := (by rw [hA69]; exact hr69)
                                                    rw [← hy69, ← hA69, ← hc69] at hcut69
                                                    have HO636 := Aside0.mk (show Kd.V (Kd.int .u8) 5 _ w.heap.size _ (.slice A69 y632.length c69) y632 from Kd.V_mk (by rw [hy69, hc69]; exact Nat.sub_le_sub_right hroom69 _) hr69)
                                                    have HC636 := Aside0.mk (show y632.length ≤ c69 from by rw [hy69, hc69]; exact Nat.sub_le_sub_right hroom69 _)
                                                    clear hr69 hC69 hroom69 hi069 hsz69 hc69
                                                    have KY69 := Aside0.mk hy69
                                                    have KA69 := Aside0.mk hA69
                                                    clear hy69 hA69
                                                    replace q69 := eq_true q69
                                                    have plq75 : (0 ≤ x16_5) = True := eq_true (of_decide_eq_true (by first | (with_reducible assumption) | assumption))
                                                    have qlq75 : (x16_5 < 4) = True := eq_true (of_decide_eq_true (by first | (with_reducible assumption) | assumption))
                                                    have jlq75 : (x16_5).toNat < 4 := by have h1_ := of_eq_true plq75; have h2_ := of_eq_true qlq75; omega
                                                    refine start_ (n := 21) (S := fun w' => True) (ds := [16, 19]) #[false, false, false, false, false, false, false, false, false, false, false, false, false, false, false, false, false, false, false, false, false] (by kernel_rfl) rfl rfl trivial (fun hHeld => ?_); refine with_tabW waybilllaw3_FramTells.tab16 waybilllaw3_FramTells.bits16 (fun HT_ HW_ => ?_)
                                                    generalize wr.drew = w67 at HO_0 HO_14 HO_15 BK595 HB HO628 HO636 hHeld ⊢
                                                    refine pure_ (i := 0) (N := some 79) (v := ?_) (a' := ?_) #[true, false, false, false, false, false, false, false, false, false, false, false, false, false, false, false, false, false, false, false, false] rfl rfl (any_of HT_.out (by kernel_rfl)) (fun _ _ _ h => h) (Or.inl ⟨by rfl, ?_⟩) ?_ ?_
                                                    rotate_left
                                                    · intro w'
                                                      go_simp
                                                      with_reducible rfl
                                                    rotate_left
                                                    · simp only [Act.put, List.setIfInBounds_toArray, List.set_cons_zero, List.set_cons_succ, i64_w, i32_w]
                                                      rfl
                                                    refine pure_ (i := 1) (N := some 80) (v := ?_) (a' := ?_) #[true, true, false, false, false, false, false, false, false, false, false, false, false, false, false, false, false, false, false, false, false] rfl rfl (any_of HT_.out (by kernel_rfl)) (fun _ _ _ h => h) (Or.inl ⟨by rfl, ?_⟩) ?_ ?_
                                                    rotate_left
                                                    · intro w'
                                                      go_simp
                                                      with_reducible rfl
                                                    rotate_left
                                                    · simp only [Act.put, List.setIfInBounds_toArray, List.set_cons_zero, List.set_cons_succ, i64_w, i32_w]
                                                      rfl
                                                    refine pure_ (i := 2) (N := some 81) (v := ?_) (a' := ?_) #[true, true, true, false, false, false, false, false, false, false, false, false, false, false, false, false, false, false, false, false, false] rfl rfl (any_of HT_.out (by kernel_rfl)) (fun _ _ _ h => h) (Or.inl ⟨by rfl, ?_⟩) ?_ ?_
                                                    rotate_left
                                                    · intro w'
                                                      go_simp
                                                      with_reducible rfl
                                                    rotate_left
                                                    · simp only [Act.put, List.setIfInBounds_toArray, List.set_cons_zero, List.set_cons_succ, i64_w, i32_w]
                                                      rfl
                                                    refine pure_ (i := 3) (N := some 82) (v := ?_) (a' := ?_) #[true, true, true, true, false, false, false, false, false, false, false, false, false, false, false, false, false, false, false, false, false] rfl rfl (any_of HT_.out (by kernel_rfl)) (fun _ _ _ h => h) (Or.inl ⟨by rfl, ?_⟩) ?_ ?_
                                                    rotate_left
                                                    · intro w'
                                                      go_simp
                                                      with_reducible rfl
                                                    rotate_left
                                                    · simp only [Act.put, List.setIfInBounds_toArray, List.set_cons_zero, List.set_cons_succ, i64_w, i32_w]
                                                      rfl
                                                    refine pure_ (i := 4) (N := some 83) (v := ?_) (a' := ?_) #[true, true, true, true, true, false, false, false, false, false, false, false, false, false, false, false, false, false, false, false, false] rfl rfl (any_of HT_.out (by kernel_rfl)) (fun _ _ _ h => h) (Or.inl ⟨by rfl, ?_⟩) ?_ ?_
                                                    rotate_left
                                                    · intro w'
                                                      go_simp
                                                      with_reducible rfl
                                                    rotate_left
                                                    · simp only [Act.put, List.setIfInBounds_toArray, List.set_cons_zero, List.set_cons_succ, i64_w, i32_w]
                                                      rfl
                                                    refine pure_ (i := 5) (N := some 84) (v := ?_) (a' := ?_) #[true, true, true, true, true, true, false, false, false, false, false, false, false, false, false, false, false, false, false, false, false] rfl rfl (any_of HT_.out (by kernel_rfl)) (fun _ _ _ h => h) (Or.inl ⟨by rfl, ?_⟩) ?_ ?_
                                                    rotate_left
                                                    · intro w'
                                                      go_simp
                                                      with_reducible rfl
                                                    rotate_left
                                                    · simp only [Act.put, List.setIfInBounds_toArray, List.set_cons_zero, List.set_cons_succ, i64_w, i32_w]
                                                      rfl
                                                    refine pure_ (i := 6) (N := some 85) (v := ?_) (a' := ?_) #[true, true, true, true, true, true, true, false, false, false, false, false, false, false, false, false, false, false, false, false, false] rfl rfl (any_of HT_.out (by kernel_rfl)) (fun _ _ _ h => h) (Or.inl ⟨by rfl, ?_⟩) ?_ ?_
                                                    rotate_left
                                                    · intro w'
                                                      go_simp
                                                      with_reducible rfl
                                                    rotate_left
                                                    · simp only [Act.put, List.setIfInBounds_toArray, List.set_cons_zero, List.set_cons_succ, i64_w, i32_w]
                                                      rfl
                                                    refine pure_ (i := 7) (N := some 86) (v := ?_) (a' := ?_) #[true, true, true, true, true, true, true, true, false, false, false, false, false, false, false, false, false, false, false, false, false] rfl rfl (any_of HT_.out (by kernel_rfl)) (fun _ _ _ h => h) (Or.inl ⟨by rfl, ?_⟩) ?_ ?_
                                                    rotate_left
                                                    · intro w'
                                                      go_simp
                                                      with_reducible rfl
                                                    rotate_left
                                                    · simp only [Act.put, List.setIfInBounds_toArray, List.set_cons_zero, List.set_cons_succ, i64_w, i32_w]
                                                      rfl
                                                    refine pure_ (i := 8) (N := some 87) (v := ?_) (a' := ?_) #[true, true, true, true, true, true, true, true, true, false, false, false, false, false, false, false, false, false, false, false, false] rfl rfl (any_of HT_.out (by kernel_rfl)) (fun _ _ _ h => h) (Or.inl ⟨by rfl, ?_⟩) ?_ ?_
                                                    rotate_left
                                                    · intro w'
                                                      go_simp
                                                      with_reducible rfl
                                                    rotate_left
                                                    · simp only [Act.put, List.setIfInBounds_toArray, List.set_cons_zero, List.set_cons_succ, i64_w, i32_w]
                                                      rfl
                                                    refine pure_ (i := 9) (N := some 88) (v := ?_) (a' := ?_) #[true, true, true, true, true, true, true, true, true, true, false, false, false, false, false, false, false, false, false, false, false] rfl rfl (any_of HT_.out (by kernel_rfl)) (fun _ _ _ h => h) (Or.inl ⟨by rfl, ?_⟩) ?_ ?_
                                                    rotate_left
                                                    · intro w'
                                                      go_simp
                                                      with_reducible rfl
                                                    rotate_left
                                                    · simp only [Act.put, List.setIfInBounds_toArray, List.set_cons_zero, List.set_cons_succ, i64_w, i32_w]
                                                      rfl
                                                    refine pure_ (i := 11) (N := some 90) (v := ?_) (a' := ?_) #[true, true, true, true, true, true, true, true, true, true, false, true, false, false, false, false, false, false, false, false, false] rfl rfl (any_of HT_.out (by kernel_rfl)) (fun _ _ _ h => h) (Or.inl ⟨by rfl, ?_⟩) ?_ ?_
                                                    rotate_left
                                                    · intro w'
                                                      go_simp
                                                      with_reducible rfl
                                                    rotate_left
                                                    · simp only [Act.put, List.setIfInBounds_toArray, List.set_cons_zero, List.set_cons_succ, i64_w, i32_w]
                                                      rfl
                                                    refine pure_ (i := 12) (N := some 91) (v := ?_) (a' := ?_) #[true, true, true, true, true, true, true, true, true, true, false, true, true, false, false, false, false, false, false, false, false] rfl rfl (any_of HT_.out (by kernel_rfl)) (fun _ _ _ h => h) (Or.inl ⟨by rfl, ?_⟩) ?_ ?_
                                                    rotate_left
                                                    · intro w'
                                                      go_simp
                                                      with_reducible rfl
                                                    rotate_left
                                                    · simp only [Act.put, List.setIfInBounds_toArray, List.set_cons_zero, List.set_cons_succ, i64_w, i32_w]
                                                      rfl
                                                    refine pure_ (i := 14) (N := some 93) (v := ?_) (a' := ?_) #[true, true, true, true, true, true, true, true, true, true, false, true, true, false, true, false, false, false, false, false, false] rfl rfl (any_of HT_.out (by kernel_rfl)) (fun _ _ _ h => h) (Or.inl ⟨by rfl, ?_⟩) ?_ ?_
                                                    rotate_left
                                                    · intro w'
                                                      go_simp
                                                      with_reducible rfl
                                                    rotate_left
                                                    · simp only [Act.put, List.setIfInBounds_toArray, List.set_cons_zero, List.set_cons_succ, i64_w, i32_w]
                                                      rfl
                                                    refine pure_ (i := 17) (N := some 96) (v := ?_) (a' := ?_) #[true, true, true, true, true, true, true, true, true, true, false, true, true, false, true, false, false, true, false, false, false] rfl rfl (any_of HT_.out (by kernel_rfl)) (fun _ _ _ h => h) (Or.inl ⟨by rfl, ?_⟩) ?_ ?_
                                                    rotate_left
                                                    · intro w'
                                                      go_simp
                                                      with_reducible rfl
                                                    rotate_left
                                                    · simp only [Act.put, List.setIfInBounds_toArray, List.set_cons_zero, List.set_cons_succ, i64_w, i32_w]
                                                      rfl
                                                    refine one_ (i := 10) (N := some 89) #[true, true, true, true, true, true, true, true, true, true, true, true, true, false, true, false, false, true, false, false, false] rfl rfl (one_of HT_.out (by kernel_rfl)) (by decide) (fun K hK => ?_)
                                                    refine Kd.R_lit_step (Kd.int .u8) _ 5 ?hg (N := 89) ?hd (xs := ([] : List Int)) (inner := []) (ok := fun _ => True) (okp := fun _ => True) ?hr ?hp (fun _ hk => hk) trivial (Below.refl _ _) (Nat.le_refl _) (by simp) ?_; (case hd => rfl); (case hg => rfl); (case hr => first | (go_simp; done) | (go_simp; rfl)); (case hp => exact (Reps.none _ _))
                                                    intro v630 w70 ho71 hb hg_ hnew_
                                                    clear hg_ hnew_
                                                    (first | rw [← Ny629.out] at ho71 | (simp only [Int.reduceToNat] at ho71; rw [← Ny629.out] at ho71))
                                                    have n0_ := Aside0.mk (Kd.V_elder' (by (with_reducible repeat (first | apply Kd.V_alloc | apply Kd.V_drewN | apply Kd.V_drew)); exact HO_0.out) (Kd.R_base ho71) hb)
                                                    have n1_ := Aside0.mk (Kd.V_elder' (by (with_reducible repeat (first | apply Kd.V_alloc | apply Kd.V_drewN | apply Kd.V_drew)); exact HO_14.out) (Kd.R_base ho71) hb)
                                                    have n2_ := Aside0.mk (Kd.V_elder' (by (with_reducible repeat (first | apply Kd.V_alloc | apply Kd.V_drewN | apply Kd.V_drew)); exact HO_15.out) (Kd.R_base ho71) hb)
                                                    have n3_ := Aside0.mk (Kd.V_elder' (by (with_reducible repeat (first | apply Kd.V_alloc | apply Kd.V_drewN | apply Kd.V_drew)); exact HO628.out) (Kd.R_base ho71) hb)
                                                    have n4_ := Aside0.mk (Kd.V_elder' (by (with_reducible repeat (first | apply Kd.V_alloc | apply Kd.V_drewN | apply Kd.V_drew)); exact HO636.out) (Kd.R_base ho71) hb)
                                                    have n5_ := Aside0.mk (Kd.R_lower (Kd.R_newM (M := fun k_ => (w.heap.size ≤ k_)) ho71 (below_size (by repeat (first | (with_reducible first | exact HB.out | apply below_alloc | apply pw_below_drewN | apply below_drew1 | refine below_set ?_ GE595.out) | exact HB.out))) (fun k_ h_ => h_)) (below_size (by repeat (first | (with_reducible first | exact HB.out | apply below_alloc | apply pw_below_drewN | apply below_drew1 | refine below_set ?_ GE595.out) | exact HB.out))))
                                                    have n6_ := Aside0.mk (blk_below (g := gb595) (o := .cells #[.int .i64 a1_0, .int .i64 a1_1, .slice A1_2 l1_2.length c1_2] 68 (0, 0)) (by (with_reducible repeat (first | refine blk_drewN ?_ _ | refine blk_drew ?_ | refine blk_alloc ?_ _)); exact BK595.out) hb)
                                                    have n7_ := Aside0.mk (below_step (by repeat (first | (with_reducible first | exact HB.out | apply below_alloc | apply pw_below_drewN | apply below_drew1 | refine below_set ?_ GE595.out) | exact HB.out)) hb)
                                                    clear HO_0
                                                    clear HO_14
                                                    clear HO_15
                                                    clear HO628
                                                    clear HO636
                                                    clear BK595
                                                    clear HB
                                                    have HO_0 := n0_
                                                    have HO_14 := n1_
                                                    have HO_15 := n2_
                                                    have HO628 := n3_
                                                    have HO636 := n4_
                                                    have HO631 := n5_
                                                    have BK595 := n6_
                                                    have HB := n7_
                                                    clear n0_ n1_ n2_ n3_ n4_ n5_ n6_ n7_
                                                    clear hb ho71
                                                    refine hK.out _ _ trivial (fun hHeld => ?_)
                                                    clear hK K
                                                    refine norm_ (a' := ?_) ?_ ?_
                                                    rotate_left
                                                    · show Act.put _ (some 89) _ = _
                                                      simp only [Act.put, List.setIfInBounds_toArray, List.set_cons_zero, List.set_cons_succ, i64_w, i32_w]
                                                      rfl
                                                    refine one_ (i := 13) (N := some 92) #[true, true, true, true, true, true, true, true, true, true, true, true, true, true, true, false, false, true, false, false, false] rfl rfl (one_of HT_.out (by kernel_rfl)) (by decide) (fun K hK => ?_)
                                                    refine Kd.R_append_rows_step (Kd.int .u8) (w0 := w) w.heap.size (by rfl) (.tmp 89) (.tmp 91) 26 5 (.int .u8 0) 1 rfl Try.underlying26 info5 rfl (by decide) (by omega) v630 y629 y632 _ _ _ (fun k_ => (w.heap.size ≤ k_)) (fun _ => False) rfl rfl ?aO ?aR (fun _ _ h => h) (fun _ h => h.elim) ?aF ?aB ?aS ?aL ?_
                                                    (case aR => repeat (first | exact (Kd.V_reads' HO636.out).2.2 | (with_reducible refine Kd.C_alloc ?_ _) | (with_reducible refine Kd.C_drewN ?_ _) | (with_reducible refine Kd.C_drew ?_)))
                                                    (case aB => exact (by repeat (first | (with_reducible first | exact HB.out | apply below_alloc | apply pw_below_drewN | apply below_drew1 | refine below_set ?_ GE595.out) | exact HB.out)))
                                                    (case aF => exact (fun k_ hk => (Nat.le_trans (below_size (by repeat (first | (with_reducible first | exact HB.out | apply below_alloc | apply pw_below_drewN | apply below_drew1 | refine below_set ?_ GE595.out) | exact HB.out))) hk)))
                                                    (case aO => exact (by (with_reducible repeat (first | apply Kd.R_alloc | apply Kd.R_drewN | apply Kd.R_drew)); exact Kd.R_mono HO631.out (fun _ hk => hk.1)))
                                                    (case aS => exact (below_size (by repeat (first | (with_reducible first | exact HB.out | apply below_alloc | apply pw_below_drewN | apply below_drew1 | refine below_set ?_ GE595.out) | exact HB.out))))
                                                    (case aL => have := LMc58.out; omega)
                                                    intro v638 w72 ho hb hg hat
                                                    rw [← Ny637.out] at ho
                                                    have n0_ := Aside0.mk (Kd.V_afterv (ok := (fun k_ => (P0_ k_ ∨ w.heap.size ≤ k_) ∧ k_ ≠ gb595)) (by (with_reducible repeat (first | apply Kd.V_alloc | apply Kd.V_drewN | apply Kd.V_drew)); exact HO_0.out) hg hat)
                                                    have n1_ := Aside0.mk (Kd.V_afterv (ok := (fun k_ => (P0_ k_ ∨ w.heap.size ≤ k_) ∧ k_ ≠ gb595)) (by (with_reducible repeat (first | apply Kd.V_alloc | apply Kd.V_drewN | apply Kd.V_drew)); exact HO_14.out) hg hat)
                                                    have n2_ := Aside0.mk (Kd.V_afterv (ok := (fun k_ => (P0_ k_ ∨ w.heap.size ≤ k_) ∧ k_ ≠ gb595)) (by (with_reducible repeat (first | apply Kd.V_alloc | apply Kd.V_drewN | apply Kd.V_drew)); exact HO_15.out) hg hat)
                                                    have n3_ := Aside0.mk (blk_grown (g := gb595) (o := .cells #[.int .i64 a1_0, .int .i64 a1_1, .slice A1_2 l1_2.length c1_2] 68 (0, 0)) (by (with_reducible repeat (first | refine blk_drewN ?_ _ | refine blk_drew ?_ | refine blk_alloc ?_ _)); exact BK595.out) hg (Kd.R_ne HO631.out BK595.out (by decide)))
                                                    have n4_ := Aside0.mk (Kd.V_afterv (ok := (fun k_ => (P0_ k_ ∨ w.heap.size ≤ k_) ∧ k_ ≠ gb595)) (by (with_reducible repeat (first | apply Kd.V_alloc | apply Kd.V_drewN | apply Kd.V_drew)); exact HO628.out) hg hat)
                                                    have n5_ := Aside0.mk (Kd.V_afterv (ok := (fun k_ => (P0_ k_ ∨ w.heap.size ≤ k_) ∧ k_ ≠ gb595)) (by (with_reducible repeat (first | apply Kd.V_alloc | apply Kd.V_drewN | apply Kd.V_drew)); exact HO636.out) hg hat)
                                                    have n6_ := Aside0.mk (hb)
                                                    have n7_ := Aside0.mk (ho)
                                                    clear HO_0
                                                    clear HO_14
                                                    clear HO_15
                                                    clear BK595
                                                    clear HO628
                                                    clear HO636
                                                    clear HB
                                                    clear HO631
                                                    have HO_0 := n0_
                                                    have HO_14 := n1_
                                                    have HO_15 := n2_
                                                    have BK595 := n3_
                                                    have HO628 := n4_
                                                    have HO636 := n5_
                                                    have HB := n6_
                                                    have HO639 := n7_
                                                    clear n0_ n1_ n2_ n3_ n4_ n5_ n6_ n7_
                                                    clear ho hb hg hat
                                                    refine hK.out _ _ trivial (fun hHeld => ?_)
                                                    clear hK K
                                                    refine norm_ (a' := ?_) ?_ ?_
                                                    rotate_left
                                                    · show Act.put _ (some 92) _ = _
                                                      simp only [Act.put, List.setIfInBounds_toArray, List.set_cons_zero, List.set_cons_succ, i64_w, i32_w]
                                                      rfl
                                                    refine one_ (i := 15) (N := some 94) #[true, true, true, true, true, true, true, true, true, true, true, true, true, true, true, true, false, true, false, false, false] rfl rfl (one_of HT_.out (by kernel_rfl)) (by decide) (fun K hK => ?_)
                                                    refine Kd.R_append_rows_step (Kd.int .u8) (w0 := w) w.heap.size (by rfl) (.tmp 92) (.tmp 93) 26 5 (.int .u8 0) 1 rfl Try.underlying26 info5 rfl (by decide) (by omega) v638 y637 l0 _ _ _ (fun k_ => (w.heap.size ≤ k_)) (fun _ => False) rfl rfl ?aO ?aR (fun _ _ h => h) (fun _ h => h.elim) ?aF ?aB ?aS ?aL ?_
                                                    (case aR => repeat (first | exact (Kd.V_reads' HO_0.out).2.2 | (with_reducible refine Kd.C_alloc ?_ _) | (with_reducible refine Kd.C_drewN ?_ _) | (with_reducible refine Kd.C_drew ?_)))
                                                    (case aB => exact (by repeat (first | (with_reducible first | exact HB.out | apply below_alloc | apply pw_below_drewN | apply below_drew1 | refine below_set ?_ GE595.out) | exact HB.out)))
                                                    (case aF => exact (fun k_ hk => (Nat.le_trans (below_size (by repeat (first | (with_reducible first | exact HB.out | apply below_alloc | apply pw_below_drewN | apply below_drew1 | refine below_set ?_ GE595.out) | exact HB.out))) hk)))
                                                    (case aO => exact (by (with_reducible repeat (first | apply Kd.R_alloc | apply Kd.R_drewN | apply Kd.R_drew)); exact HO639.out))
                                                    (case aS => exact (below_size (by repeat (first | (with_reducible first | exact HB.out | apply below_alloc | apply pw_below_drewN | apply below_drew1 | refine below_set ?_ GE595.out) | exact HB.out))))
                                                    (case aL => have := LMc59.out; omega)
                                                    intro v641 w73 ho hb hg hat
                                                    rw [← Ny640.out] at ho
                                                    have n0_ := Aside0.mk (Kd.V_afterv (ok := (fun k_ => (P0_ k_ ∨ w.heap.size ≤ k_) ∧ k_ ≠ gb595)) (by (with_reducible repeat (first | apply Kd.V_alloc | apply Kd.V_drewN | apply Kd.V_drew)); exact HO_0.out) hg hat)
                                                    have n1_ := Aside0.mk (Kd.V_afterv (ok := (fun k_ => (P0_ k_ ∨ w.heap.size ≤ k_) ∧ k_ ≠ gb595)) (by (with_reducible repeat (first | apply Kd.V_alloc | apply Kd.V_drewN | apply Kd.V_drew)); exact HO_14.out) hg hat)
                                                    have n2_ := Aside0.mk (Kd.V_afterv (ok := (fun k_ => (P0_ k_ ∨ w.heap.size ≤ k_) ∧ k_ ≠ gb595)) (by (with_reducible repeat (first | apply Kd.V_alloc | apply Kd.V_drewN | apply Kd.V_drew)); exact HO_15.out) hg hat)
                                                    have n3_ := Aside0.mk (blk_grown (g := gb595) (o := .cells #[.int .i64 a1_0, .int .i64 a1_1, .slice A1_2 l1_2.length c1_2] 68 (0, 0)) (by (with_reducible repeat (first | refine blk_drewN ?_ _ | refine blk_drew ?_ | refine blk_alloc ?_ _)); exact BK595.out) hg (Kd.R_ne HO639.out BK595.out (by decide)))
                                                    have n4_ := Aside0.mk (Kd.V_afterv (ok := (fun k_ => (P0_ k_ ∨ w.heap.size ≤ k_) ∧ k_ ≠ gb595)) (by (with_reducible repeat (first | apply Kd.V_alloc | apply Kd.V_drewN | apply Kd.V_drew)); exact HO628.out) hg hat)
                                                    have n5_ := Aside0.mk (Kd.V_afterv (ok := (fun k_ => (P0_ k_ ∨ w.heap.size ≤ k_) ∧ k_ ≠ gb595)) (by (with_reducible repeat (first | apply Kd.V_alloc | apply Kd.V_drewN | apply Kd.V_drew)); exact HO636.out) hg hat)
                                                    have n6_ := Aside0.mk (hb)
                                                    have n7_ := Aside0.mk (ho)
                                                    clear HO_0
                                                    clear HO_14
                                                    clear HO_15
                                                    clear BK595
                                                    clear HO628
                                                    clear HO636
                                                    clear HB
                                                    clear HO639
                                                    have HO_0 := n0_
                                                    have HO_14 := n1_
                                                    have HO_15 := n2_
                                                    have BK595 := n3_
                                                    have HO628 := n4_
                                                    have HO636 := n5_
                                                    have HB := n6_
                                                    have HO642 := n7_
                                                    clear n0_ n1_ n2_ n3_ n4_ n5_ n6_ n7_
                                                    clear ho hb hg hat
                                                    obtain ⟨Ao74, co74, eo74⟩ := Kd.R_slice HO642.out
                                                    (first | subst eo74 | (injection eo74 with f1_ f2_ f3_; have f4_ := f1_.symm; have f5_ := f3_.symm; clear f1_ f2_ f3_; subst f4_; subst f5_))
                                                    refine hK.out _ _ trivial (fun hHeld => ?_)
                                                    clear hK K
                                                    refine norm_ (a' := ?_) ?_ ?_
                                                    rotate_left
                                                    · show Act.put _ (some 94) _ = _
                                                      simp only [Act.put, List.setIfInBounds_toArray, List.set_cons_zero, List.set_cons_succ, i64_w, i32_w]
                                                      rfl
                                                    refine last_ (i := 16) (N := some 95) #[true, true, true, true, true, true, true, true, true, true, true, true, true, true, true, true, true, true, false, false, false] rfl rfl (one_of HT_.out (by kernel_rfl)) (by decide) (fun K hK => ?_)
                                                    refine value_ (w1 := ?_) (v := ?_) (by rfl) rfl ?_ ?_
                                                    rotate_left 2
                                                    · go_simp
                                                      constructor
                                                      · rfl
                                                      · rfl
                                                    refine hK.out _ _ ?_
                                                    clear hK K
                                                    refine norm_ (a' := ?_) ?_ ?_
                                                    rotate_left
                                                    · show Act.put _ (some 95) _ = _
                                                      simp only [Act.put, List.setIfInBounds_toArray, List.set_cons_zero, List.set_cons_succ, i64_w, i32_w]
                                                      rfl
                                                    refine pure_ (i := 18) (N := some 97) (v := ?_) (a' := ?_) #[true, true, true, true, true, true, true, true, true, true, true, true, true, true, true, true, true, true, true, false, false] rfl rfl (any_of HT_.out (by kernel_rfl)) (fun _ _ _ h => h) (Or.inl ⟨by rfl, ?_⟩) ?_ ?_
                                                    rotate_left
                                                    · intro w'
                                                      go_simp
                                                      with_reducible rfl
                                                    rotate_left
                                                    · simp only [Act.put, List.setIfInBounds_toArray, List.set_cons_zero, List.set_cons_succ, i64_w, i32_w]
                                                      rfl
                                                    refine last_ (i := 19) (N := some 98) #[true, true, true, true, true, true, true, true, true, true, true, true, true, true, true, true, true, true, true, true, false] rfl rfl (one_of HT_.out (by kernel_rfl)) (by decide) (fun K hK => ?_)
                                                    have hvq75 : Kd.AllV (Kd.int .u8) 5 w73 w.heap.size (fun k_ => ((P0_ k_ ∨ w.heap.size ≤ k_) ∧ k_ ≠ gb595)) [.slice A0 l0.length c0, .slice Ao43 x15_36.length co43, .slice A68 y624.length c68, .slice Ao74 y640.length co74] ([l0, x15_36, y624, y640] : List (List Int)) := ⟨by (with_reducible repeat (first | apply Kd.V_alloc | apply Kd.V_drewN | apply Kd.V_drew)); exact Kd.V_mono HO_0.out (fun _ hk => ⟨hk.1.1, hk.1.2⟩), by (with_reducible repeat (first | apply Kd.V_alloc | apply Kd.V_drewN | apply Kd.V_drew)); exact Kd.V_mono HO_15.out (fun _ hk => ⟨hk.1.1, hk.1.2⟩), by (with_reducible repeat (first | apply Kd.V_alloc | apply Kd.V_drewN | apply Kd.V_drew)); exact Kd.V_mono HO628.out (fun _ hk => ⟨hk.1.1, hk.1.2⟩), Kd.V_mono (Kd.R_V (ok := fun k_ => ((w.heap.size ≤ k_) ∧ k_ ≠ gb595)) (by (with_reducible repeat (first | apply Kd.R_alloc | apply Kd.R_drewN | apply Kd.R_drew)); exact (Kd.R_types HO642.out BK595.out (by decide)))) (fun k_ hk => ⟨(.inr (hk.1)), hk.2⟩), trivial⟩
                                                    obtain ⟨v644, hqq75⟩ : ∃ v_, ([.slice A0 l0.length c0, .slice Ao43 x15_36.length co43, .slice A68 y624.length c68, .slice Ao74 y640.length co74] : List Value).getD (x16_5).toNat undef = v_ := ⟨_, rfl⟩
                                                    have hoq75 : Kd.V (Kd.int .u8) 5 w73 w.heap.size (fun k_ => ((P0_ k_ ∨ w.heap.size ≤ k_) ∧ k_ ≠ gb595)) v644 y643 := by rw [← hqq75, Ny643.out]; exact Kd.AllV_get _ _ _ hvq75 jlq75
                                                    refine value_ (w1 := _) (v := v644) (by rfl) rfl (by rw [← hqq75]; exact pick_run (by rfl) (by rfl) Try.underlying26 jlq75) ?_
                                                    clear hvq75 hqq75
                                                    have HO645 := Aside0.mk hoq75
                                                    clear hoq75
                                                    refine hK.out _ _ ?_
                                                    clear hK K
                                                    refine norm_ (a' := ?_) ?_ ?_
                                                    rotate_left
                                                    · show Act.put _ (some 98) _ = _
                                                      simp only [Act.put, List.setIfInBounds_toArray, List.set_cons_zero, List.set_cons_succ, i64_w, i32_w]
                                                      rfl
                                                    refine pure_ (i := 20) (N := some 17) (v := ?_) (a' := ?_) #[true, true, true, true, true, true, true, true, true, true, true, true, true, true, true, true, true, true, true, true, true] rfl rfl (any_of HT_.out (by kernel_rfl)) (fun _ _ _ h => h) (Or.inl ⟨by rfl, ?_⟩) ?_ ?_
                                                    rotate_left
                                                    · intro w'
                                                      go_simp
                                                      with_reducible rfl
                                                    rotate_left
                                                    · simp only [Act.put, List.setIfInBounds_toArray, List.set_cons_zero, List.set_cons_succ, i64_w, i32_w]
                                                      rfl
                                                    refine done_ (done_of HT_.out (by kernel_rfl)) ?_
                                                    obtain ⟨Ao76, co76, eo76⟩ := Kd.V_slice HO645.out
                                                    subst eo76
                                                    try go_wp2_with (first | ((with_reducible refine gate_callee (f := 40) rfl ?_); refine goesL_ (some 101) rfl rfl Try.func40 (by kernel_rfl) rfl #[.slice Ao76 y643.length co76] rfl (by (try simp only [List.map_toArray, List.map_cons, List.map_nil]); first | done | rfl | (simp only [List.length_drop, List.length_take]; rfl)) ?_; (with_reducible refine (fram_Parse.calls k5 _ _ y643 t646 t647 t648 t651 t652 _ ?side1 ?side2 A61.out).mono ?_); (case side1 => repeat (first | exact (Kd.V_reads' HO645.out).2.2 | (with_reducible refine Kd.C_alloc ?_ _) | (with_reducible refine Kd.C_drewN ?_ _) | (with_reducible refine Kd.C_drew ?_))); (case side2 => exact (Kd.V_reads' HO645.out).2.1); rintro e w77 ⟨v649, rfl, ho0, hb⟩; refine ⟨_, rfl, ?_⟩; have n0_ := Aside0.mk (Kd.V_elder' (by (with_reducible repeat (first | apply Kd.V_alloc | apply Kd.V_drewN | apply Kd.V_drew)); exact HO_0.out) (Kd.R_base ho0) hb); have n1_ := Aside0.mk (Kd.V_elder' (by (with_reducible repeat (first | apply Kd.V_alloc | apply Kd.V_drewN | apply Kd.V_drew)); exact HO_14.out) (Kd.R_base ho0) hb); have n2_ := Aside0.mk (Kd.V_elder' (by (with_reducible repeat (first | apply Kd.V_alloc | apply Kd.V_drewN | apply Kd.V_drew)); exact HO_15.out) (Kd.R_base ho0) hb); have n3_ := Aside0.mk (Kd.V_elder' (by (with_reducible repeat (first | apply Kd.V_alloc | apply Kd.V_drewN | apply Kd.V_drew)); exact HO628.out) (Kd.R_base ho0) hb); have n4_ := Aside0.mk (Kd.V_elder' (by (with_reducible repeat (first | apply Kd.V_alloc | apply Kd.V_drewN | apply Kd.V_drew)); exact HO636.out) (Kd.R_base ho0) hb); have n5_ := Aside0.mk (Kd.R_elder' (by (with_reducible repeat (first | apply Kd.R_alloc | apply Kd.R_drewN | apply Kd.R_drew)); exact HO642.out) (Kd.R_base ho0) hb); have n6_ := Aside0.mk (Kd.V_elder' (by (with_reducible repeat (first | apply Kd.V_alloc | apply Kd.V_drewN | apply Kd.V_drew)); exact HO645.out) (Kd.R_base ho0) hb); have n7_ := Aside0.mk (Kd.R_lower (Kd.R_new' (Kd.R_newM (M := fun k_ => (w.heap.size ≤ k_)) ho0 (below_size (by repeat (first | (with_reducible first | exact HB.out | apply below_alloc | apply pw_below_drewN | apply below_drew1 | refine below_set ?_ GE595.out) | exact HB.out))) (fun k_ h_ => h_)) (Kd.R_lt (by (with_reducible repeat (first | apply Kd.R_alloc | apply Kd.R_drewN | apply Kd.R_drew)); exact HO642.out))) (below_size (by repeat (first | (with_reducible first | exact HB.out | apply below_alloc | apply pw_below_drewN | apply below_drew1 | refine below_set ?_ GE595.out) | exact HB.out)))); have n8_ := Aside0.mk (blk_below (g := gb595) (o := .cells #[.int .i64 a1_0, .int .i64 a1_1, .slice A1_2 l1_2.length c1_2] 68 (0, 0)) (by (with_reducible repeat (first | refine blk_drewN ?_ _ | refine blk_drew ?_ | refine blk_alloc ?_ _)); exact BK595.out) hb); have n9_ := Aside0.mk (below_step (by repeat (first | (with_reducible first | exact HB.out | apply below_alloc | apply pw_below_drewN | apply below_drew1 | refine below_set ?_ GE595.out) | exact HB.out)) hb); clear HO_0; clear HO_14; clear HO_15; clear HO628; clear HO636; clear HO642; clear HO645; clear BK595; clear HB; have HO_0 := n0_; have HO_14 := n1_; have HO_15 := n2_; have HO628 := n3_; have HO636 := n4_; have HO642 := n5_; have HO645 := n6_; have HO650 := n7_; have BK595 := n8_; have HB := n9_; clear n0_ n1_ n2_ n3_ n4_ n5_ n6_ n7_ n8_ n9_; (try clear hb); (try clear hb2); (try clear hk); (try clear hi); (try clear hge); (try clear ho0)) | ((with_reducible refine gate_dst (N := 18) rfl ?_); (try (refine gate_guard (by rfl) ?_; dsimp only)); refine box_event ?hg (N := 18) ?hd (cs := #[.int .i64 0, .int .i64 0, .slice none 0 0]) (t := 68) ?hr ?_; (case hd => rfl); (case hg => rfl); (case hr => first | (go_simp; done) | (go_simp; rfl)); intro gb653 hg w78 hbox hb; have n0_ := Aside0.mk (Kd.V_below (Kd.V_elderB (by (with_reducible repeat (first | apply Kd.V_alloc | apply Kd.V_drewN | apply Kd.V_drew)); exact HO_0.out) gb653 (Nat.le_of_eq hg.symm)) hb); have n1_ := Aside0.mk (Kd.V_below (Kd.V_elderB (by (with_reducible repeat (first | apply Kd.V_alloc | apply Kd.V_drewN | apply Kd.V_drew)); exact HO_14.out) gb653 (Nat.le_of_eq hg.symm)) hb); have n2_ := Aside0.mk (Kd.V_below (Kd.V_elderB (by (with_reducible repeat (first | apply Kd.V_alloc | apply Kd.V_drewN | apply Kd.V_drew)); exact HO_15.out) gb653 (Nat.le_of_eq hg.symm)) hb); have n3_ := Aside0.mk (Kd.V_below (Kd.V_elderB (by (with_reducible repeat (first | apply Kd.V_alloc | apply Kd.V_drewN | apply Kd.V_drew)); exact HO628.out) gb653 (Nat.le_of_eq hg.symm)) hb); have n4_ := Aside0.mk (Kd.V_below (Kd.V_elderB (by (with_reducible repeat (first | apply Kd.V_alloc | apply Kd.V_drewN | apply Kd.V_drew)); exact HO636.out) gb653 (Nat.le_of_eq hg.symm)) hb); have n5_ := Aside0.mk (Kd.R_below (by (with_reducible repeat (first | apply Kd.R_alloc | apply Kd.R_drewN | apply Kd.R_drew)); exact HO642.out) hb); have n6_ := Aside0.mk (Kd.V_below (Kd.V_elderB (by (with_reducible repeat (first | apply Kd.V_alloc | apply Kd.V_drewN | apply Kd.V_drew)); exact HO645.out) gb653 (Nat.le_of_eq hg.symm)) hb); have n7_ := Aside0.mk (Kd.R_below (by (with_reducible repeat (first | apply Kd.R_alloc | apply Kd.R_drewN | apply Kd.R_drew)); exact HO650.out) hb); have n8_ := Aside0.mk (blk_below (g := gb595) (o := .cells #[.int .i64 a1_0, .int .i64 a1_1, .slice A1_2 l1_2.length c1_2] 68 (0, 0)) (by (with_reducible repeat (first | refine blk_drewN ?_ _ | refine blk_drew ?_ | refine blk_alloc ?_ _)); exact BK595.out) hb); have n9_ := Aside0.mk (below_step (by repeat (first | (with_reducible first | exact HB.out | apply below_alloc | apply pw_below_drewN | apply below_drew1 | refine below_set ?_ GE595.out) | exact HB.out)) hb); have n10_ := Aside0.mk (hbox); have n11_ := Aside0.mk ((by rw [hg]; exact (below_size (by repeat (first | (with_reducible first | exact HB.out | apply below_alloc | apply pw_below_drewN | apply below_drew1 | refine below_set ?_ GE595.out) | exact HB.out))) : w.heap.size ≤ gb653)); have n12_ := Aside0.mk ((by rw [hg]; exact (below_size (by repeat (first | (with_reducible first | exact HB.out | apply below_alloc | apply pw_below_drewN | apply below_drew1 | refine below_set ?_ GE595.out) | exact HB.out))) : w.heap.size ≤ gb653)); have n13_ := Aside0.mk ((by rw [hg]; exact Nat.ne_of_lt (blk_lt (g := gb595) (o := .cells #[.int .i64 a1_0, .int .i64 a1_1, .slice A1_2 l1_2.length c1_2] 68 (0, 0)) (by (with_reducible repeat (first | refine blk_drewN ?_ _ | refine blk_drew ?_ | refine blk_alloc ?_ _)); exact BK595.out)) : gb595 ≠ gb653)); have n14_ := Aside0.mk ((by rw [hg]; exact Nat.ne_of_gt (blk_lt (g := gb595) (o := .cells #[.int .i64 a1_0, .int .i64 a1_1, .slice A1_2 l1_2.length c1_2] 68 (0, 0)) (by (with_reducible repeat (first | refine blk_drewN ?_ _ | refine blk_drew ?_ | refine blk_alloc ?_ _)); exact BK595.out)) : gb653 ≠ gb595)); clear HO_0; clear HO_14; clear HO_15; clear HO628; clear HO636; clear HO642; clear HO645; clear HO650; clear BK595; clear HB; have HO_0 := n0_; have HO_14 := n1_; have HO_15 := n2_; have HO628 := n3_; have HO636 := n4_; have HO642 := n5_; have HO645 := n6_; have HO650 := n7_; have BK595 := n8_; have HB := n9_; have BK653 := n10_; have GW653 := n11_; have GE653 := n12_; have NB595_653 := n13_; have NB653_595 := n14_; clear n0_ n1_ n2_ n3_ n4_ n5_ n6_ n7_ n8_ n9_ n10_ n11_ n12_ n13_ n14_; clear hb hbox hg; have hnb79 := NB653_595.out; have hnc79 := NB595_653.out; have hcz80_0 : w78.cell? ⟨gb653, 0, none⟩ = some (.int .i64 0) := (blk_cell BK653.out 0).trans rfl; have hcz80_1 : w78.cell? ⟨gb653, 1, none⟩ = some (.int .i64 0) := (blk_cell BK653.out 1).trans rfl; have hcz80_2 : w78.cell? ⟨gb653, 2, none⟩ = some (.slice none 0 0) := (blk_cell BK653.out 2).trans rfl; have hfz80_0 := blk_frozen BK653.out 0; have hfz80_1 := blk_frozen BK653.out 1; have hfz80_2 := blk_frozen BK653.out 2; obtain ⟨Ao81, co81, eo81⟩ := Kd.R_slice HO650.out; subst eo81) | ((with_reducible refine gate_store (t := 68) (p := 18) rfl ?_); refine store_event (t := 68) (p := 18) (v := ?vo_w82) (w1 := (((w78.setCell ⟨gb653, 0, none⟩ (.int .i64 t646)).setCell ⟨gb653, 1, none⟩ (.int .i64 t647)).setCell ⟨gb653, 2, none⟩ (.slice Ao81 t648.length co81))) ?hg ?ho ?hn ?hr ?_; (case ho => rfl); (case hg => rfl); (case hn => rfl); (case hr => first | (go_simp; done) | (go_simp; rfl)); intro w82 hw; have n0_ : Aside0 (Kd.V (Kd.int .u8) 5 w82 w.heap.size (fun k_ => (P0_ k_ ∨ w.heap.size ≤ k_) ∧ some k_ ≠ (.slice Ao74 y640.length co74 : Value).ownBlock ∧ some k_ ≠ (.slice Ao81 t648.length co81 : Value).ownBlock ∧ k_ ≠ gb595 ∧ k_ ≠ gb653) (.slice A0 l0.length c0) l0) := ⟨(by rw [hw]; exact (by (with_reducible repeat (first | apply Kd.V_alloc | apply Kd.V_drewN | apply Kd.V_drew)); exact Kd.V_mono (Kd.V_far (p := ⟨gb653, 2, none⟩) (Kd.V_far (p := ⟨gb653, 1, none⟩) (Kd.V_far (p := ⟨gb653, 0, none⟩) (Kd.V_mono HO_0.out (fun k_ hk => (⟨hk, hk.2⟩ : _ ∧ k_ ≠ gb653))) (fun _ hk => hk.2) (.int .i64 t646)) (fun _ hk => hk.2) (.int .i64 t647)) (fun _ hk => hk.2) (.slice Ao81 t648.length co81)) (fun _ hk => ⟨hk.1.1.1.1.1, ⟨hk.1.1.1.2, ⟨hk.1.1.2, ⟨hk.1.1.1.1.2, hk.1.2⟩⟩⟩⟩)))⟩; have n1_ : Aside0 (Kd.V (Kd.int .u8) 5 w82 w.heap.size (fun k_ => (P0_ k_ ∨ w.heap.size ≤ k_) ∧ some k_ ≠ (.slice Ao74 y640.length co74 : Value).ownBlock ∧ some k_ ≠ (.slice Ao81 t648.length co81 : Value).ownBlock ∧ k_ ≠ gb595 ∧ k_ ≠ gb653) (.slice Ao41 x14_14.length co41) x14_14) := ⟨(by rw [hw]; exact (by (with_reducible repeat (first | apply Kd.V_alloc | apply Kd.V_drewN | apply Kd.V_drew)); exact Kd.V_mono (Kd.V_far (p := ⟨gb653, 2, none⟩) (Kd.V_far (p := ⟨gb653, 1, none⟩) (Kd.V_far (p := ⟨gb653, 0, none⟩) (Kd.V_mono HO_14.out (fun k_ hk => (⟨hk, hk.2⟩ : _ ∧ k_ ≠ gb653))) (fun _ hk => hk.2) (.int .i64 t646)) (fun _ hk => hk.2) (.int .i64 t647)) (fun _ hk => hk.2) (.slice Ao81 t648.length co81)) (fun _ hk => ⟨hk.1.1.1.1.1, ⟨hk.1.1.1.2, ⟨hk.1.1.2, ⟨hk.1.1.1.1.2, hk.1.2⟩⟩⟩⟩)))⟩; have n2_ : Aside0 (Kd.V (Kd.int .u8) 5 w82 w.heap.size (fun k_ => (P0_ k_ ∨ w.heap.size ≤ k_) ∧ some k_ ≠ (.slice Ao74 y640.length co74 : Value).ownBlock ∧ some k_ ≠ (.slice Ao81 t648.length co81 : Value).ownBlock ∧ k_ ≠ gb595 ∧ k_ ≠ gb653) (.slice Ao43 x15_36.length co43) x15_36) := ⟨(by rw [hw]; exact (by (with_reducible repeat (first | apply Kd.V_alloc | apply Kd.V_drewN | apply Kd.V_drew)); exact Kd.V_mono (Kd.V_far (p := ⟨gb653, 2, none⟩) (Kd.V_far (p := ⟨gb653, 1, none⟩) (Kd.V_far (p := ⟨gb653, 0, none⟩) (Kd.V_mono HO_15.out (fun k_ hk => (⟨hk, hk.2⟩ : _ ∧ k_ ≠ gb653))) (fun _ hk => hk.2) (.int .i64 t646)) (fun _ hk => hk.2) (.int .i64 t647)) (fun _ hk => hk.2) (.slice Ao81 t648.length co81)) (fun _ hk => ⟨hk.1.1.1.1.1, ⟨hk.1.1.1.2, ⟨hk.1.1.2, ⟨hk.1.1.1.1.2, hk.1.2⟩⟩⟩⟩)))⟩; have n3_ : Aside0 (Kd.V (Kd.int .u8) 5 w82 w.heap.size (fun k_ => (P0_ k_ ∨ w.heap.size ≤ k_) ∧ some k_ ≠ (.slice Ao74 y640.length co74 : Value).ownBlock ∧ some k_ ≠ (.slice Ao81 t648.length co81 : Value).ownBlock ∧ k_ ≠ gb595 ∧ k_ ≠ gb653) (.slice A68 y624.length c68) y624) := ⟨(by rw [hw]; exact (by (with_reducible repeat (first | apply Kd.V_alloc | apply Kd.V_drewN | apply Kd.V_drew)); exact Kd.V_mono (Kd.V_far (p := ⟨gb653, 2, none⟩) (Kd.V_far (p := ⟨gb653, 1, none⟩) (Kd.V_far (p := ⟨gb653, 0, none⟩) (Kd.V_mono HO628.out (fun k_ hk => (⟨hk, hk.2⟩ : _ ∧ k_ ≠ gb653))) (fun _ hk => hk.2) (.int .i64 t646)) (fun _ hk => hk.2) (.int .i64 t647)) (fun _ hk => hk.2) (.slice Ao81 t648.length co81)) (fun _ hk => ⟨hk.1.1.1.1.1, ⟨hk.1.1.1.2, ⟨hk.1.1.2, ⟨hk.1.1.1.1.2, hk.1.2⟩⟩⟩⟩)))⟩; have n4_ : Aside0 (Kd.V (Kd.int .u8) 5 w82 w.heap.size (fun k_ => (P0_ k_ ∨ w.heap.size ≤ k_) ∧ some k_ ≠ (.slice Ao74 y640.length co74 : Value).ownBlock ∧ some k_ ≠ (.slice Ao81 t648.length co81 : Value).ownBlock ∧ k_ ≠ gb595 ∧ k_ ≠ gb653) (.slice A69 y632.length c69) y632) := ⟨(by rw [hw]; exact (by (with_reducible repeat (first | apply Kd.V_alloc | apply Kd.V_drewN | apply Kd.V_drew)); exact Kd.V_mono (Kd.V_far (p := ⟨gb653, 2, none⟩) (Kd.V_far (p := ⟨gb653, 1, none⟩) (Kd.V_far (p := ⟨gb653, 0, none⟩) (Kd.V_mono HO636.out (fun k_ hk => (⟨hk, hk.2⟩ : _ ∧ k_ ≠ gb653))) (fun _ hk => hk.2) (.int .i64 t646)) (fun _ hk => hk.2) (.int .i64 t647)) (fun _ hk => hk.2) (.slice Ao81 t648.length co81)) (fun _ hk => ⟨hk.1.1.1.1.1, ⟨hk.1.1.1.2, ⟨hk.1.1.2, ⟨hk.1.1.1.1.2, hk.1.2⟩⟩⟩⟩)))⟩; have n5_ : Aside0 (Kd.R (Kd.int .u8) 5 w82 w.heap.size (fun k_ => (w.heap.size ≤ k_) ∧ some k_ ≠ (.slice Ao81 t648.length co81 : Value).ownBlock) (.slice Ao74 y640.length co74) y640) := ⟨(by rw [hw]; exact (by (with_reducible repeat (first | apply Kd.R_alloc | apply Kd.R_drewN | apply Kd.R_drew)); exact Kd.R_mono (Kd.R_far (p := ⟨gb653, 2, none⟩) (Kd.R_far (p := ⟨gb653, 1, none⟩) (Kd.R_far (p := ⟨gb653, 0, none⟩) (Kd.R_types HO642.out BK653.out (by decide)) (fun _ hk => hk.2) (.int .i64 t646)) (fun _ hk => hk.2) (.int .i64 t647)) (fun _ hk => hk.2) (.slice Ao81 t648.length co81)) (fun _ hk => ⟨hk.1.1, hk.1.2⟩)))⟩; have n6_ : Aside0 (Kd.V (Kd.int .u8) 5 w82 w.heap.size (fun k_ => (P0_ k_ ∨ w.heap.size ≤ k_) ∧ some k_ ≠ (.slice Ao81 t648.length co81 : Value).ownBlock ∧ k_ ≠ gb595 ∧ k_ ≠ gb653) (.slice Ao76 y643.length co76) y643) := ⟨(by rw [hw]; exact (by (with_reducible repeat (first | apply Kd.V_alloc | apply Kd.V_drewN | apply Kd.V_drew)); exact Kd.V_mono (Kd.V_far (p := ⟨gb653, 2, none⟩) (Kd.V_far (p := ⟨gb653, 1, none⟩) (Kd.V_far (p := ⟨gb653, 0, none⟩) (Kd.V_mono HO645.out (fun k_ hk => (⟨hk, hk.2⟩ : _ ∧ k_ ≠ gb653))) (fun _ hk => hk.2) (.int .i64 t646)) (fun _ hk => hk.2) (.int .i64 t647)) (fun _ hk => hk.2) (.slice Ao81 t648.length co81)) (fun _ hk => ⟨hk.1.1.1.1, ⟨hk.1.1.2, ⟨hk.1.1.1.2, hk.1.2⟩⟩⟩)))⟩; have n7_ : Aside0 (Kd.R (Kd.int .u8) 5 w82 w.heap.size (fun k_ => (w.heap.size ≤ k_) ∧ some k_ ≠ (.slice Ao74 y640.length co74 : Value).ownBlock) (.slice Ao81 t648.length co81) t648) := ⟨(by rw [hw]; exact (by (with_reducible repeat (first | apply Kd.R_alloc | apply Kd.R_drewN | apply Kd.R_drew)); exact Kd.R_mono (Kd.R_far (p := ⟨gb653, 2, none⟩) (Kd.R_far (p := ⟨gb653, 1, none⟩) (Kd.R_far (p := ⟨gb653, 0, none⟩) (Kd.R_types HO650.out BK653.out (by decide)) (fun _ hk => hk.2) (.int .i64 t646)) (fun _ hk => hk.2) (.int .i64 t647)) (fun _ hk => hk.2) (.slice Ao81 t648.length co81)) (fun _ hk => ⟨hk.1.1.1, hk.1.2⟩)))⟩; have n8_ : Aside0 (w82.heap[gb595]? = some (.cells #[.int .i64 a1_0, .int .i64 a1_1, .slice A1_2 l1_2.length c1_2] 68 (0, 0))) := ⟨(by rw [hw]; exact (by (with_reducible repeat (first | refine blk_drewN ?_ _ | refine blk_drew ?_ | refine blk_alloc ?_ _)); refine blk_far ?_ NB595_653.out _; (with_reducible repeat (first | refine blk_drewN ?_ _ | refine blk_drew ?_ | refine blk_alloc ?_ _)); refine blk_far ?_ NB595_653.out _; (with_reducible repeat (first | refine blk_drewN ?_ _ | refine blk_drew ?_ | refine blk_alloc ?_ _)); refine blk_far ?_ NB595_653.out _; (with_reducible repeat (first | refine blk_drewN ?_ _ | refine blk_drew ?_ | refine blk_alloc ?_ _)); exact BK595.out))⟩; have n9_ : Aside0 (w82.heap[gb653]? = some (.cells #[.int .i64 t646, .int .i64 t647, .slice Ao81 t648.length co81] 68 (0, 0))) := ⟨(by rw [hw]; exact (by (with_reducible repeat (first | refine blk_drewN ?_ _ | refine blk_drew ?_ | refine blk_alloc ?_ _)); refine blk_put (cs := #[.int .i64 t646, .int .i64 t647, .slice none 0 0]) ?_ 2 _ rfl; (with_reducible repeat (first | refine blk_drewN ?_ _ | refine blk_drew ?_ | refine blk_alloc ?_ _)); refine blk_put (cs := #[.int .i64 t646, .int .i64 0, .slice none 0 0]) ?_ 1 _ rfl; (with_reducible repeat (first | refine blk_drewN ?_ _ | refine blk_drew ?_ | refine blk_alloc ?_ _)); refine blk_put (cs := #[.int .i64 0, .int .i64 0, .slice none 0 0]) ?_ 0 _ rfl; (with_reducible repeat (first | refine blk_drewN ?_ _ | refine blk_drew ?_ | refine blk_alloc ?_ _)); exact BK653.out))⟩; have n10_ : Aside0 (Below w.heap.size w w82) := ⟨(by rw [hw]; exact (by repeat (first | (with_reducible first | exact HB.out | apply below_alloc | apply pw_below_drewN | apply below_drew1 | refine below_set ?_ GE595.out | refine below_set ?_ GE653.out) | exact HB.out)))⟩; clear hw; clear HO_0; clear HO_14; clear HO_15; clear HO628; clear HO636; clear HO642; clear HO645; clear HO650; clear BK595; clear BK653; clear HB; have HO_0 := n0_; have HO_14 := n1_; have HO_15 := n2_; have HO628 := n3_; have HO636 := n4_; have HO642 := n5_; have HO645 := n6_; have HO650 := n7_; have BK595 := n8_; have BK653 := n9_; have HB := n10_; clear n0_ n1_ n2_ n3_ n4_ n5_ n6_ n7_ n8_ n9_ n10_) | ((with_reducible refine gate_callee (f := 44) rfl ?_); refine goesL_ (some 107) rfl rfl Try.func44 (by kernel_rfl) rfl #[.slice Ao76 y643.length co76] rfl (by (try simp only [List.map_toArray, List.map_cons, List.map_nil]); first | done | rfl | (simp only [List.length_drop, List.length_take]; rfl)) ?_; (with_reducible refine (waybillref1_FrameOf.calls k5 (fun k_ => ((P0_ k_ ∨ w.heap.size ≤ k_) ∧ (some k_ ≠ (.slice Ao81 t648.length co81 : Value).ownBlock ∧ (k_ ≠ gb595 ∧ k_ ≠ gb653)))) _ _ y643 t654 t655 t656 t659 t660 _ ?side1 A62.out).mono ?_); (case side1 => exact HO645.out); rintro e w83 ⟨v657, rfl, ho0, hb⟩; refine ⟨_, rfl, ?_⟩; have n0_ := Aside0.mk (Kd.V_below (by (with_reducible repeat (first | apply Kd.V_alloc | apply Kd.V_drewN | apply Kd.V_drew)); exact HO_0.out) hb); have n1_ := Aside0.mk (Kd.V_below (by (with_reducible repeat (first | apply Kd.V_alloc | apply Kd.V_drewN | apply Kd.V_drew)); exact HO_14.out) hb); have n2_ := Aside0.mk (Kd.V_below (by (with_reducible repeat (first | apply Kd.V_alloc | apply Kd.V_drewN | apply Kd.V_drew)); exact HO_15.out) hb); have n3_ := Aside0.mk (Kd.V_below (by (with_reducible repeat (first | apply Kd.V_alloc | apply Kd.V_drewN | apply Kd.V_drew)); exact HO628.out) hb); have n4_ := Aside0.mk (Kd.V_below (by (with_reducible repeat (first | apply Kd.V_alloc | apply Kd.V_drewN | apply Kd.V_drew)); exact HO636.out) hb); have n5_ := Aside0.mk (Kd.R_below (by (with_reducible repeat (first | apply Kd.R_alloc | apply Kd.R_drewN | apply Kd.R_drew)); exact HO642.out) hb); have n6_ := Aside0.mk (Kd.V_below (by (with_reducible repeat (first | apply Kd.V_alloc | apply Kd.V_drewN | apply Kd.V_drew)); exact HO645.out) hb); have n7_ := Aside0.mk (Kd.R_below (by (with_reducible repeat (first | apply Kd.R_alloc | apply Kd.R_drewN | apply Kd.R_drew)); exact HO650.out) hb); have n8_ := Aside0.mk (Kd.V_lower (Kd.V_mono (ok' := fun k_ => (P0_ k_ ∨ w.heap.size ≤ k_) ∧ some k_ ≠ (.slice Ao81 t648.length co81 : Value).ownBlock ∧ k_ ≠ gb595 ∧ k_ ≠ gb653) ho0 (fun k_ hk_ => ⟨Or.elim hk_ (fun hs_ => hs_.1) (fun hn_ => (.inr (Nat.le_trans (below_size (by repeat (first | (with_reducible first | exact HB.out | apply below_alloc | apply pw_below_drewN | apply below_drew1 | refine below_set ?_ GE595.out | refine below_set ?_ GE653.out) | exact HB.out))) hn_))), Or.elim hk_ (fun hs_ => hs_.2.1) (fun hn_ => (Kd.fresh' (Kd.R_lt (by (with_reducible repeat (first | apply Kd.R_alloc | apply Kd.R_drewN | apply Kd.R_drew)); exact HO650.out)) k_ hn_)), Or.elim hk_ (fun hs_ => hs_.2.2.1) (fun hn_ => (Kd.freshB (g := gb595) (o := .cells #[.int .i64 a1_0, .int .i64 a1_1, .slice A1_2 l1_2.length c1_2] 68 (0, 0)) (by (with_reducible repeat (first | refine blk_drewN ?_ _ | refine blk_drew ?_ | refine blk_alloc ?_ _)); exact BK595.out) k_ hn_)), Or.elim hk_ (fun hs_ => hs_.2.2.2) (fun hn_ => (Kd.freshB (g := gb653) (o := .cells #[.int .i64 t646, .int .i64 t647, .slice Ao81 t648.length co81] 68 (0, 0)) (by (with_reducible repeat (first | refine blk_drewN ?_ _ | refine blk_drew ?_ | refine blk_alloc ?_ _)); exact BK653.out) k_ hn_))⟩)) (below_size (by repeat (first | (with_reducible first | exact HB.out | apply below_alloc | apply pw_below_drewN | apply below_drew1 | refine below_set ?_ GE595.out | refine below_set ?_ GE653.out) | exact HB.out)))); have n9_ := Aside0.mk (blk_below (g := gb595) (o := .cells #[.int .i64 a1_0, .int .i64 a1_1, .slice A1_2 l1_2.length c1_2] 68 (0, 0)) (by (with_reducible repeat (first | refine blk_drewN ?_ _ | refine blk_drew ?_ | refine blk_alloc ?_ _)); exact BK595.out) hb); have n10_ := Aside0.mk (blk_below (g := gb653) (o := .cells #[.int .i64 t646, .int .i64 t647, .slice Ao81 t648.length co81] 68 (0, 0)) (by (with_reducible repeat (first | refine blk_drewN ?_ _ | refine blk_drew ?_ | refine blk_alloc ?_ _)); exact BK653.out) hb); have n11_ := Aside0.mk (below_step (by repeat (first | (with_reducible first | exact HB.out | apply below_alloc | apply pw_below_drewN | apply below_drew1 | refine below_set ?_ GE595.out | refine below_set ?_ GE653.out) | exact HB.out)) hb); clear HO_0; clear HO_14; clear HO_15; clear HO628; clear HO636; clear HO642; clear HO645; clear HO650; clear BK595; clear BK653; clear HB; have HO_0 := n0_; have HO_14 := n1_; have HO_15 := n2_; have HO628 := n3_; have HO636 := n4_; have HO642 := n5_; have HO645 := n6_; have HO650 := n7_; have HO658 := n8_; have BK595 := n9_; have BK653 := n10_; have HB := n11_; clear n0_ n1_ n2_ n3_ n4_ n5_ n6_ n7_ n8_ n9_ n10_ n11_; (try clear hb); (try clear hb2); (try clear hk); (try clear hi); (try clear hge); (try clear ho0)) | ((with_reducible refine gate_dst (N := 21) rfl ?_); (try (refine gate_guard (by rfl) ?_; dsimp only)); refine box_event ?hg (N := 21) ?hd (cs := #[.int .i64 0, .int .i64 0, .slice none 0 0]) (t := 68) ?hr ?_; (case hd => rfl); (case hg => rfl); (case hr => first | (go_simp; done) | (go_simp; rfl)); intro gb661 hg w84 hbox hb; have n0_ := Aside0.mk (Kd.V_below (Kd.V_elderB (by (with_reducible repeat (first | apply Kd.V_alloc | apply Kd.V_drewN | apply Kd.V_drew)); exact HO_0.out) gb661 (Nat.le_of_eq hg.symm)) hb); have n1_ := Aside0.mk (Kd.V_below (Kd.V_elderB (by (with_reducible repeat (first | apply Kd.V_alloc | apply Kd.V_drewN | apply Kd.V_drew)); exact HO_14.out) gb661 (Nat.le_of_eq hg.symm)) hb); have n2_ := Aside0.mk (Kd.V_below (Kd.V_elderB (by (with_reducible repeat (first | apply Kd.V_alloc | apply Kd.V_drewN | apply Kd.V_drew)); exact HO_15.out) gb661 (Nat.le_of_eq hg.symm)) hb); have n3_ := Aside0.mk (Kd.V_below (Kd.V_elderB (by (with_reducible repeat (first | apply Kd.V_alloc | apply Kd.V_drewN | apply Kd.V_drew)); exact HO628.out) gb661 (Nat.le_of_eq hg.symm)) hb); have n4_ := Aside0.mk (Kd.V_below (Kd.V_elderB (by (with_reducible repeat (first | apply Kd.V_alloc | apply Kd.V_drewN | apply Kd.V_drew)); exact HO636.out) gb661 (Nat.le_of_eq hg.symm)) hb); have n5_ := Aside0.mk (Kd.R_below (by (with_reducible repeat (first | apply Kd.R_alloc | apply Kd.R_drewN | apply Kd.R_drew)); exact HO642.out) hb); have n6_ := Aside0.mk (Kd.V_below (Kd.V_elderB (by (with_reducible repeat (first | apply Kd.V_alloc | apply Kd.V_drewN | apply Kd.V_drew)); exact HO645.out) gb661 (Nat.le_of_eq hg.symm)) hb); have n7_ := Aside0.mk (Kd.R_below (by (with_reducible repeat (first | apply Kd.R_alloc | apply Kd.R_drewN | apply Kd.R_drew)); exact HO650.out) hb); have n8_ := Aside0.mk (Kd.V_below (Kd.V_elderB (by (with_reducible repeat (first | apply Kd.V_alloc | apply Kd.V_drewN | apply Kd.V_drew)); exact HO658.out) gb661 (Nat.le_of_eq hg.symm)) hb); have n9_ := Aside0.mk (blk_below (g := gb595) (o := .cells #[.int .i64 a1_0, .int .i64 a1_1, .slice A1_2 l1_2.length c1_2] 68 (0, 0)) (by (with_reducible repeat (first | refine blk_drewN ?_ _ | refine blk_drew ?_ | refine blk_alloc ?_ _)); exact BK595.out) hb); have n10_ := Aside0.mk (blk_below (g := gb653) (o := .cells #[.int .i64 t646, .int .i64 t647, .slice Ao81 t648.length co81] 68 (0, 0)) (by (with_reducible repeat (first | refine blk_drewN ?_ _ | refine blk_drew ?_ | refine blk_alloc ?_ _)); exact BK653.out) hb); have n11_ := Aside0.mk (below_step (by repeat (first | (with_reducible first | exact HB.out | apply below_alloc | apply pw_below_drewN | apply below_drew1 | refine below_set ?_ GE595.out | refine below_set ?_ GE653.out) | exact HB.out)) hb); have n12_ := Aside0.mk (hbox); have n13_ := Aside0.mk ((by rw [hg]; exact (below_size (by repeat (first | (with_reducible first | exact HB.out | apply below_alloc | apply pw_below_drewN | apply below_drew1 | refine below_set ?_ GE595.out | refine below_set ?_ GE653.out) | exact HB.out))) : w.heap.size ≤ gb661)); have n14_ := Aside0.mk ((by rw [hg]; exact (below_size (by repeat (first | (with_reducible first | exact HB.out | apply below_alloc | apply pw_below_drewN | apply below_drew1 | refine below_set ?_ GE595.out | refine below_set ?_ GE653.out) | exact HB.out))) : w.heap.size ≤ gb661)); have n15_ := Aside0.mk ((by rw [hg]; exact Nat.ne_of_lt (blk_lt (g := gb595) (o := .cells #[.int .i64 a1_0, .int .i64 a1_1, .slice A1_2 l1_2.length c1_2] 68 (0, 0)) (by (with_reducible repeat (first | refine blk_drewN ?_ _ | refine blk_drew ?_ | refine blk_alloc ?_ _)); exact BK595.out)) : gb595 ≠ gb661)); have n16_ := Aside0.mk ((by rw [hg]; exact Nat.ne_of_gt (blk_lt (g := gb595) (o := .cells #[.int .i64 a1_0, .int .i64 a1_1, .slice A1_2 l1_2.length c1_2] 68 (0, 0)) (by (with_reducible repeat (first | refine blk_drewN ?_ _ | refine blk_drew ?_ | refine blk_alloc ?_ _)); exact BK595.out)) : gb661 ≠ gb595)); have n17_ := Aside0.mk ((by rw [hg]; exact Nat.ne_of_lt (blk_lt (g := gb653) (o := .cells #[.int .i64 t646, .int .i64 t647, .slice Ao81 t648.length co81] 68 (0, 0)) (by (with_reducible repeat (first | refine blk_drewN ?_ _ | refine blk_drew ?_ | refine blk_alloc ?_ _)); exact BK653.out)) : gb653 ≠ gb661)); have n18_ := Aside0.mk ((by rw [hg]; exact Nat.ne_of_gt (blk_lt (g := gb653) (o := .cells #[.int .i64 t646, .int .i64 t647, .slice Ao81 t648.length co81] 68 (0, 0)) (by (with_reducible repeat (first | refine blk_drewN ?_ _ | refine blk_drew ?_ | refine blk_alloc ?_ _)); exact BK653.out)) : gb661 ≠ gb653)); clear HO_0; clear HO_14; clear HO_15; clear HO628; clear HO636; clear HO642; clear HO645; clear HO650; clear HO658; clear BK595; clear BK653; clear HB; have HO_0 := n0_; have HO_14 := n1_; have HO_15 := n2_; have HO628 := n3_; have HO636 := n4_; have HO642 := n5_; have HO645 := n6_; have HO650 := n7_; have HO658 := n8_; have BK595 := n9_; have BK653 := n10_; have HB := n11_; have BK661 := n12_; have GW661 := n13_; have GE661 := n14_; have NB595_661 := n15_; have NB661_595 := n16_; have NB653_661 := n17_; have NB661_653 := n18_; clear n0_ n1_ n2_ n3_ n4_ n5_ n6_ n7_ n8_ n9_ n10_ n11_ n12_ n13_ n14_ n15_ n16_ n17_ n18_; clear hb hbox hg; have hnb85 := NB661_595.out; have hnc85 := NB595_661.out; have hnb86 := NB661_653.out; have hnc86 := NB653_661.out; have hcz87_0 : w84.cell? ⟨gb661, 0, none⟩ = some (.int .i64 0) := (blk_cell BK661.out 0).trans rfl; have hcz87_1 : w84.cell? ⟨gb661, 1, none⟩ = some (.int .i64 0) := (blk_cell BK661.out 1).trans rfl; have hcz87_2 : w84.cell? ⟨gb661, 2, none⟩ = some (.slice none 0 0) := (blk_cell BK661.out 2).trans rfl; have hfz87_0 := blk_frozen BK661.out 0; have hfz87_1 := blk_frozen BK661.out 1; have hfz87_2 := blk_frozen BK661.out 2; obtain ⟨Ao88, co88, eo88⟩ := Kd.V_slice HO658.out; subst eo88; have hcz89_0 : w84.cell? ⟨gb653, 0, none⟩ = some (.int .i64 t646) := (blk_cell BK653.out 0).trans rfl; have hcz89_1 : w84.cell? ⟨gb653, 1, none⟩ = some (.int .i64 t647) := (blk_cell BK653.out 1).trans rfl; have hcz89_2 : w84.cell? ⟨gb653, 2, none⟩ = some (.slice Ao81 t648.length co81) := (blk_cell BK653.out 2).trans rfl; have hfz89_0 := blk_frozen BK653.out 0; have hfz89_1 := blk_frozen BK653.out 1; have hfz89_2 := blk_frozen BK653.out 2) | (go_at_call 41; (with_reducible refine (waybilllaw3_Same.calls t646 t647 _ _ t648 t654 t655 _ _ t656 true _ ?side1 ?side2 ?side3 ?side4 A65.out).mono ?_); (case side1 => refine (Kd.R_reads' (e := 5) (base := w.heap.size) (ok := fun k_ => ((w.heap.size ≤ k_) ∧ some k_ ≠ (.slice Ao74 y640.length co74 : Value).ownBlock)) (n := t648.length) (c := co81) ?_).2.2; exact (by (with_reducible repeat (first | apply Kd.R_alloc | apply Kd.R_drewN | apply Kd.R_drew)); exact (Kd.R_mono (Kd.R_far (p := ⟨gb661, 2, none⟩) (Kd.R_far (p := ⟨gb661, 1, none⟩) (Kd.R_far (p := ⟨gb661, 0, none⟩) (Kd.R_types HO650.out BK661.out (by decide)) (fun _ hk => hk.2) (.int .i64 t654)) (fun _ hk => hk.2) (.int .i64 t655)) (fun _ hk => hk.2) (.slice Ao88 t656.length co88)) (fun _ h_ => h_.1)))); (case side2 => exact (Kd.R_reads' HO650.out).2.1); (case side3 => refine (Kd.V_reads' (e := 5) (base := w.heap.size) (ok := fun k_ => (((P0_ k_ ∨ w.heap.size ≤ k_) ∧ (some k_ ≠ (.slice Ao81 t648.length co81 : Value).ownBlock ∧ (k_ ≠ gb595 ∧ k_ ≠ gb653))) ∧ k_ ≠ gb661)) (n := t656.length) (c := co88) ?_).2.2; exact (by (with_reducible repeat (first | apply Kd.V_alloc | apply Kd.V_drewN | apply Kd.V_drew)); exact (Kd.V_mono (Kd.V_far (p := ⟨gb661, 2, none⟩) (Kd.V_far (p := ⟨gb661, 1, none⟩) (Kd.V_far (p := ⟨gb661, 0, none⟩) (Kd.V_mono HO658.out (fun k_ hk => (⟨hk, hk.2⟩ : _ ∧ k_ ≠ gb661))) (fun _ hk => hk.2) (.int .i64 t654)) (fun _ hk => hk.2) (.int .i64 t655)) (fun _ hk => hk.2) (.slice Ao88 t656.length co88)) (fun _ h_ => h_.1)))); (case side4 => exact (Kd.V_reads' HO658.out).2.1); rintro e w90 ⟨rfl, hb⟩; have n0_ := Aside0.mk (Kd.V_below (by (with_reducible repeat (first | apply Kd.V_alloc | apply Kd.V_drewN | apply Kd.V_drew)); exact (Kd.V_mono (Kd.V_far (p := ⟨gb661, 2, none⟩) (Kd.V_far (p := ⟨gb661, 1, none⟩) (Kd.V_far (p := ⟨gb661, 0, none⟩) (Kd.V_mono HO_0.out (fun k_ hk => (⟨hk, hk.2⟩ : _ ∧ k_ ≠ gb661))) (fun _ hk => hk.2) (.int .i64 t654)) (fun _ hk => hk.2) (.int .i64 t655)) (fun _ hk => hk.2) (.slice Ao88 t656.length co88)) (fun _ h_ => h_.1))) hb); have n1_ := Aside0.mk (Kd.V_below (by (with_reducible repeat (first | apply Kd.V_alloc | apply Kd.V_drewN | apply Kd.V_drew)); exact (Kd.V_mono (Kd.V_far (p := ⟨gb661, 2, none⟩) (Kd.V_far (p := ⟨gb661, 1, none⟩) (Kd.V_far (p := ⟨gb661, 0, none⟩) (Kd.V_mono HO_14.out (fun k_ hk => (⟨hk, hk.2⟩ : _ ∧ k_ ≠ gb661))) (fun _ hk => hk.2) (.int .i64 t654)) (fun _ hk => hk.2) (.int .i64 t655)) (fun _ hk => hk.2) (.slice Ao88 t656.length co88)) (fun _ h_ => h_.1))) hb); have n2_ := Aside0.mk (Kd.V_below (by (with_reducible repeat (first | apply Kd.V_alloc | apply Kd.V_drewN | apply Kd.V_drew)); exact (Kd.V_mono (Kd.V_far (p := ⟨gb661, 2, none⟩) (Kd.V_far (p := ⟨gb661, 1, none⟩) (Kd.V_far (p := ⟨gb661, 0, none⟩) (Kd.V_mono HO_15.out (fun k_ hk => (⟨hk, hk.2⟩ : _ ∧ k_ ≠ gb661))) (fun _ hk => hk.2) (.int .i64 t654)) (fun _ hk => hk.2) (.int .i64 t655)) (fun _ hk => hk.2) (.slice Ao88 t656.length co88)) (fun _ h_ => h_.1))) hb); have n3_ := Aside0.mk (Kd.V_below (by (with_reducible repeat (first | apply Kd.V_alloc | apply Kd.V_drewN | apply Kd.V_drew)); exact (Kd.V_mono (Kd.V_far (p := ⟨gb661, 2, none⟩) (Kd.V_far (p := ⟨gb661, 1, none⟩) (Kd.V_far (p := ⟨gb661, 0, none⟩) (Kd.V_mono HO628.out (fun k_ hk => (⟨hk, hk.2⟩ : _ ∧ k_ ≠ gb661))) (fun _ hk => hk.2) (.int .i64 t654)) (fun _ hk => hk.2) (.int .i64 t655)) (fun _ hk => hk.2) (.slice Ao88 t656.length co88)) (fun _ h_ => h_.1))) hb); have n4_ := Aside0.mk (Kd.V_below (by (with_reducible repeat (first | apply Kd.V_alloc | apply Kd.V_drewN | apply Kd.V_drew)); exact (Kd.V_mono (Kd.V_far (p := ⟨gb661, 2, none⟩) (Kd.V_far (p := ⟨gb661, 1, none⟩) (Kd.V_far (p := ⟨gb661, 0, none⟩) (Kd.V_mono HO636.out (fun k_ hk => (⟨hk, hk.2⟩ : _ ∧ k_ ≠ gb661))) (fun _ hk => hk.2) (.int .i64 t654)) (fun _ hk => hk.2) (.int .i64 t655)) (fun _ hk => hk.2) (.slice Ao88 t656.length co88)) (fun _ h_ => h_.1))) hb); have n5_ := Aside0.mk (Kd.R_below (by (with_reducible repeat (first | apply Kd.R_alloc | apply Kd.R_drewN | apply Kd.R_drew)); exact (Kd.R_mono (Kd.R_far (p := ⟨gb661, 2, none⟩) (Kd.R_far (p := ⟨gb661, 1, none⟩) (Kd.R_far (p := ⟨gb661, 0, none⟩) (Kd.R_types HO642.out BK661.out (by decide)) (fun _ hk => hk.2) (.int .i64 t654)) (fun _ hk => hk.2) (.int .i64 t655)) (fun _ hk => hk.2) (.slice Ao88 t656.length co88)) (fun _ h_ => h_.1))) hb); have n6_ := Aside0.mk (Kd.V_below (by (with_reducible repeat (first | apply Kd.V_alloc | apply Kd.V_drewN | apply Kd.V_drew)); exact (Kd.V_mono (Kd.V_far (p := ⟨gb661, 2, none⟩) (Kd.V_far (p := ⟨gb661, 1, none⟩) (Kd.V_far (p := ⟨gb661, 0, none⟩) (Kd.V_mono HO645.out (fun k_ hk => (⟨hk, hk.2⟩ : _ ∧ k_ ≠ gb661))) (fun _ hk => hk.2) (.int .i64 t654)) (fun _ hk => hk.2) (.int .i64 t655)) (fun _ hk => hk.2) (.slice Ao88 t656.length co88)) (fun _ h_ => h_.1))) hb); have n7_ := Aside0.mk (Kd.R_below (by (with_reducible repeat (first | apply Kd.R_alloc | apply Kd.R_drewN | apply Kd.R_drew)); exact (Kd.R_mono (Kd.R_far (p := ⟨gb661, 2, none⟩) (Kd.R_far (p := ⟨gb661, 1, none⟩) (Kd.R_far (p := ⟨gb661, 0, none⟩) (Kd.R_types HO650.out BK661.out (by decide)) (fun _ hk => hk.2) (.int .i64 t654)) (fun _ hk => hk.2) (.int .i64 t655)) (fun _ hk => hk.2) (.slice Ao88 t656.length co88)) (fun _ h_ => h_.1))) hb); have n8_ := Aside0.mk (Kd.V_below (by (with_reducible repeat (first | apply Kd.V_alloc | apply Kd.V_drewN | apply Kd.V_drew)); exact (Kd.V_mono (Kd.V_far (p := ⟨gb661, 2, none⟩) (Kd.V_far (p := ⟨gb661, 1, none⟩) (Kd.V_far (p := ⟨gb661, 0, none⟩) (Kd.V_mono HO658.out (fun k_ hk => (⟨hk, hk.2⟩ : _ ∧ k_ ≠ gb661))) (fun _ hk => hk.2) (.int .i64 t654)) (fun _ hk => hk.2) (.int .i64 t655)) (fun _ hk => hk.2) (.slice Ao88 t656.length co88)) (fun _ h_ => h_.1))) hb); have n9_ := Aside0.mk (blk_below (g := gb595) (o := .cells #[.int .i64 a1_0, .int .i64 a1_1, .slice A1_2 l1_2.length c1_2] 68 (0, 0)) (by (with_reducible repeat (first | refine blk_drewN ?_ _ | refine blk_drew ?_ | refine blk_alloc ?_ _)); refine blk_far ?_ NB595_661.out _; (with_reducible repeat (first | refine blk_drewN ?_ _ | refine blk_drew ?_ | refine blk_alloc ?_ _)); refine blk_far ?_ NB595_661.out _; (with_reducible repeat (first | refine blk_drewN ?_ _ | refine blk_drew ?_ | refine blk_alloc ?_ _)); refine blk_far ?_ NB595_661.out _; (with_reducible repeat (first | refine blk_drewN ?_ _ | refine blk_drew ?_ | refine blk_alloc ?_ _)); exact BK595.out) hb); have n10_ := Aside0.mk (blk_below (g := gb653) (o := .cells #[.int .i64 t646, .int .i64 t647, .slice Ao81 t648.length co81] 68 (0, 0)) (by (with_reducible repeat (first | refine blk_drewN ?_ _ | refine blk_drew ?_ | refine blk_alloc ?_ _)); refine blk_far ?_ NB653_661.out _; (with_reducible repeat (first | refine blk_drewN ?_ _ | refine blk_drew ?_ | refine blk_alloc ?_ _)); refine blk_far ?_ NB653_661.out _; (with_reducible repeat (first | refine blk_drewN ?_ _ | refine blk_drew ?_ | refine blk_alloc ?_ _)); refine blk_far ?_ NB653_661.out _; (with_reducible repeat (first | refine blk_drewN ?_ _ | refine blk_drew ?_ | refine blk_alloc ?_ _)); exact BK653.out) hb); have n11_ := Aside0.mk (blk_below (g := gb661) (o := .cells #[.int .i64 t654, .int .i64 t655, .slice Ao88 t656.length co88] 68 (0, 0)) (by (with_reducible repeat (first | refine blk_drewN ?_ _ | refine blk_drew ?_ | refine blk_alloc ?_ _)); refine blk_put (cs := #[.int .i64 t654, .int .i64 t655, .slice none 0 0]) ?_ 2 _ rfl; (with_reducible repeat (first | refine blk_drewN ?_ _ | refine blk_drew ?_ | refine blk_alloc ?_ _)); refine blk_put (cs := #[.int .i64 t654, .int .i64 0, .slice none 0 0]) ?_ 1 _ rfl; (with_reducible repeat (first | refine blk_drewN ?_ _ | refine blk_drew ?_ | refine blk_alloc ?_ _)); refine blk_put (cs := #[.int .i64 0, .int .i64 0, .slice none 0 0]) ?_ 0 _ rfl; (with_reducible repeat (first | refine blk_drewN ?_ _ | refine blk_drew ?_ | refine blk_alloc ?_ _)); exact BK661.out) hb); have n12_ := Aside0.mk (below_step (by repeat (first | (with_reducible first | exact HB.out | apply below_alloc | apply pw_below_drewN | apply below_drew1 | refine below_set ?_ GE595.out | refine below_set ?_ GE653.out | refine below_set ?_ GE661.out) | exact HB.out)) hb); clear HO_0; clear HO_14; clear HO_15; clear HO628; clear HO636; clear HO642; clear HO645; clear HO650; clear HO658; clear BK595; clear BK653; clear BK661; clear HB; have HO_0 := n0_; have HO_14 := n1_; have HO_15 := n2_; have HO628 := n3_; have HO636 := n4_; have HO642 := n5_; have HO645 := n6_; have HO650 := n7_; have HO658 := n8_; have BK595 := n9_; have BK653 := n10_; have BK661 := n11_; have HB := n12_; clear n0_ n1_ n2_ n3_ n4_ n5_ n6_ n7_ n8_ n9_ n10_ n11_ n12_; (try clear hb); (try clear hb2); (try clear hk); (try clear hi); (try clear hge)))
                                                    go_roundg k5
                                                    case measure => have := HJ5.out; have := HJ14.out; have := HJ29.out; have := HJ36.out; have := HK5.out; omega
                                                    case rel => exact ⟨(wrap64 (x16_5 + 1)), (by first | rfl | (simp; done) | (simp [*]; done)), H', ⟨by have := HJ5.out; have := HJ14.out; have := HJ29.out; have := HJ36.out; have := HK5.out; omega⟩, ⟨by (try simp only [hl15_36]); (with_reducible repeat (first | apply Kd.V_alloc | apply Kd.V_drewN | apply Kd.V_drew)); exact Kd.V_mono HO_0.out (fun _ hk => ⟨hk.1.1, hk.1.2.2.2.1⟩)⟩, ⟨by (try simp only [hl15_36]); (with_reducible repeat (first | apply Kd.V_alloc | apply Kd.V_drewN | apply Kd.V_drew)); exact Kd.V_mono HO_14.out (fun _ hk => ⟨hk.1.1, hk.1.2.2.2.1⟩)⟩, ⟨by (try simp only [hl15_36]); (with_reducible repeat (first | apply Kd.V_alloc | apply Kd.V_drewN | apply Kd.V_drew)); exact Kd.V_mono HO_15.out (fun _ hk => ⟨hk.1.1, hk.1.2.2.2.1⟩)⟩, ⟨by (try simp only [hl15_36]); (with_reducible repeat (first | refine blk_drewN ?_ _ | refine blk_drew ?_ | refine blk_alloc ?_ _)); exact BK595.out⟩, ⟨by repeat (first | (with_reducible first | exact HB.out | apply below_alloc | apply pw_below_drewN | apply below_drew1 | refine below_set ?_ GE595.out | refine below_set ?_ GE653.out | refine below_set ?_ GE661.out) | exact HB.out)⟩⟩
                                                  · replace c66 := Bool.eq_false_iff.mpr c66
                                                    subst c66
                                                    have H1 : (none) = some r := by rw [if_neg (show ¬ (false = true) by decide)] at H; exact H
                                                    clear H
                                                    have H := H1
                                                    clear H1
                                                    exact absurd H (by simp)
                                                · rw [if_neg c64] at H
                                                  exact absurd H (by simp)
                                              · rw [if_neg c63] at H
                                                exact absurd H (by simp)
                                            · rw [if_neg c60] at H
                                              exact absurd H (by simp)
                                          · rw [if_neg c59] at H
                                            exact absurd H (by simp)
                                        · rw [if_neg c58] at H
                                          exact absurd H (by simp)
                                      · rw [if_neg c57] at H
                                        exact absurd H (by simp)
                                    · rw [if_neg c56] at H
                                      exact absurd H (by simp)
                                  · rw [if_neg c55] at H
                                    exact absurd H (by simp)
                              · rw [if_neg c52] at H
                                have c52b0 : decide (x16_5 < 4) = false := decide_eq_false c52
                                clear c52
                                replace H := Option.bind_eq_some_iff.mp H
                                obtain ⟨t623, A910, H⟩ := H
                                replace H : (some t623) = some r := H
                                have A91 := Aside0.mk A910
                                clear A910
                                obtain rfl := Option.some.inj H
                                go_wp2_with (first | ((with_reducible refine gate_callee (f := 38) rfl ?_); refine goesL_ (some 125) rfl rfl Try.func38 (by kernel_rfl) rfl #[] rfl (by (try simp only [List.map_toArray, List.map_cons, List.map_nil]); first | done | rfl | (simp only [List.length_drop, List.length_take]; rfl)) ?_; (with_reducible refine (waybilllaw3_awake.calls k5  t623 _ A91.out).mono ?_); rintro e w92 ⟨rfl, hb⟩; refine ⟨_, rfl, ?_⟩; have n0_ := Aside0.mk (Kd.V_below (by (with_reducible repeat (first | apply Kd.V_alloc | apply Kd.V_drewN | apply Kd.V_drew)); exact HO_0.out) hb); have n1_ := Aside0.mk (Kd.V_below (by (with_reducible repeat (first | apply Kd.V_alloc | apply Kd.V_drewN | apply Kd.V_drew)); exact HO_14.out) hb); have n2_ := Aside0.mk (Kd.V_below (by (with_reducible repeat (first | apply Kd.V_alloc | apply Kd.V_drewN | apply Kd.V_drew)); exact HO_15.out) hb); have n3_ := Aside0.mk (blk_below (g := gb595) (o := .cells #[.int .i64 a1_0, .int .i64 a1_1, .slice A1_2 l1_2.length c1_2] 68 (0, 0)) (by (with_reducible repeat (first | refine blk_drewN ?_ _ | refine blk_drew ?_ | refine blk_alloc ?_ _)); exact BK595.out) hb); have n4_ := Aside0.mk (below_step (by repeat (first | (with_reducible first | exact HB.out | apply below_alloc | apply pw_below_drewN | apply below_drew1 | refine below_set ?_ GE595.out) | exact HB.out)) hb); clear HO_0; clear HO_14; clear HO_15; clear BK595; clear HB; have HO_0 := n0_; have HO_14 := n1_; have HO_15 := n2_; have BK595 := n3_; have HB := n4_; clear n0_ n1_ n2_ n3_ n4_; (try clear hb); (try clear hb2); (try clear hk); (try clear hi); (try clear hge)))
                                all_goals first | (go_ret; exact ⟨by first | rfl | (simp [errW_none, errW_some]; done) | (simp [errW_none, errW_some]; rfl) | (simp [*, errW_none, errW_some]; done) | (simp [*, errW_none, errW_some]; rfl), by repeat (first | (with_reducible first | exact HB.out | apply below_alloc | apply pw_below_drewN | apply below_drew1 | refine below_set ?_ GE595.out) | exact HB.out)⟩) | (exfalso; simp_all; done)
                    · rw [if_neg c36] at H
                      exact absurd H (by simp)
                  · rw [if_neg c35] at H
                    exact absurd H (by simp)

end Go.Proofs.Ytlhcjgmdcnmnnaa.PA
