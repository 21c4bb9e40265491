/- What functions of the given program come to, and that they do: written out of the translation by a program of this session; Lean checks it. -/
import Derived.Test.YtfhaffpegncdiaaPNx0
import Derived.Test.YtfhaffpegncdiaaPNx3
import Derived.Test.YtfhaffpegncdiaaPNx6
import Derived.Test.YtfhaffpegncdiaaPNx7
namespace Go.Proofs.Ytfhaffpegncdiaa.PN
open Go.RowKit Go.Proofs.YtfhaffpegncdiaaW.PrintWords Go.Proofs.YtfhaffpegncdiaaW.PrintLast Go.Proofs.YtfhaffpegncdiaaW.PrintMore
attribute [local go_sem] max2_int min2_int max_two min_two max_three min_three max_four min_four   -- for this text's walks alone
set_option linter.unusedVariables false
set_option linter.unusedSimpArgs false

/-! ### node_Parse: function 27 -/
mutual
def node_Parse.l0 : Nat → Int → Int → List Int → Bool → Bool → List (S41) → Option (Bool × (List (S41)) × Bool)
  | 0, _, _, _, _, _, _ => none
  | k + 1, x5, x7, x176000, x176001, x180000, x180001 => if x7 > 0 then ((octs_In_Ok.f x176000 x176001).bind fun bt183 => (node_Parse.j1 k x5 x7 bt183.1 bt183.2.1 bt183.2.2 x180000 x180001)) else (node_Parse.j1 k x5 x7 false x176000 x176001 x180000 x180001)
def node_Parse.j1 : Nat → Int → Int → Bool → List Int → Bool → Bool → List (S41) → Option (Bool × (List (S41)) × Bool)
  | 0, _, _, _, _, _, _, _ => none
  | k + 1, x5, x7, x26, x176000, x176001, x180000, x180001 => if x26 = true then ((octs_In_Short.f k x176000 x176001).bind fun bt186 => (if x180000 = true then ((octs_In_Short.f k bt186.2.1 bt186.2.2).bind fun bt190 => (if x180001.length < 3518437208883 then (node_Parse.l0 k x5 (IntKind.u64.wrap (x7 - 1)) bt190.2.1 bt190.2.2 x180000 (x180001 ++ [(⟨bt186.1, bt190.1, 0⟩ : S41)])) else (none))) else ((octs_In_Int.f k bt186.2.1 bt186.2.2 4).bind fun bt196 => (if x180001.length < 3518437208883 then (node_Parse.l0 k x5 (IntKind.u64.wrap (x7 - 1)) bt196.2.1 bt196.2.2 x180000 (x180001 ++ [(⟨bt186.1, (⟨#[]⟩ : ByteArray), wrap64 (bt196.1)⟩ : S41)])) else (none))))) else ((octs_In_Ok.f x176000 x176001).bind fun bt202 => (if bt202.1 = true then (if x5 = 1 then (node_Parse.j2 k true bt202.2.1 bt202.2.2 x180000 x180001) else (node_Parse.j2 k (x5 == 2) bt202.2.1 bt202.2.2 x180000 x180001)) else (node_Parse.j2 k false bt202.2.1 bt202.2.2 x180000 x180001)))
def node_Parse.j2 : Nat → Bool → List Int → Bool → Bool → List (S41) → Option (Bool × (List (S41)) × Bool)
  | 0, _, _, _, _, _ => none
  | k + 1, x9, x176000, x176001, x180000, x180001 => (octs_In_Rest.f x176000 x176001).bind fun bt205 => (node_Parse.l1 k x9 bt205.1 (bt205.1.length : Int) 0 x180000 x180001)
def node_Parse.l1 : Nat → Bool → List Int → Int → Int → Bool → List (S41) → Option (Bool × (List (S41)) × Bool)
  | 0, _, _, _, _, _, _ => none
  | k + 1, x9, x58, x59, x60, x180000, x180001 => if x60 < x59 then (if 0 ≤ x60 then (if x60 < (x58.length : Int) then (if x9 = true then (node_Parse.l1 k ((rd x58 x60) == 0) x58 x59 (wrap64 (x60 + 1)) x180000 x180001) else (node_Parse.l1 k false x58 x59 (wrap64 (x60 + 1)) x180000 x180001)) else (none)) else (none)) else (if x9 = true then ((node_Ok.f k x180000 x180001).bind fun t211 => (if t211 = true then (some (x180000, x180001, true)) else (some (false, ([] : List (S41)), false)))) else (some (false, ([] : List (S41)), false)))
end
def node_Parse.f (k : Nat) (l0 : List Int) : Option (Bool × (List (S41)) × Bool) := (octs_From.f l0).bind fun bt173 => ((octs_In_Int.f k bt173.1 bt173.2 1).bind fun bt176 => ((octs_In_Int.f k bt176.2.1 bt176.2.2 2).bind fun bt180 => (node_Parse.l0 k bt176.1 bt180.1 bt180.2.1 bt180.2.2 (bt176.1 == 1) ([] : List (S41)))))
theorem node_Parse.mono_l : ∀ k, (∀ y0 y1 y2 y3 y4 y5, LeO (node_Parse.l0 k y0 y1 y2 y3 y4 y5) (node_Parse.l0 (k + 1) y0 y1 y2 y3 y4 y5)) ∧ (∀ y0 y1 y2 y3 y4 y5 y6, LeO (node_Parse.j1 k y0 y1 y2 y3 y4 y5 y6) (node_Parse.j1 (k + 1) y0 y1 y2 y3 y4 y5 y6)) ∧ (∀ y0 y1 y2 y3 y4, LeO (node_Parse.j2 k y0 y1 y2 y3 y4) (node_Parse.j2 (k + 1) y0 y1 y2 y3 y4)) ∧ (∀ y0 y1 y2 y3 y4 y5, LeO (node_Parse.l1 k y0 y1 y2 y3 y4 y5) (node_Parse.l1 (k + 1) y0 y1 y2 y3 y4 y5))
  | 0 => ⟨fun _ _ _ _ _ _ r h => by simp [node_Parse.l0] at h, fun _ _ _ _ _ _ _ r h => by simp [node_Parse.j1] at h, fun _ _ _ _ _ r h => by simp [node_Parse.j2] at h, fun _ _ _ _ _ _ r h => by simp [node_Parse.l1] at h⟩
  | k + 1 => by
    obtain ⟨ih0, ih1, ih2, ih3⟩ := node_Parse.mono_l k
    refine ⟨?_, ?_, ?_, ?_⟩
    · intro y0 y1 y2 y3 y4 y5
      unfold node_Parse.l0
      repeat' first
      | (with_reducible exact ih0 _ _ _ _ _ _)
      | (with_reducible exact ih1 _ _ _ _ _ _ _)
      | (with_reducible exact ih2 _ _ _ _ _)
      | (with_reducible exact ih3 _ _ _ _ _ _)
      | (with_reducible exact node_Ok.mono _ _ _)
      | (with_reducible exact octs_In_Int.mono _ _ _ _)
      | (with_reducible exact octs_In_Short.mono _ _ _)
      | (with_reducible exact LeO.refl _)
      | (with_reducible exact LeO.none _)
      | (with_reducible refine LeO.ite ?_ ?_)
      | (with_reducible refine LeO.bind ?_ (fun _ => ?_))
      | exact ih0 _ _ _ _ _ _
      | exact ih1 _ _ _ _ _ _ _
      | exact ih2 _ _ _ _ _
      | exact ih3 _ _ _ _ _ _
      | exact node_Ok.mono _ _ _
      | exact octs_In_Int.mono _ _ _ _
      | exact octs_In_Short.mono _ _ _
      | exact LeO.none _
      | refine LeO.ite ?_ ?_
      | refine LeO.bind ?_ (fun _ => ?_)
    · intro y0 y1 y2 y3 y4 y5 y6
      unfold node_Parse.j1
      repeat' first
      | (with_reducible exact ih0 _ _ _ _ _ _)
      | (with_reducible exact ih1 _ _ _ _ _ _ _)
      | (with_reducible exact ih2 _ _ _ _ _)
      | (with_reducible exact ih3 _ _ _ _ _ _)
      | (with_reducible exact node_Ok.mono _ _ _)
      | (with_reducible exact octs_In_Int.mono _ _ _ _)
      | (with_reducible exact octs_In_Short.mono _ _ _)
      | (with_reducible exact LeO.refl _)
      | (with_reducible exact LeO.none _)
      | (with_reducible refine LeO.ite ?_ ?_)
      | (with_reducible refine LeO.bind ?_ (fun _ => ?_))
      | exact ih0 _ _ _ _ _ _
      | exact ih1 _ _ _ _ _ _ _
      | exact ih2 _ _ _ _ _
      | exact ih3 _ _ _ _ _ _
      | exact node_Ok.mono _ _ _
      | exact octs_In_Int.mono _ _ _ _
      | exact octs_In_Short.mono _ _ _
      | exact LeO.none _
      | refine LeO.ite ?_ ?_
      | refine LeO.bind ?_ (fun _ => ?_)
    · intro y0 y1 y2 y3 y4
      unfold node_Parse.j2
      repeat' first
      | (with_reducible exact ih0 _ _ _ _ _ _)
      | (with_reducible exact ih1 _ _ _ _ _ _ _)
      | (with_reducible exact ih2 _ _ _ _ _)
      | (with_reducible exact ih3 _ _ _ _ _ _)
      | (with_reducible exact node_Ok.mono _ _ _)
      | (with_reducible exact octs_In_Int.mono _ _ _ _)
      | (with_reducible exact octs_In_Short.mono _ _ _)
      | (with_reducible exact LeO.refl _)
      | (with_reducible exact LeO.none _)
      | (with_reducible refine LeO.ite ?_ ?_)
      | (with_reducible refine LeO.bind ?_ (fun _ => ?_))
      | exact ih0 _ _ _ _ _ _
      | exact ih1 _ _ _ _ _ _ _
      | exact ih2 _ _ _ _ _
      | exact ih3 _ _ _ _ _ _
      | exact node_Ok.mono _ _ _
      | exact octs_In_Int.mono _ _ _ _
      | exact octs_In_Short.mono _ _ _
      | exact LeO.none _
      | refine LeO.ite ?_ ?_
      | refine LeO.bind ?_ (fun _ => ?_)
    · intro y0 y1 y2 y3 y4 y5
      unfold node_Parse.l1
      repeat' first
      | (with_reducible exact ih0 _ _ _ _ _ _)
      | (with_reducible exact ih1 _ _ _ _ _ _ _)
      | (with_reducible exact ih2 _ _ _ _ _)
      | (with_reducible exact ih3 _ _ _ _ _ _)
      | (with_reducible exact node_Ok.mono _ _ _)
      | (with_reducible exact octs_In_Int.mono _ _ _ _)
      | (with_reducible exact octs_In_Short.mono _ _ _)
      | (with_reducible exact LeO.refl _)
      | (with_reducible exact LeO.none _)
      | (with_reducible refine LeO.ite ?_ ?_)
      | (with_reducible refine LeO.bind ?_ (fun _ => ?_))
      | exact ih0 _ _ _ _ _ _
      | exact ih1 _ _ _ _ _ _ _
      | exact ih2 _ _ _ _ _
      | exact ih3 _ _ _ _ _ _
      | exact node_Ok.mono _ _ _
      | exact octs_In_Int.mono _ _ _ _
      | exact octs_In_Short.mono _ _ _
      | exact LeO.none _
      | refine LeO.ite ?_ ?_
      | refine LeO.bind ?_ (fun _ => ?_)
theorem node_Parse.mono : ∀ a0 k, LeO (node_Parse.f k a0) (node_Parse.f (k + 1) a0) := by
  intro a0 k
  obtain ⟨ih0, ih1, ih2, ih3⟩ := node_Parse.mono_l k
  unfold node_Parse.f
  repeat' first
      | (with_reducible exact ih0 _ _ _ _ _ _)
      | (with_reducible exact ih1 _ _ _ _ _ _ _)
      | (with_reducible exact ih2 _ _ _ _ _)
      | (with_reducible exact ih3 _ _ _ _ _ _)
      | (with_reducible exact node_Ok.mono _ _ _)
      | (with_reducible exact octs_In_Int.mono _ _ _ _)
      | (with_reducible exact octs_In_Short.mono _ _ _)
      | (with_reducible exact LeO.refl _)
      | (with_reducible exact LeO.none _)
      | (with_reducible refine LeO.ite ?_ ?_)
      | (with_reducible refine LeO.bind ?_ (fun _ => ?_))
      | exact ih0 _ _ _ _ _ _
      | exact ih1 _ _ _ _ _ _ _
      | exact ih2 _ _ _ _ _
      | exact ih3 _ _ _ _ _ _
      | exact node_Ok.mono _ _ _
      | exact octs_In_Int.mono _ _ _ _
      | exact octs_In_Short.mono _ _ _
      | exact LeO.none _
      | refine LeO.ite ?_ ?_
      | refine LeO.bind ?_ (fun _ => ?_)
set_option maxHeartbeats 8000000 in
set_option maxRecDepth 100000 in
theorem node_Parse.calls (k : Nat) (A0 : Option Addr) (c0 : Nat) (l0 : List Int) (r1 : Bool) (r2 : List (S41)) (r3 : Bool) (w : World) (hr0 : Kd.C (Kd.int .u8) w A0 l0.length l0) (hc0 : l0.length ≤ c0) (h : node_Parse.f k l0 = some (r1, r2, r3)) :
    Calls Try.prog 27 #[.slice A0 l0.length c0] w fun e w' => ∃ v1_ : Value, e = .returned (.tuple #[.agg #[.bool r1, v1_], .bool r3]) ∧ Kd.R k41 41 w' w.heap.size (fun _ => True) v1_ r2 ∧ Below w.heap.size w w' := by
  have hu44 := Try.underlying44
  have hu41 := Try.underlying41
  have HR0 := Aside0.mk hr0
  have HC0 := Aside0.mk hc0
  clear hr0 hc0
  have HB := Aside0.mk (Below.refl w.heap.size w)
  have H : ((octs_From.f l0).bind fun bt173 => ((octs_In_Int.f k bt173.1 bt173.2 1).bind fun bt176 => ((octs_In_Int.f k bt176.2.1 bt176.2.2 2).bind fun bt180 => (node_Parse.l0 k bt176.1 bt180.1 bt180.2.1 bt180.2.2 (bt176.1 == 1) ([] : List (S41)))))) = some (r1, r2, r3) := h
  clear h
  replace H := Option.bind_eq_some_iff.mp H
  obtain ⟨⟨t173, t174⟩, A20, H⟩ := H
  replace H : ((octs_In_Int.f k t173 t174 1).bind fun bt176 => ((octs_In_Int.f k bt176.2.1 bt176.2.2 2).bind fun bt180 => (node_Parse.l0 k bt176.1 bt180.1 bt180.2.1 bt180.2.2 (bt176.1 == 1) ([] : List (S41))))) = some (r1, r2, r3) := H
  have A2 := Aside0.mk A20
  clear A20
  replace H := Option.bind_eq_some_iff.mp H
  obtain ⟨⟨t176, t177, t178⟩, A30, H⟩ := H
  replace H : ((octs_In_Int.f k t177 t178 2).bind fun bt180 => (node_Parse.l0 k t176 bt180.1 bt180.2.1 bt180.2.2 (t176 == 1) ([] : List (S41)))) = some (r1, r2, r3) := H
  have A3 := Aside0.mk A30
  clear A30
  replace H := Option.bind_eq_some_iff.mp H
  obtain ⟨⟨t180, t181, t182⟩, A40, H⟩ := H
  replace H : (node_Parse.l0 k t176 t180 t181 t182 (t176 == 1) ([] : List (S41))) = some (r1, r2, r3) := H
  have A4 := Aside0.mk A40
  clear A40
  have H' := Aside0.mk H
  clear H
  go_enter Try.func27, Try.ntmps27
  go_wp2_with (first | ((with_reducible refine gate_dst (N := 2) rfl ?_); refine box_event ?hg (N := 2) ?hd (cs := #[.bool false, .slice none 0 0]) (t := 44) ?hr ?_; (case hd => rfl); (case hg => rfl); (case hr => first | (go_simp; done) | (go_simp; rfl)); intro gb172 hg w5 hbox hb; have n0_ := Aside0.mk (below_step (by repeat (first | (with_reducible first | exact HB.out | apply below_alloc | apply pw_below_drewN | apply below_drew1) | exact HB.out)) hb); have n1_ := Aside0.mk (hbox); have n2_ := Aside0.mk ((by rw [hg]; exact (below_size (by repeat (first | (with_reducible first | exact HB.out | apply below_alloc | apply pw_below_drewN | apply below_drew1) | exact HB.out))) : w.heap.size ≤ gb172)); have n3_ := Aside0.mk ((by rw [hg]; exact (below_size (by repeat (first | (with_reducible first | exact HB.out | apply below_alloc | apply pw_below_drewN | apply below_drew1) | exact HB.out))) : w.heap.size ≤ gb172)); clear HB; have HB := n0_; have BK172 := n1_; have GW172 := n2_; have GE172 := n3_; clear n0_ n1_ n2_ n3_; clear hb hbox hg) | ((with_reducible refine gate_callee (f := 44) rfl ?_); refine goesL_ (some 13) rfl rfl Try.func44 (by kernel_rfl) rfl #[.slice A0 l0.length c0] rfl (by (try simp only [List.map_toArray, List.map_cons, List.map_nil]); first | done | rfl | (simp only [List.length_drop, List.length_take]; rfl)) ?_; (with_reducible refine (octs_From.calls _ _ l0 t173 t174 w _ ?side1 ?side2 ?side3 A2.out).mono ?_); (case side1 => repeat (first | (with_reducible first | exact HB.out | apply below_alloc | apply pw_below_drewN | apply below_drew1 | refine below_set ?_ GE172.out) | exact HB.out)); (case side2 => exact HR0.out); (case side3 => exact HC0.out); rintro e w6 ⟨g175, rfl, hi, hb, hb2, hge⟩; refine ⟨_, rfl, ?_⟩; have n0_ := Aside0.mk (blk_below (g := gb172) (o := .cells #[.bool false, .slice none 0 0] 44 (0, 0)) (by exact BK172.out) hb2); have n1_ := Aside0.mk (hb); have n2_ := Aside0.mk (hi); have n3_ := Aside0.mk (IsS91.ne_blk hi (blk_below (g := gb172) (o := .cells #[.bool false, .slice none 0 0] 44 (0, 0)) (by exact BK172.out) hb2) (by decide)); have n4_ := Aside0.mk (Ne.symm (IsS91.ne_blk hi (blk_below (g := gb172) (o := .cells #[.bool false, .slice none 0 0] 44 (0, 0)) (by exact BK172.out) hb2) (by decide))); clear BK172; clear HB; have BK172 := n0_; have HB := n1_; have HI175 := n2_; have NB175_172 := n3_; have NB172_175 := n4_; clear n0_ n1_ n2_ n3_ n4_; (try clear hb); (try clear hb2); (try clear hk); (try clear hi); (try clear hge)) | ((with_reducible refine gate_callee (f := 45) rfl ?_); refine goesL_ (some 15) rfl rfl Try.func45 (by kernel_rfl) rfl #[.pointer (some ⟨g175, 0, none⟩), .int .i64 1] rfl (by (try simp only [List.map_toArray, List.map_cons, List.map_nil]); first | done | rfl | (simp only [List.length_drop, List.length_take]; rfl)) ?_; (with_reducible refine (octs_In_Int.calls k g175 t173 t174 1 t176 t177 t178 w _ ?side1 ?side2 A3.out).mono ?_); (case side1 => repeat (first | (with_reducible first | exact HI175.out | apply IsS91.alloc | apply IsS91.drewN | apply IsS91.drew | apply IsS91.set_1 | refine IsS91.far ?_ NB175_172.out _) | exact HI175.out)); (case side2 => repeat (first | (with_reducible first | exact HB.out | apply below_alloc | apply pw_below_drewN | apply below_drew1 | refine below_set ?_ (IsS91.ge HI175.out) | refine below_set ?_ GE172.out) | exact HB.out)); rintro e w7 ⟨rfl, hi, hb, hk⟩; refine ⟨_, rfl, ?_⟩; have n0_ := Aside0.mk (KeepBut.blk hk (g' := gb172) (o := .cells #[.bool false, .slice none 0 0] 44 (0, 0)) (by exact BK172.out) NB172_175.out (by simp)); have n1_ := Aside0.mk (hb); have n2_ := Aside0.mk (hi); clear BK172; clear HB; clear HI175; have BK172 := n0_; have HB := n1_; have HI175 := n2_; clear n0_ n1_ n2_; (try clear hb); (try clear hb2); (try clear hk); (try clear hi); (try clear hge)) | ((with_reducible refine gate_dst (N := 6) rfl ?_); refine box_event ?hg (N := 6) ?hd (cs := #[.bool false, .slice none 0 0]) (t := 44) ?hr ?_; (case hd => rfl); (case hg => rfl); (case hr => first | (go_simp; done) | (go_simp; rfl)); intro gb179 hg w8 hbox hb; have n0_ := Aside0.mk (blk_below (g := gb172) (o := .cells #[.bool false, .slice none 0 0] 44 (0, 0)) (by exact BK172.out) hb); have n1_ := Aside0.mk (IsS91.below (by repeat (first | (with_reducible first | exact HI175.out | apply IsS91.alloc | apply IsS91.drewN | apply IsS91.drew | apply IsS91.set_1 | refine IsS91.far ?_ NB175_172.out _) | exact HI175.out)) hb); have n2_ := Aside0.mk (below_step (by repeat (first | (with_reducible first | exact HB.out | apply below_alloc | apply pw_below_drewN | apply below_drew1 | refine below_set ?_ (IsS91.ge HI175.out) | refine below_set ?_ GE172.out) | exact HB.out)) hb); have n3_ := Aside0.mk (hbox); have n4_ := Aside0.mk ((by rw [hg]; exact (below_size (by repeat (first | (with_reducible first | exact HB.out | apply below_alloc | apply pw_below_drewN | apply below_drew1 | refine below_set ?_ (IsS91.ge HI175.out) | refine below_set ?_ GE172.out) | exact HB.out))) : w.heap.size ≤ gb179)); have n5_ := Aside0.mk ((by rw [hg]; exact (below_size (by repeat (first | (with_reducible first | exact HB.out | apply below_alloc | apply pw_below_drewN | apply below_drew1 | refine below_set ?_ (IsS91.ge HI175.out) | refine below_set ?_ GE172.out) | exact HB.out))) : w.heap.size ≤ gb179)); have n6_ := Aside0.mk ((by rw [hg]; exact Nat.ne_of_lt (blk_lt (g := gb172) (o := .cells #[.bool false, .slice none 0 0] 44 (0, 0)) (by exact BK172.out)) : gb172 ≠ gb179)); have n7_ := Aside0.mk ((by rw [hg]; exact Nat.ne_of_gt (blk_lt (g := gb172) (o := .cells #[.bool false, .slice none 0 0] 44 (0, 0)) (by exact BK172.out)) : gb179 ≠ gb172)); have n8_ := Aside0.mk ((by rw [hg]; exact Nat.ne_of_lt (IsS91.lt (show IsS91 w _ g175 t177 t178 from by repeat (first | (with_reducible first | exact HI175.out | apply IsS91.alloc | apply IsS91.drewN | apply IsS91.drew | apply IsS91.set_1 | refine IsS91.far ?_ NB175_172.out _) | exact HI175.out))) : g175 ≠ gb179)); have n9_ := Aside0.mk ((by rw [hg]; exact Nat.ne_of_gt (IsS91.lt (show IsS91 w _ g175 t177 t178 from by repeat (first | (with_reducible first | exact HI175.out | apply IsS91.alloc | apply IsS91.drewN | apply IsS91.drew | apply IsS91.set_1 | refine IsS91.far ?_ NB175_172.out _) | exact HI175.out))) : gb179 ≠ g175)); clear BK172; clear HI175; clear HB; have BK172 := n0_; have HI175 := n1_; have HB := n2_; have BK179 := n3_; have GW179 := n4_; have GE179 := n5_; have NB172_179 := n6_; have NB179_172 := n7_; have NB175_179 := n8_; have NB179_175 := n9_; clear n0_ n1_ n2_ n3_ n4_ n5_ n6_ n7_ n8_ n9_; clear hb hbox hg; have hnb9 := NB179_172.out; have hnc9 := NB172_179.out; have hnb10 := NB179_175.out; have hnc10 := NB175_179.out; have hcz11_0 : w8.cell? ⟨gb179, 0, none⟩ = some (.bool false) := (blk_cell BK179.out 0).trans rfl; have hcz11_1 : w8.cell? ⟨gb179, 1, none⟩ = some (.slice none 0 0) := (blk_cell BK179.out 1).trans rfl; have hfz11_0 := blk_frozen BK179.out 0; have hfz11_1 := blk_frozen BK179.out 1) | ((with_reducible refine gate_callee (f := 45) rfl ?_); refine goesL_ (some 20) rfl rfl Try.func45 (by kernel_rfl) rfl #[.pointer (some ⟨g175, 0, none⟩), .int .i64 2] rfl (by (try simp only [List.map_toArray, List.map_cons, List.map_nil]); first | done | rfl | (simp only [List.length_drop, List.length_take]; rfl)) ?_; (with_reducible refine (octs_In_Int.calls k g175 t177 t178 2 t180 t181 t182 w _ ?side1 ?side2 A4.out).mono ?_); (case side1 => repeat (first | (with_reducible first | exact HI175.out | apply IsS91.alloc | apply IsS91.drewN | apply IsS91.drew | apply IsS91.set_1 | refine IsS91.far ?_ NB175_172.out _ | refine IsS91.far ?_ NB175_179.out _) | exact HI175.out)); (case side2 => repeat (first | (with_reducible first | exact HB.out | apply below_alloc | apply pw_below_drewN | apply below_drew1 | refine below_set ?_ (IsS91.ge HI175.out) | refine below_set ?_ GE172.out | refine below_set ?_ GE179.out) | exact HB.out)); rintro e w12 ⟨rfl, hi, hb, hk⟩; refine ⟨_, rfl, ?_⟩; have n0_ := Aside0.mk (KeepBut.blk hk (g' := gb172) (o := .cells #[.bool false, .slice none 0 0] 44 (0, 0)) (by refine blk_far ?_ NB172_179.out _; refine blk_far ?_ NB172_179.out _; exact BK172.out) NB172_175.out (by simp)); have n1_ := Aside0.mk (KeepBut.blk hk (g' := gb179) (o := .cells #[.bool (t176 == 1), .slice none 0 0] 44 (0, 0)) (by refine blk_put (cs := #[.bool (t176 == 1), .slice none 0 0]) ?_ 1 _ rfl; refine blk_put (cs := #[.bool false, .slice none 0 0]) ?_ 0 _ rfl; exact BK179.out) NB179_175.out (by simp)); have n2_ := Aside0.mk (hb); have n3_ := Aside0.mk (hi); clear BK172; clear BK179; clear HB; clear HI175; have BK172 := n0_; have BK179 := n1_; have HB := n2_; have HI175 := n3_; clear n0_ n1_ n2_ n3_; (try clear hb); (try clear hb2); (try clear hk); (try clear hi); (try clear hge)))
  go_loopg [7] k (fun kq v7 w' => ∃ (x7_1 : Int) (x176000_1 : List Int) (x176001_1 : Bool) (x180001_1 : List (S41)) (u180001 : Value), v7 = .int .u64 x7_1 ∧ Aside0 (node_Parse.l0 kq t176 x7_1 x176000_1 x176001_1 (t176 == 1) x180001_1 = some (r1, r2, r3)) ∧ Aside0 (kq ≤ k) ∧ Aside0 (Kd.R k41 41 w' w.heap.size (fun _ => True) u180001 x180001_1) ∧ Aside0 (w'.heap[gb172]? = some (.cells #[.bool false, (.slice none 0 0)] 44 (0, 0))) ∧ Aside0 (w'.heap[gb179]? = some (.cells #[.bool (t176 == 1), u180001] 44 (0, 0))) ∧ Aside0 (IsS91 w w' g175 x176000_1 x176001_1) ∧ Aside0 (Below w.heap.size w w'))
  case atStart => exact ⟨(t180), (t181), (t182), (([] : List (S41))), (.slice none 0 0), (by first | rfl | (simp; done) | (simp [*]; done)), H', ⟨Nat.le_refl _⟩, ⟨by first | exact Kd.R_nil _ _ _ _ _ | exact Kd.N_nil _ _ _ _ _ | exact Kd.V_nil _ _ _ _ _ | exact Kd.Q_nil _ _ _ _ _ | exact Kd.S_nil _ _ _ _ _⟩, ⟨by exact BK172.out⟩, ⟨by exact BK179.out⟩, ⟨by repeat (first | (with_reducible first | exact HI175.out | apply IsS91.alloc | apply IsS91.drewN | apply IsS91.drew | apply IsS91.set_1 | refine IsS91.far ?_ NB175_172.out _ | refine IsS91.far ?_ NB175_179.out _) | exact HI175.out)⟩, ⟨by repeat (first | (with_reducible first | exact HB.out | apply below_alloc | apply pw_below_drewN | apply below_drew1 | refine below_set ?_ (IsS91.ge HI175.out) | refine below_set ?_ GE172.out | refine below_set ?_ GE179.out) | exact HB.out)⟩⟩
  case round =>
    clear H'
    try clear c1
    try clear c2
    try clear p2
    try clear c4
    try clear c9
    try clear c10
    try clear hcz11_0
    try clear hcz11_1
    try clear hfz11_0
    try clear hfz11_1
    obtain ⟨x7_1, x176000_1, x176001_1, x180001_1, u180001, rfl, HA, HK1, HO_180001, BK172, BK179, HI175, HB⟩ := hrel
    cases gk with
    | zero => exact absurd HA.out (by simp [node_Parse.l0])
    | succ k1 =>
      have H := HA.out
      clear HA
      simp only [node_Parse.l0] at H
      have HC13 := Aside0.mk H
      clear H
      go_upto_region 5 with (fail)
      go_cut [26] (fun v26 wc => ∃ (kq : Nat) (x26_12 : Bool) (x176000_12 : List Int) (x176001_12 : Bool), v26 = .bool x26_12 ∧ Aside0 (node_Parse.j1 kq t176 x7_1 x26_12 x176000_12 x176001_12 (t176 == 1) x180001_1 = some (r1, r2, r3)) ∧ Aside0 (kq ≤ k1) ∧ Aside0 (Kd.R k41 41 wc w.heap.size (fun _ => True) u180001 x180001_1) ∧ Aside0 (wc.heap[gb172]? = some (.cells #[.bool false, (.slice none 0 0)] 44 (0, 0))) ∧ Aside0 (wc.heap[gb179]? = some (.cells #[.bool (t176 == 1), u180001] 44 (0, 0))) ∧ Aside0 (IsS91 w wc g175 x176000_12 x176001_12) ∧ Aside0 (Below w.heap.size w wc))
      case first =>
        have H := HC13.out
        clear HC13
        by_cases c14 : x7_1 > 0
        · rw [if_pos c14] at H
          have c14b0 : decide (0 < x7_1) = true := decide_eq_true c14
          clear c14
          (first | rw [c14b0] | rw [c14b2] | rw [c14b1] | (simp only [i64_w, i32_w]; rw [c14b0]) | skip)
          replace H := Option.bind_eq_some_iff.mp H
          obtain ⟨⟨t183, t184, t185⟩, A150, H⟩ := H
          replace H : (node_Parse.j1 k1 t176 x7_1 t183 t184 t185 (t176 == 1) x180001_1) = some (r1, r2, r3) := H
          have A15 := Aside0.mk A150
          clear A150
          have H' := Aside0.mk H
          clear H
          go_wp2_with (first | (go_at_call 46; (with_reducible refine (octs_In_Ok.calls g175 x176000_1 x176001_1 t183 t184 t185 w _ ?side1 ?side2 A15.out).mono ?_); (case side1 => repeat (first | (with_reducible first | exact HI175.out | apply IsS91.alloc | apply IsS91.drewN | apply IsS91.drew | apply IsS91.set_1 | refine IsS91.far ?_ NB175_172.out _ | refine IsS91.far ?_ NB175_179.out _) | exact HI175.out)); (case side2 => repeat (first | (with_reducible first | exact HB.out | apply below_alloc | apply pw_below_drewN | apply below_drew1 | refine below_set ?_ (IsS91.ge HI175.out) | refine below_set ?_ GE172.out | refine below_set ?_ GE179.out) | exact HB.out)); rintro e w16 ⟨rfl, hi, hb, hk⟩; have n0_ := Aside0.mk (Kd.R_mono (Kd.R_keep (IsS91.apart (show IsS91 w _ g175 x176000_1 x176001_1 from by repeat (first | (with_reducible first | exact HI175.out | apply IsS91.alloc | apply IsS91.drewN | apply IsS91.drew | apply IsS91.set_1 | refine IsS91.far ?_ NB175_172.out _ | refine IsS91.far ?_ NB175_179.out _) | exact HI175.out)) (by exact HO_180001.out) (by decide)) hk (fun _ h => h.2)) (fun _ h => h.1)); have n1_ := Aside0.mk (KeepBut.blk hk (g' := gb172) (o := .cells #[.bool false, .slice none 0 0] 44 (0, 0)) (by exact BK172.out) NB172_175.out (by simp)); have n2_ := Aside0.mk (KeepBut.blk hk (g' := gb179) (o := .cells #[.bool (t176 == 1), u180001] 44 (0, 0)) (by exact BK179.out) NB179_175.out (by simp)); have n3_ := Aside0.mk (hb); have n4_ := Aside0.mk (hi); clear HO_180001; clear BK172; clear BK179; clear HB; clear HI175; have HO_180001 := n0_; have BK172 := n1_; have BK179 := n2_; have HB := n3_; have HI175 := n4_; clear n0_ n1_ n2_ n3_ n4_; (try clear hb); (try clear hb2); (try clear hk); (try clear hi); (try clear hge)))
          go_meet
          case rel => exact ⟨_, (t183), (t184), (t185), (by first | rfl | (simp; done) | (simp [*]; done)), H', ⟨by have := HK1.out; first | omega | exact Nat.le_refl _⟩, ⟨by exact HO_180001.out⟩, ⟨by exact BK172.out⟩, ⟨by exact BK179.out⟩, ⟨by repeat (first | (with_reducible first | exact HI175.out | apply IsS91.alloc | apply IsS91.drewN | apply IsS91.drew | apply IsS91.set_1 | refine IsS91.far ?_ NB175_172.out _ | refine IsS91.far ?_ NB175_179.out _) | exact HI175.out)⟩, ⟨by repeat (first | (with_reducible first | exact HB.out | apply below_alloc | apply pw_below_drewN | apply below_drew1 | refine below_set ?_ (IsS91.ge HI175.out) | refine below_set ?_ GE172.out | refine below_set ?_ GE179.out) | exact HB.out)⟩⟩
        · rw [if_neg c14] at H
          have c14b0 : decide (0 < x7_1) = false := decide_eq_false c14
          clear c14
          (first | rw [c14b0] | rw [c14b2] | rw [c14b1] | (simp only [i64_w, i32_w]; rw [c14b0]) | skip)
          have H' := Aside0.mk H
          clear H
          go_wp2
          go_meet
          case rel => exact ⟨_, (false), (x176000_1), (x176001_1), (by first | rfl | (simp; done) | (simp [*]; done)), H', ⟨by have := HK1.out; first | omega | exact Nat.le_refl _⟩, ⟨by exact HO_180001.out⟩, ⟨by exact BK172.out⟩, ⟨by exact BK179.out⟩, ⟨by repeat (first | (with_reducible first | exact HI175.out | apply IsS91.alloc | apply IsS91.drewN | apply IsS91.drew | apply IsS91.set_1 | refine IsS91.far ?_ NB175_172.out _ | refine IsS91.far ?_ NB175_179.out _) | exact HI175.out)⟩, ⟨by repeat (first | (with_reducible first | exact HB.out | apply below_alloc | apply pw_below_drewN | apply below_drew1 | refine below_set ?_ (IsS91.ge HI175.out) | refine below_set ?_ GE172.out | refine below_set ?_ GE179.out) | exact HB.out)⟩⟩
      case rest =>
        clear HC13
        try clear c1
        try clear c2
        try clear p2
        try clear c4
        try clear c9
        try clear c10
        try clear c14
        try clear c14b0
        try clear hcz11_0
        try clear hcz11_1
        try clear hfz11_0
        try clear hfz11_1
        try clear p2
        obtain ⟨kq, x26_12, x176000_12, x176001_12, rfl, HA, HJ12, HO_180001, BK172, BK179, HI175, HB⟩ := hcut
        cases kq with
        | zero => exact absurd HA.out (by simp [node_Parse.j1])
        | succ kj12 =>
          have H := HA.out
          clear HA
          simp only [node_Parse.j1] at H
          by_cases c17 : x26_12 = true
          · subst c17
            have H1 : ((octs_In_Short.f kj12 x176000_12 x176001_12).bind fun bt186 => (if (t176 == 1) = true then ((octs_In_Short.f kj12 bt186.2.1 bt186.2.2).bind fun bt190 => (if x180001_1.length < 3518437208883 then (node_Parse.l0 kj12 t176 (IntKind.u64.wrap (x7_1 - 1)) bt190.2.1 bt190.2.2 (t176 == 1) (x180001_1 ++ [(⟨bt186.1, bt190.1, 0⟩ : S41)])) else (none))) else ((octs_In_Int.f kj12 bt186.2.1 bt186.2.2 4).bind fun bt196 => (if x180001_1.length < 3518437208883 then (node_Parse.l0 kj12 t176 (IntKind.u64.wrap (x7_1 - 1)) bt196.2.1 bt196.2.2 (t176 == 1) (x180001_1 ++ [(⟨bt186.1, (⟨#[]⟩ : ByteArray), wrap64 (bt196.1)⟩ : S41)])) else (none))))) = some (r1, r2, r3) := by rw [if_pos rfl] at H; exact H
            clear H
            have H := H1
            clear H1
            replace H := Option.bind_eq_some_iff.mp H
            obtain ⟨⟨t186, t187, t188⟩, A180, H⟩ := H
            replace H : (if (t176 == 1) = true then ((octs_In_Short.f kj12 t187 t188).bind fun bt190 => (if x180001_1.length < 3518437208883 then (node_Parse.l0 kj12 t176 (IntKind.u64.wrap (x7_1 - 1)) bt190.2.1 bt190.2.2 (t176 == 1) (x180001_1 ++ [(⟨t186, bt190.1, 0⟩ : S41)])) else (none))) else ((octs_In_Int.f kj12 t187 t188 4).bind fun bt196 => (if x180001_1.length < 3518437208883 then (node_Parse.l0 kj12 t176 (IntKind.u64.wrap (x7_1 - 1)) bt196.2.1 bt196.2.2 (t176 == 1) (x180001_1 ++ [(⟨t186, (⟨#[]⟩ : ByteArray), wrap64 (bt196.1)⟩ : S41)])) else (none)))) = some (r1, r2, r3) := H
            have A18 := Aside0.mk A180
            clear A180
            by_cases c19 : (t176 == 1) = true
            · rw [if_pos c19] at H
              have c19b0 : (t176 == 1) = true := c19
              (try (have c19b1 : decide (t176 = 1) = true := by simpa using c19))
              (try (have c19b2 : (t176 == 1) = true := by simpa using c19))
              clear c19
              replace H := Option.bind_eq_some_iff.mp H
              obtain ⟨⟨t190, t191, t192⟩, A200, H⟩ := H
              replace H : (if x180001_1.length < 3518437208883 then (node_Parse.l0 kj12 t176 (IntKind.u64.wrap (x7_1 - 1)) t191 t192 (t176 == 1) (x180001_1 ++ [(⟨t186, t190, 0⟩ : S41)])) else (none)) = some (r1, r2, r3) := H
              have A20 := Aside0.mk A200
              clear A200
              by_cases c21 : x180001_1.length < 3518437208883
              · rw [if_pos c21] at H
                have LMc21 := Aside0.mk c21
                clear c21
                obtain ⟨y193, hy193⟩ : ∃ y_ : List (S41), y_ = (x180001_1 ++ [(⟨t186, t190, 0⟩ : S41)]) := ⟨_, rfl⟩
                replace H : (node_Parse.l0 kj12 t176 (IntKind.u64.wrap (x7_1 - 1)) t191 t192 (t176 == 1) y193) = some (r1, r2, r3) := by first | (rw [hy193]; with_reducible exact H) | (have H2_ := (Option.bind_some _ _).symm.trans H; rw [hy193]; with_reducible exact H2_) | (have H2_ := (Option.bind_some _ _).symm.trans H; with_reducible exact H2_) | with_reducible exact H | (rw [hy193]; exact H) | exact H
                have Ny193 := Aside0.mk hy193
                clear hy193
                have H' := Aside0.mk H
                clear H
                go_wp2_with (first | ((with_reducible refine gate_callee (f := 47) rfl ?_); refine goesL_ (some 30) rfl rfl Try.func47 (by kernel_rfl) rfl #[.pointer (some ⟨g175, 0, none⟩)] rfl (by (try simp only [List.map_toArray, List.map_cons, List.map_nil]); first | done | rfl | (simp only [List.length_drop, List.length_take]; rfl)) ?_; (with_reducible refine (octs_In_Short.calls kj12 g175 x176000_12 x176001_12 t186 t187 t188 w _ ?side1 ?side2 A18.out).mono ?_); (case side1 => repeat (first | (with_reducible first | exact HI175.out | apply IsS91.alloc | apply IsS91.drewN | apply IsS91.drew | apply IsS91.set_1 | refine IsS91.far ?_ NB175_172.out _ | refine IsS91.far ?_ NB175_179.out _) | exact HI175.out)); (case side2 => repeat (first | (with_reducible first | exact HB.out | apply below_alloc | apply pw_below_drewN | apply below_drew1 | refine below_set ?_ (IsS91.ge HI175.out) | refine below_set ?_ GE172.out | refine below_set ?_ GE179.out) | exact HB.out)); rintro e w22 ⟨rfl, hi, hb, hk⟩; refine ⟨_, rfl, ?_⟩; have n0_ := Aside0.mk (Kd.R_mono (Kd.R_keep (IsS91.apart (show IsS91 w _ g175 x176000_12 x176001_12 from by repeat (first | (with_reducible first | exact HI175.out | apply IsS91.alloc | apply IsS91.drewN | apply IsS91.drew | apply IsS91.set_1 | refine IsS91.far ?_ NB175_172.out _ | refine IsS91.far ?_ NB175_179.out _) | exact HI175.out)) (by exact HO_180001.out) (by decide)) hk (fun _ h => h.2)) (fun _ h => h.1)); have n1_ := Aside0.mk (KeepBut.blk hk (g' := gb172) (o := .cells #[.bool false, .slice none 0 0] 44 (0, 0)) (by exact BK172.out) NB172_175.out (by simp)); have n2_ := Aside0.mk (KeepBut.blk hk (g' := gb179) (o := .cells #[.bool (t176 == 1), u180001] 44 (0, 0)) (by exact BK179.out) NB179_175.out (by simp)); have n3_ := Aside0.mk (hb); have n4_ := Aside0.mk (hi); clear HO_180001; clear BK172; clear BK179; clear HB; clear HI175; have HO_180001 := n0_; have BK172 := n1_; have BK179 := n2_; have HB := n3_; have HI175 := n4_; clear n0_ n1_ n2_ n3_ n4_; (try clear hb); (try clear hb2); (try clear hk); (try clear hi); (try clear hge)) | ((with_reducible refine gate_dst (N := 8) rfl ?_); refine box_event ?hg (N := 8) ?hd (cs := #[.string (⟨#[]⟩ : ByteArray), .string (⟨#[]⟩ : ByteArray), .int .i64 0]) (t := 41) ?hr ?_; (case hd => rfl); (case hg => rfl); (case hr => first | (go_simp; done) | (go_simp; rfl)); intro gb189 hg w23 hbox hb; have n0_ := Aside0.mk (Kd.R_below (Kd.R_elderB (by exact HO_180001.out) gb189 (Nat.le_of_eq hg.symm)) hb); have n1_ := Aside0.mk (blk_below (g := gb172) (o := .cells #[.bool false, .slice none 0 0] 44 (0, 0)) (by exact BK172.out) hb); have n2_ := Aside0.mk (blk_below (g := gb179) (o := .cells #[.bool (t176 == 1), u180001] 44 (0, 0)) (by exact BK179.out) hb); have n3_ := Aside0.mk (IsS91.below (by repeat (first | (with_reducible first | exact HI175.out | apply IsS91.alloc | apply IsS91.drewN | apply IsS91.drew | apply IsS91.set_1 | refine IsS91.far ?_ NB175_172.out _ | refine IsS91.far ?_ NB175_179.out _) | exact HI175.out)) hb); have n4_ := Aside0.mk (below_step (by repeat (first | (with_reducible first | exact HB.out | apply below_alloc | apply pw_below_drewN | apply below_drew1 | refine below_set ?_ (IsS91.ge HI175.out) | refine below_set ?_ GE172.out | refine below_set ?_ GE179.out) | exact HB.out)) hb); have n5_ := Aside0.mk (hbox); have n6_ := Aside0.mk ((by rw [hg]; exact (below_size (by repeat (first | (with_reducible first | exact HB.out | apply below_alloc | apply pw_below_drewN | apply below_drew1 | refine below_set ?_ (IsS91.ge HI175.out) | refine below_set ?_ GE172.out | refine below_set ?_ GE179.out) | exact HB.out))) : w.heap.size ≤ gb189)); have n7_ := Aside0.mk ((by rw [hg]; exact (below_size (by repeat (first | (with_reducible first | exact HB.out | apply below_alloc | apply pw_below_drewN | apply below_drew1 | refine below_set ?_ (IsS91.ge HI175.out) | refine below_set ?_ GE172.out | refine below_set ?_ GE179.out) | exact HB.out))) : w.heap.size ≤ gb189)); have n8_ := Aside0.mk ((by rw [hg]; exact Nat.ne_of_lt (blk_lt (g := gb172) (o := .cells #[.bool false, .slice none 0 0] 44 (0, 0)) (by exact BK172.out)) : gb172 ≠ gb189)); have n9_ := Aside0.mk ((by rw [hg]; exact Nat.ne_of_gt (blk_lt (g := gb172) (o := .cells #[.bool false, .slice none 0 0] 44 (0, 0)) (by exact BK172.out)) : gb189 ≠ gb172)); have n10_ := Aside0.mk ((by rw [hg]; exact Nat.ne_of_lt (blk_lt (g := gb179) (o := .cells #[.bool (t176 == 1), u180001] 44 (0, 0)) (by exact BK179.out)) : gb179 ≠ gb189)); have n11_ := Aside0.mk ((by rw [hg]; exact Nat.ne_of_gt (blk_lt (g := gb179) (o := .cells #[.bool (t176 == 1), u180001] 44 (0, 0)) (by exact BK179.out)) : gb189 ≠ gb179)); have n12_ := Aside0.mk ((by rw [hg]; exact Nat.ne_of_lt (IsS91.lt (show IsS91 w _ g175 t187 t188 from by repeat (first | (with_reducible first | exact HI175.out | apply IsS91.alloc | apply IsS91.drewN | apply IsS91.drew | apply IsS91.set_1 | refine IsS91.far ?_ NB175_172.out _ | refine IsS91.far ?_ NB175_179.out _) | exact HI175.out))) : g175 ≠ gb189)); have n13_ := Aside0.mk ((by rw [hg]; exact Nat.ne_of_gt (IsS91.lt (show IsS91 w _ g175 t187 t188 from by repeat (first | (with_reducible first | exact HI175.out | apply IsS91.alloc | apply IsS91.drewN | apply IsS91.drew | apply IsS91.set_1 | refine IsS91.far ?_ NB175_172.out _ | refine IsS91.far ?_ NB175_179.out _) | exact HI175.out))) : gb189 ≠ g175)); clear HO_180001; clear BK172; clear BK179; clear HI175; clear HB; have HO_180001 := n0_; have BK172 := n1_; have BK179 := n2_; have HI175 := n3_; have HB := n4_; have BK189 := n5_; have GW189 := n6_; have GE189 := n7_; have NB172_189 := n8_; have NB189_172 := n9_; have NB179_189 := n10_; have NB189_179 := n11_; have NB175_189 := n12_; have NB189_175 := n13_; clear n0_ n1_ n2_ n3_ n4_ n5_ n6_ n7_ n8_ n9_ n10_ n11_ n12_ n13_; clear hb hbox hg; have hnb24 := NB189_172.out; have hnc24 := NB172_189.out; have hnb25 := NB189_179.out; have hnc25 := NB179_189.out; have hnb26 := NB189_175.out; have hnc26 := NB175_189.out; have hcz27_0 : w23.cell? ⟨gb189, 0, none⟩ = some (.string (⟨#[]⟩ : ByteArray)) := (blk_cell BK189.out 0).trans rfl; have hcz27_1 : w23.cell? ⟨gb189, 1, none⟩ = some (.string (⟨#[]⟩ : ByteArray)) := (blk_cell BK189.out 1).trans rfl; have hcz27_2 : w23.cell? ⟨gb189, 2, none⟩ = some (.int .i64 0) := (blk_cell BK189.out 2).trans rfl; have hfz27_0 := blk_frozen BK189.out 0; have hfz27_1 := blk_frozen BK189.out 1; have hfz27_2 := blk_frozen BK189.out 2; have hnb28 := NB179_172.out; have hnc28 := NB172_179.out; have hnb29 := NB179_175.out; have hnc29 := NB175_179.out; have hcz30_0 : w23.cell? ⟨gb179, 0, none⟩ = some (.bool (t176 == 1)) := (blk_cell BK179.out 0).trans rfl; have hcz30_1 : w23.cell? ⟨gb179, 1, none⟩ = some (u180001) := (blk_cell BK179.out 1).trans rfl; have hfz30_0 := blk_frozen BK179.out 0; have hfz30_1 := blk_frozen BK179.out 1) | ((with_reducible refine gate_callee (f := 47) rfl ?_); refine goesL_ (some 35) rfl rfl Try.func47 (by kernel_rfl) rfl #[.pointer (some ⟨g175, 0, none⟩)] rfl (by (try simp only [List.map_toArray, List.map_cons, List.map_nil]); first | done | rfl | (simp only [List.length_drop, List.length_take]; rfl)) ?_; (with_reducible refine (octs_In_Short.calls kj12 g175 t187 t188 t190 t191 t192 w _ ?side1 ?side2 A20.out).mono ?_); (case side1 => repeat (first | (with_reducible first | exact HI175.out | apply IsS91.alloc | apply IsS91.drewN | apply IsS91.drew | apply IsS91.set_1 | refine IsS91.far ?_ NB175_172.out _ | refine IsS91.far ?_ NB175_179.out _ | refine IsS91.far ?_ NB175_189.out _) | exact HI175.out)); (case side2 => repeat (first | (with_reducible first | exact HB.out | apply below_alloc | apply pw_below_drewN | apply below_drew1 | refine below_set ?_ (IsS91.ge HI175.out) | refine below_set ?_ GE172.out | refine below_set ?_ GE179.out | refine below_set ?_ GE189.out) | exact HB.out)); rintro e w31 ⟨rfl, hi, hb, hk⟩; refine ⟨_, rfl, ?_⟩; have n0_ := Aside0.mk (Kd.R_mono (Kd.R_keep (IsS91.apart (show IsS91 w _ g175 t187 t188 from by repeat (first | (with_reducible first | exact HI175.out | apply IsS91.alloc | apply IsS91.drewN | apply IsS91.drew | apply IsS91.set_1 | refine IsS91.far ?_ NB175_172.out _ | refine IsS91.far ?_ NB175_179.out _ | refine IsS91.far ?_ NB175_189.out _) | exact HI175.out)) (by exact (Kd.R_mono (Kd.R_far (p := ⟨gb189, 2, none⟩) (Kd.R_far (p := ⟨gb189, 1, none⟩) (Kd.R_far (p := ⟨gb189, 0, none⟩) (Kd.R_mono HO_180001.out (fun k_ hk => (⟨hk, hk.2⟩ : _ ∧ k_ ≠ gb189))) (fun _ hk => hk.2) (.string t186)) (fun _ hk => hk.2) (.string (⟨#[]⟩ : ByteArray))) (fun _ hk => hk.2) (.int .i64 0)) (fun _ h_ => h_.1))) (by decide)) hk (fun _ h => h.2)) (fun _ h => h.1)); have n1_ := Aside0.mk (KeepBut.blk hk (g' := gb172) (o := .cells #[.bool false, .slice none 0 0] 44 (0, 0)) (by refine blk_far ?_ NB172_189.out _; refine blk_far ?_ NB172_189.out _; refine blk_far ?_ NB172_189.out _; exact BK172.out) NB172_175.out (by simp)); have n2_ := Aside0.mk (KeepBut.blk hk (g' := gb179) (o := .cells #[.bool (t176 == 1), u180001] 44 (0, 0)) (by refine blk_far ?_ NB179_189.out _; refine blk_far ?_ NB179_189.out _; refine blk_far ?_ NB179_189.out _; exact BK179.out) NB179_175.out (by simp)); have n3_ := Aside0.mk (KeepBut.blk hk (g' := gb189) (o := .cells #[.string t186, .string (⟨#[]⟩ : ByteArray), .int .i64 0] 41 (0, 0)) (by refine blk_put (cs := #[.string t186, .string (⟨#[]⟩ : ByteArray), .int .i64 0]) ?_ 2 _ rfl; refine blk_put (cs := #[.string t186, .string (⟨#[]⟩ : ByteArray), .int .i64 0]) ?_ 1 _ rfl; refine blk_put (cs := #[.string (⟨#[]⟩ : ByteArray), .string (⟨#[]⟩ : ByteArray), .int .i64 0]) ?_ 0 _ rfl; exact BK189.out) NB189_175.out (by simp)); have n4_ := Aside0.mk (hb); have n5_ := Aside0.mk (hi); clear HO_180001; clear BK172; clear BK179; clear BK189; clear HB; clear HI175; have HO_180001 := n0_; have BK172 := n1_; have BK179 := n2_; have BK189 := n3_; have HB := n4_; have HI175 := n5_; clear n0_ n1_ n2_ n3_ n4_ n5_; (try clear hb); (try clear hb2); (try clear hk); (try clear hi); (try clear hge); have hcz32_0 : w31.cell? ⟨gb189, 0, none⟩ = some (.string t186) := (blk_cell BK189.out 0).trans rfl; have hcz32_1 : w31.cell? ⟨gb189, 1, none⟩ = some (.string (⟨#[]⟩ : ByteArray)) := (blk_cell BK189.out 1).trans rfl; have hcz32_2 : w31.cell? ⟨gb189, 2, none⟩ = some (.int .i64 0) := (blk_cell BK189.out 2).trans rfl; have hfz32_0 := blk_frozen BK189.out 0; have hfz32_1 := blk_frozen BK189.out 1; have hfz32_2 := blk_frozen BK189.out 2; have hcz33_0 : w31.cell? ⟨gb179, 0, none⟩ = some (.bool (t176 == 1)) := (blk_cell BK179.out 0).trans rfl; have hcz33_1 : w31.cell? ⟨gb179, 1, none⟩ = some (u180001) := (blk_cell BK179.out 1).trans rfl; have hfz33_0 := blk_frozen BK179.out 0; have hfz33_1 := blk_frozen BK179.out 1) | ((with_reducible refine gate_builtin (b := .append) (xs := #[.tmp 42, .tmp 44]) rfl ?_); at_builtin; refine Kd.R_append k41 (w0 := w) w.heap.size rfl (.tmp 42) (.tmp 44) 42 41 (.agg #[(.string ⟨#[]⟩), (.string ⟨#[]⟩), (.int .i64 0)]) 40 rfl Try.underlying42 info41 rfl (by decide) (by omega) u180001 x180001_1 (⟨t186, t190, 0⟩ : S41) [.string t186, .string t190, .int .i64 0] (fun k_ => k_ ≠ gb189) (fun _ => False) rfl (by first | (go_simp; done) | (go_simp; rfl)) ?aP (fun _ hk => hk.elim) ?aF ?aO ?aB ?aS ?aL ?_; (case aP => exact k41_mkM _ _ _ (⟨t186, t190, 0⟩ : S41)); (case aB => exact (by repeat (first | (with_reducible first | exact HB.out | apply below_alloc | apply pw_below_drewN | apply below_drew1 | refine below_set ?_ (IsS91.ge HI175.out) | refine below_set ?_ GE172.out | refine below_set ?_ GE179.out | refine below_set ?_ GE189.out) | exact HB.out))); (case aF => exact (fun k_ hk => Kd.freshB (g := gb189) (o := .cells #[.string t186, .string t190, .int .i64 0] 41 (0, 0)) (by refine blk_put (cs := #[.string t186, .string (⟨#[]⟩ : ByteArray), .int .i64 0]) ?_ 1 _ rfl; exact BK189.out) k_ hk)); (case aO => exact (by exact Kd.R_mono (Kd.R_far (p := ⟨gb189, 1, none⟩) (Kd.R_mono HO_180001.out (fun k_ hk => (⟨hk, hk.2⟩ : _ ∧ k_ ≠ gb189))) (fun _ hk => hk.2) (.string t190)) (fun _ hk => hk.1.2))); (case aS => exact (below_size (by repeat (first | (with_reducible first | exact HB.out | apply below_alloc | apply pw_below_drewN | apply below_drew1 | refine below_set ?_ (IsS91.ge HI175.out) | refine below_set ?_ GE172.out | refine below_set ?_ GE179.out | refine below_set ?_ GE189.out) | exact HB.out)))); (case aL => have := LMc21.out; omega); intro v194 w34 ho hb hg hat; rw [← Ny193.out] at ho; have n0_ := Aside0.mk (blk_grown (g := gb172) (o := .cells #[.bool false, .slice none 0 0] 44 (0, 0)) (by refine blk_far ?_ NB172_189.out _; exact BK172.out) hg (Kd.R_ne HO_180001.out BK172.out (by decide))); have n1_ := Aside0.mk (blk_grown (g := gb179) (o := .cells #[.bool (t176 == 1), u180001] 44 (0, 0)) (by refine blk_far ?_ NB179_189.out _; exact BK179.out) hg (Kd.R_ne HO_180001.out BK179.out (by decide))); have n2_ := Aside0.mk (IsS91.grown (by first | exact IsS91.far (p := ⟨gb189, 1, none⟩) HI175.out NB175_189.out _ | (repeat (first | (with_reducible first | exact HI175.out | apply IsS91.alloc | apply IsS91.drewN | apply IsS91.drew | apply IsS91.set_1 | refine IsS91.far ?_ NB175_172.out _ | refine IsS91.far ?_ NB175_179.out _ | refine IsS91.far ?_ NB175_189.out _) | exact HI175.out))) hg (IsS91.own_ne HI175.out HO_180001.out (by decide))); have n3_ := Aside0.mk (blk_grown (g := gb189) (o := .cells #[.string t186, .string t190, .int .i64 0] 41 (0, 0)) (by refine blk_put (cs := #[.string t186, .string (⟨#[]⟩ : ByteArray), .int .i64 0]) ?_ 1 _ rfl; exact BK189.out) hg (Kd.R_away HO_180001.out (fun _ hk => hk.2))); have n4_ := Aside0.mk (hb); have n5_ := Aside0.mk (ho); clear BK172; clear BK179; clear HI175; clear BK189; clear HB; clear HO_180001; have BK172 := n0_; have BK179 := n1_; have HI175 := n2_; have BK189 := n3_; have HB := n4_; have HO195 := n5_; clear n0_ n1_ n2_ n3_ n4_ n5_; clear ho hb hg hat; obtain ⟨Ao35, co35, eo35⟩ := Kd.R_slice HO195.out; subst eo35; have hcz36_0 : w34.cell? ⟨gb179, 0, none⟩ = some (.bool (t176 == 1)) := (blk_cell BK179.out 0).trans rfl; have hcz36_1 : w34.cell? ⟨gb179, 1, none⟩ = some (u180001) := (blk_cell BK179.out 1).trans rfl; have hfz36_0 := blk_frozen BK179.out 0; have hfz36_1 := blk_frozen BK179.out 1))
                refine Handed.intro kj12 ?measure ?_
                rotate_left
                go_step
                (repeat apply Exists.intro)
                refine ⟨?rel, ?fr⟩
                case fr => first | rfl | (rw [c19b0]; first | done | rfl)
                case measure => have := HK1.out; have := HJ12.out; omega
                case rel => exact ⟨(IntKind.u64.wrap (x7_1 - 1)), (t191), (t192), (y193), (.slice Ao35 y193.length co35), (by first | rfl | (simp; done) | (simp [*]; done)), H', ⟨by have := HK1.out; have := HJ12.out; omega⟩, ⟨by exact Kd.R_mono (Kd.R_far (p := ⟨gb179, 1, none⟩) (Kd.R_types HO195.out BK179.out (by decide)) (fun _ hk => hk.2) (.slice Ao35 y193.length co35)) (fun _ hk => trivial)⟩, ⟨by refine blk_far ?_ NB172_179.out _; exact BK172.out⟩, ⟨by refine blk_put (cs := #[.bool (t176 == 1), u180001]) ?_ 1 _ rfl; exact BK179.out⟩, ⟨by repeat (first | (with_reducible first | exact HI175.out | apply IsS91.alloc | apply IsS91.drewN | apply IsS91.drew | apply IsS91.set_1 | refine IsS91.far ?_ NB175_172.out _ | refine IsS91.far ?_ NB175_179.out _ | refine IsS91.far ?_ NB175_189.out _) | exact HI175.out)⟩, ⟨by repeat (first | (with_reducible first | exact HB.out | apply below_alloc | apply pw_below_drewN | apply below_drew1 | refine below_set ?_ (IsS91.ge HI175.out) | refine below_set ?_ GE172.out | refine below_set ?_ GE179.out | refine below_set ?_ GE189.out) | exact HB.out)⟩⟩
              · rw [if_neg c21] at H
                exact absurd H (by simp)
            · rw [if_neg c19] at H
              have c19b0 : (t176 == 1) = false := by simpa using c19
              (try (have c19b1 : decide (t176 = 1) = false := by simpa using c19))
              (try (have c19b2 : (t176 == 1) = false := by simpa using c19))
              (try (have c19b3 : ¬ (t176 = 1) := by simpa using c19))
              clear c19
              replace H := Option.bind_eq_some_iff.mp H
              obtain ⟨⟨t196, t197, t198⟩, A370, H⟩ := H
              replace H : (if x180001_1.length < 3518437208883 then (node_Parse.l0 kj12 t176 (IntKind.u64.wrap (x7_1 - 1)) t197 t198 (t176 == 1) (x180001_1 ++ [(⟨t186, (⟨#[]⟩ : ByteArray), wrap64 (t196)⟩ : S41)])) else (none)) = some (r1, r2, r3) := H
              have A37 := Aside0.mk A370
              clear A370
              by_cases c38 : x180001_1.length < 3518437208883
              · rw [if_pos c38] at H
                have LMc38 := Aside0.mk c38
                clear c38
                obtain ⟨y199, hy199⟩ : ∃ y_ : List (S41), y_ = (x180001_1 ++ [(⟨t186, (⟨#[]⟩ : ByteArray), wrap64 (t196)⟩ : S41)]) := ⟨_, rfl⟩
                replace H : (node_Parse.l0 kj12 t176 (IntKind.u64.wrap (x7_1 - 1)) t197 t198 (t176 == 1) y199) = some (r1, r2, r3) := by first | (rw [hy199]; with_reducible exact H) | (have H2_ := (Option.bind_some _ _).symm.trans H; rw [hy199]; with_reducible exact H2_) | (have H2_ := (Option.bind_some _ _).symm.trans H; with_reducible exact H2_) | with_reducible exact H | (rw [hy199]; exact H) | exact H
                have Ny199 := Aside0.mk hy199
                clear hy199
                have H' := Aside0.mk H
                clear H
                go_wp2_with (first | ((with_reducible refine gate_callee (f := 47) rfl ?_); refine goesL_ (some 30) rfl rfl Try.func47 (by kernel_rfl) rfl #[.pointer (some ⟨g175, 0, none⟩)] rfl (by (try simp only [List.map_toArray, List.map_cons, List.map_nil]); first | done | rfl | (simp only [List.length_drop, List.length_take]; rfl)) ?_; (with_reducible refine (octs_In_Short.calls kj12 g175 x176000_12 x176001_12 t186 t187 t188 w _ ?side1 ?side2 A18.out).mono ?_); (case side1 => repeat (first | (with_reducible first | exact HI175.out | apply IsS91.alloc | apply IsS91.drewN | apply IsS91.drew | apply IsS91.set_1 | refine IsS91.far ?_ NB175_172.out _ | refine IsS91.far ?_ NB175_179.out _) | exact HI175.out)); (case side2 => repeat (first | (with_reducible first | exact HB.out | apply below_alloc | apply pw_below_drewN | apply below_drew1 | refine below_set ?_ (IsS91.ge HI175.out) | refine below_set ?_ GE172.out | refine below_set ?_ GE179.out) | exact HB.out)); rintro e w39 ⟨rfl, hi, hb, hk⟩; refine ⟨_, rfl, ?_⟩; have n0_ := Aside0.mk (Kd.R_mono (Kd.R_keep (IsS91.apart (show IsS91 w _ g175 x176000_12 x176001_12 from by repeat (first | (with_reducible first | exact HI175.out | apply IsS91.alloc | apply IsS91.drewN | apply IsS91.drew | apply IsS91.set_1 | refine IsS91.far ?_ NB175_172.out _ | refine IsS91.far ?_ NB175_179.out _) | exact HI175.out)) (by exact HO_180001.out) (by decide)) hk (fun _ h => h.2)) (fun _ h => h.1)); have n1_ := Aside0.mk (KeepBut.blk hk (g' := gb172) (o := .cells #[.bool false, .slice none 0 0] 44 (0, 0)) (by exact BK172.out) NB172_175.out (by simp)); have n2_ := Aside0.mk (KeepBut.blk hk (g' := gb179) (o := .cells #[.bool (t176 == 1), u180001] 44 (0, 0)) (by exact BK179.out) NB179_175.out (by simp)); have n3_ := Aside0.mk (hb); have n4_ := Aside0.mk (hi); clear HO_180001; clear BK172; clear BK179; clear HB; clear HI175; have HO_180001 := n0_; have BK172 := n1_; have BK179 := n2_; have HB := n3_; have HI175 := n4_; clear n0_ n1_ n2_ n3_ n4_; (try clear hb); (try clear hb2); (try clear hk); (try clear hi); (try clear hge)) | ((with_reducible refine gate_dst (N := 8) rfl ?_); refine box_event ?hg (N := 8) ?hd (cs := #[.string (⟨#[]⟩ : ByteArray), .string (⟨#[]⟩ : ByteArray), .int .i64 0]) (t := 41) ?hr ?_; (case hd => rfl); (case hg => rfl); (case hr => first | (go_simp; done) | (go_simp; rfl)); intro gb189 hg w40 hbox hb; have n0_ := Aside0.mk (Kd.R_below (Kd.R_elderB (by exact HO_180001.out) gb189 (Nat.le_of_eq hg.symm)) hb); have n1_ := Aside0.mk (blk_below (g := gb172) (o := .cells #[.bool false, .slice none 0 0] 44 (0, 0)) (by exact BK172.out) hb); have n2_ := Aside0.mk (blk_below (g := gb179) (o := .cells #[.bool (t176 == 1), u180001] 44 (0, 0)) (by exact BK179.out) hb); have n3_ := Aside0.mk (IsS91.below (by repeat (first | (with_reducible first | exact HI175.out | apply IsS91.alloc | apply IsS91.drewN | apply IsS91.drew | apply IsS91.set_1 | refine IsS91.far ?_ NB175_172.out _ | refine IsS91.far ?_ NB175_179.out _) | exact HI175.out)) hb); have n4_ := Aside0.mk (below_step (by repeat (first | (with_reducible first | exact HB.out | apply below_alloc | apply pw_below_drewN | apply below_drew1 | refine below_set ?_ (IsS91.ge HI175.out) | refine below_set ?_ GE172.out | refine below_set ?_ GE179.out) | exact HB.out)) hb); have n5_ := Aside0.mk (hbox); have n6_ := Aside0.mk ((by rw [hg]; exact (below_size (by repeat (first | (with_reducible first | exact HB.out | apply below_alloc | apply pw_below_drewN | apply below_drew1 | refine below_set ?_ (IsS91.ge HI175.out) | refine below_set ?_ GE172.out | refine below_set ?_ GE179.out) | exact HB.out))) : w.heap.size ≤ gb189)); have n7_ := Aside0.mk ((by rw [hg]; exact (below_size (by repeat (first | (with_reducible first | exact HB.out | apply below_alloc | apply pw_below_drewN | apply below_drew1 | refine below_set ?_ (IsS91.ge HI175.out) | refine below_set ?_ GE172.out | refine below_set ?_ GE179.out) | exact HB.out))) : w.heap.size ≤ gb189)); have n8_ := Aside0.mk ((by rw [hg]; exact Nat.ne_of_lt (blk_lt (g := gb172) (o := .cells #[.bool false, .slice none 0 0] 44 (0, 0)) (by exact BK172.out)) : gb172 ≠ gb189)); have n9_ := Aside0.mk ((by rw [hg]; exact Nat.ne_of_gt (blk_lt (g := gb172) (o := .cells #[.bool false, .slice none 0 0] 44 (0, 0)) (by exact BK172.out)) : gb189 ≠ gb172)); have n10_ := Aside0.mk ((by rw [hg]; exact Nat.ne_of_lt (blk_lt (g := gb179) (o := .cells #[.bool (t176 == 1), u180001] 44 (0, 0)) (by exact BK179.out)) : gb179 ≠ gb189)); have n11_ := Aside0.mk ((by rw [hg]; exact Nat.ne_of_gt (blk_lt (g := gb179) (o := .cells #[.bool (t176 == 1), u180001] 44 (0, 0)) (by exact BK179.out)) : gb189 ≠ gb179)); have n12_ := Aside0.mk ((by rw [hg]; exact Nat.ne_of_lt (IsS91.lt (show IsS91 w _ g175 t187 t188 from by repeat (first | (with_reducible first | exact HI175.out | apply IsS91.alloc | apply IsS91.drewN | apply IsS91.drew | apply IsS91.set_1 | refine IsS91.far ?_ NB175_172.out _ | refine IsS91.far ?_ NB175_179.out _) | exact HI175.out))) : g175 ≠ gb189)); have n13_ := Aside0.mk ((by rw [hg]; exact Nat.ne_of_gt (IsS91.lt (show IsS91 w _ g175 t187 t188 from by repeat (first | (with_reducible first | exact HI175.out | apply IsS91.alloc | apply IsS91.drewN | apply IsS91.drew | apply IsS91.set_1 | refine IsS91.far ?_ NB175_172.out _ | refine IsS91.far ?_ NB175_179.out _) | exact HI175.out))) : gb189 ≠ g175)); clear HO_180001; clear BK172; clear BK179; clear HI175; clear HB; have HO_180001 := n0_; have BK172 := n1_; have BK179 := n2_; have HI175 := n3_; have HB := n4_; have BK189 := n5_; have GW189 := n6_; have GE189 := n7_; have NB172_189 := n8_; have NB189_172 := n9_; have NB179_189 := n10_; have NB189_179 := n11_; have NB175_189 := n12_; have NB189_175 := n13_; clear n0_ n1_ n2_ n3_ n4_ n5_ n6_ n7_ n8_ n9_ n10_ n11_ n12_ n13_; clear hb hbox hg; have hnb41 := NB189_172.out; have hnc41 := NB172_189.out; have hnb42 := NB189_179.out; have hnc42 := NB179_189.out; have hnb43 := NB189_175.out; have hnc43 := NB175_189.out; have hcz44_0 : w40.cell? ⟨gb189, 0, none⟩ = some (.string (⟨#[]⟩ : ByteArray)) := (blk_cell BK189.out 0).trans rfl; have hcz44_1 : w40.cell? ⟨gb189, 1, none⟩ = some (.string (⟨#[]⟩ : ByteArray)) := (blk_cell BK189.out 1).trans rfl; have hcz44_2 : w40.cell? ⟨gb189, 2, none⟩ = some (.int .i64 0) := (blk_cell BK189.out 2).trans rfl; have hfz44_0 := blk_frozen BK189.out 0; have hfz44_1 := blk_frozen BK189.out 1; have hfz44_2 := blk_frozen BK189.out 2; have hnb45 := NB179_172.out; have hnc45 := NB172_179.out; have hnb46 := NB179_175.out; have hnc46 := NB175_179.out; have hcz47_0 : w40.cell? ⟨gb179, 0, none⟩ = some (.bool (t176 == 1)) := (blk_cell BK179.out 0).trans rfl; have hcz47_1 : w40.cell? ⟨gb179, 1, none⟩ = some (u180001) := (blk_cell BK179.out 1).trans rfl; have hfz47_0 := blk_frozen BK179.out 0; have hfz47_1 := blk_frozen BK179.out 1) | ((with_reducible refine gate_callee (f := 45) rfl ?_); refine goesL_ (some 38) rfl rfl Try.func45 (by kernel_rfl) rfl #[.pointer (some ⟨g175, 0, none⟩), .int .i64 4] rfl (by (try simp only [List.map_toArray, List.map_cons, List.map_nil]); first | done | rfl | (simp only [List.length_drop, List.length_take]; rfl)) ?_; (with_reducible refine (octs_In_Int.calls kj12 g175 t187 t188 4 t196 t197 t198 w _ ?side1 ?side2 A37.out).mono ?_); (case side1 => repeat (first | (with_reducible first | exact HI175.out | apply IsS91.alloc | apply IsS91.drewN | apply IsS91.drew | apply IsS91.set_1 | refine IsS91.far ?_ NB175_172.out _ | refine IsS91.far ?_ NB175_179.out _ | refine IsS91.far ?_ NB175_189.out _) | exact HI175.out)); (case side2 => repeat (first | (with_reducible first | exact HB.out | apply below_alloc | apply pw_below_drewN | apply below_drew1 | refine below_set ?_ (IsS91.ge HI175.out) | refine below_set ?_ GE172.out | refine below_set ?_ GE179.out | refine below_set ?_ GE189.out) | exact HB.out)); rintro e w48 ⟨rfl, hi, hb, hk⟩; refine ⟨_, rfl, ?_⟩; have n0_ := Aside0.mk (Kd.R_mono (Kd.R_keep (IsS91.apart (show IsS91 w _ g175 t187 t188 from by repeat (first | (with_reducible first | exact HI175.out | apply IsS91.alloc | apply IsS91.drewN | apply IsS91.drew | apply IsS91.set_1 | refine IsS91.far ?_ NB175_172.out _ | refine IsS91.far ?_ NB175_179.out _ | refine IsS91.far ?_ NB175_189.out _) | exact HI175.out)) (by exact (Kd.R_mono (Kd.R_far (p := ⟨gb189, 2, none⟩) (Kd.R_far (p := ⟨gb189, 1, none⟩) (Kd.R_far (p := ⟨gb189, 0, none⟩) (Kd.R_mono HO_180001.out (fun k_ hk => (⟨hk, hk.2⟩ : _ ∧ k_ ≠ gb189))) (fun _ hk => hk.2) (.string t186)) (fun _ hk => hk.2) (.string (⟨#[]⟩ : ByteArray))) (fun _ hk => hk.2) (.int .i64 0)) (fun _ h_ => h_.1))) (by decide)) hk (fun _ h => h.2)) (fun _ h => h.1)); have n1_ := Aside0.mk (KeepBut.blk hk (g' := gb172) (o := .cells #[.bool false, .slice none 0 0] 44 (0, 0)) (by refine blk_far ?_ NB172_189.out _; refine blk_far ?_ NB172_189.out _; refine blk_far ?_ NB172_189.out _; exact BK172.out) NB172_175.out (by simp)); have n2_ := Aside0.mk (KeepBut.blk hk (g' := gb179) (o := .cells #[.bool (t176 == 1), u180001] 44 (0, 0)) (by refine blk_far ?_ NB179_189.out _; refine blk_far ?_ NB179_189.out _; refine blk_far ?_ NB179_189.out _; exact BK179.out) NB179_175.out (by simp)); have n3_ := Aside0.mk (KeepBut.blk hk (g' := gb189) (o := .cells #[.string t186, .string (⟨#[]⟩ : ByteArray), .int .i64 0] 41 (0, 0)) (by refine blk_put (cs := #[.string t186, .string (⟨#[]⟩ : ByteArray), .int .i64 0]) ?_ 2 _ rfl; refine blk_put (cs := #[.string t186, .string (⟨#[]⟩ : ByteArray), .int .i64 0]) ?_ 1 _ rfl; refine blk_put (cs := #[.string (⟨#[]⟩ : ByteArray), .string (⟨#[]⟩ : ByteArray), .int .i64 0]) ?_ 0 _ rfl; exact BK189.out) NB189_175.out (by simp)); have n4_ := Aside0.mk (hb); have n5_ := Aside0.mk (hi); clear HO_180001; clear BK172; clear BK179; clear BK189; clear HB; clear HI175; have HO_180001 := n0_; have BK172 := n1_; have BK179 := n2_; have BK189 := n3_; have HB := n4_; have HI175 := n5_; clear n0_ n1_ n2_ n3_ n4_ n5_; (try clear hb); (try clear hb2); (try clear hk); (try clear hi); (try clear hge); have hcz49_0 : w48.cell? ⟨gb189, 0, none⟩ = some (.string t186) := (blk_cell BK189.out 0).trans rfl; have hcz49_1 : w48.cell? ⟨gb189, 1, none⟩ = some (.string (⟨#[]⟩ : ByteArray)) := (blk_cell BK189.out 1).trans rfl; have hcz49_2 : w48.cell? ⟨gb189, 2, none⟩ = some (.int .i64 0) := (blk_cell BK189.out 2).trans rfl; have hfz49_0 := blk_frozen BK189.out 0; have hfz49_1 := blk_frozen BK189.out 1; have hfz49_2 := blk_frozen BK189.out 2; have hcz50_0 : w48.cell? ⟨gb179, 0, none⟩ = some (.bool (t176 == 1)) := (blk_cell BK179.out 0).trans rfl; have hcz50_1 : w48.cell? ⟨gb179, 1, none⟩ = some (u180001) := (blk_cell BK179.out 1).trans rfl; have hfz50_0 := blk_frozen BK179.out 0; have hfz50_1 := blk_frozen BK179.out 1) | ((with_reducible refine gate_builtin (b := .append) (xs := #[.tmp 42, .tmp 44]) rfl ?_); at_builtin; refine Kd.R_append k41 (w0 := w) w.heap.size rfl (.tmp 42) (.tmp 44) 42 41 (.agg #[(.string ⟨#[]⟩), (.string ⟨#[]⟩), (.int .i64 0)]) 40 rfl Try.underlying42 info41 rfl (by decide) (by omega) u180001 x180001_1 (⟨t186, (⟨#[]⟩ : ByteArray), wrap64 (t196)⟩ : S41) [.string t186, .string (⟨#[]⟩ : ByteArray), .int .i64 (wrap64 (t196))] (fun k_ => k_ ≠ gb189) (fun _ => False) rfl (by first | (go_simp; done) | (go_simp; rfl)) ?aP (fun _ hk => hk.elim) ?aF ?aO ?aB ?aS ?aL ?_; (case aP => exact k41_mkM _ _ _ (⟨t186, (⟨#[]⟩ : ByteArray), wrap64 (t196)⟩ : S41)); (case aB => exact (by repeat (first | (with_reducible first | exact HB.out | apply below_alloc | apply pw_below_drewN | apply below_drew1 | refine below_set ?_ (IsS91.ge HI175.out) | refine below_set ?_ GE172.out | refine below_set ?_ GE179.out | refine below_set ?_ GE189.out) | exact HB.out))); (case aF => exact (fun k_ hk => Kd.freshB (g := gb189) (o := .cells #[.string t186, .string (⟨#[]⟩ : ByteArray), .int .i64 (wrap64 (t196))] 41 (0, 0)) (by refine blk_put (cs := #[.string t186, .string (⟨#[]⟩ : ByteArray), .int .i64 0]) ?_ 2 _ rfl; exact BK189.out) k_ hk)); (case aO => exact (by exact Kd.R_mono (Kd.R_far (p := ⟨gb189, 2, none⟩) (Kd.R_mono HO_180001.out (fun k_ hk => (⟨hk, hk.2⟩ : _ ∧ k_ ≠ gb189))) (fun _ hk => hk.2) (.int .i64 (wrap64 (t196)))) (fun _ hk => hk.1.2))); (case aS => exact (below_size (by repeat (first | (with_reducible first | exact HB.out | apply below_alloc | apply pw_below_drewN | apply below_drew1 | refine below_set ?_ (IsS91.ge HI175.out) | refine below_set ?_ GE172.out | refine below_set ?_ GE179.out | refine below_set ?_ GE189.out) | exact HB.out)))); (case aL => have := LMc38.out; omega); intro v200 w51 ho hb hg hat; rw [← Ny199.out] at ho; have n0_ := Aside0.mk (blk_grown (g := gb172) (o := .cells #[.bool false, .slice none 0 0] 44 (0, 0)) (by refine blk_far ?_ NB172_189.out _; exact BK172.out) hg (Kd.R_ne HO_180001.out BK172.out (by decide))); have n1_ := Aside0.mk (blk_grown (g := gb179) (o := .cells #[.bool (t176 == 1), u180001] 44 (0, 0)) (by refine blk_far ?_ NB179_189.out _; exact BK179.out) hg (Kd.R_ne HO_180001.out BK179.out (by decide))); have n2_ := Aside0.mk (IsS91.grown (by first | exact IsS91.far (p := ⟨gb189, 2, none⟩) HI175.out NB175_189.out _ | (repeat (first | (with_reducible first | exact HI175.out | apply IsS91.alloc | apply IsS91.drewN | apply IsS91.drew | apply IsS91.set_1 | refine IsS91.far ?_ NB175_172.out _ | refine IsS91.far ?_ NB175_179.out _ | refine IsS91.far ?_ NB175_189.out _) | exact HI175.out))) hg (IsS91.own_ne HI175.out HO_180001.out (by decide))); have n3_ := Aside0.mk (blk_grown (g := gb189) (o := .cells #[.string t186, .string (⟨#[]⟩ : ByteArray), .int .i64 (wrap64 (t196))] 41 (0, 0)) (by refine blk_put (cs := #[.string t186, .string (⟨#[]⟩ : ByteArray), .int .i64 0]) ?_ 2 _ rfl; exact BK189.out) hg (Kd.R_away HO_180001.out (fun _ hk => hk.2))); have n4_ := Aside0.mk (hb); have n5_ := Aside0.mk (ho); clear BK172; clear BK179; clear HI175; clear BK189; clear HB; clear HO_180001; have BK172 := n0_; have BK179 := n1_; have HI175 := n2_; have BK189 := n3_; have HB := n4_; have HO201 := n5_; clear n0_ n1_ n2_ n3_ n4_ n5_; clear ho hb hg hat; obtain ⟨Ao52, co52, eo52⟩ := Kd.R_slice HO201.out; subst eo52; have hcz53_0 : w51.cell? ⟨gb179, 0, none⟩ = some (.bool (t176 == 1)) := (blk_cell BK179.out 0).trans rfl; have hcz53_1 : w51.cell? ⟨gb179, 1, none⟩ = some (u180001) := (blk_cell BK179.out 1).trans rfl; have hfz53_0 := blk_frozen BK179.out 0; have hfz53_1 := blk_frozen BK179.out 1))
                refine Handed.intro kj12 ?measure ?_
                rotate_left
                go_step
                (repeat apply Exists.intro)
                refine ⟨?rel, ?fr⟩
                case fr => first | rfl | (rw [c19b0]; first | done | rfl)
                case measure => have := HK1.out; have := HJ12.out; omega
                case rel => exact ⟨(IntKind.u64.wrap (x7_1 - 1)), (t197), (t198), (y199), (.slice Ao52 y199.length co52), (by first | rfl | (simp; done) | (simp [*]; done)), H', ⟨by have := HK1.out; have := HJ12.out; omega⟩, ⟨by exact Kd.R_mono (Kd.R_far (p := ⟨gb179, 1, none⟩) (Kd.R_types HO201.out BK179.out (by decide)) (fun _ hk => hk.2) (.slice Ao52 y199.length co52)) (fun _ hk => trivial)⟩, ⟨by refine blk_far ?_ NB172_179.out _; exact BK172.out⟩, ⟨by refine blk_put (cs := #[.bool (t176 == 1), u180001]) ?_ 1 _ rfl; exact BK179.out⟩, ⟨by repeat (first | (with_reducible first | exact HI175.out | apply IsS91.alloc | apply IsS91.drewN | apply IsS91.drew | apply IsS91.set_1 | refine IsS91.far ?_ NB175_172.out _ | refine IsS91.far ?_ NB175_179.out _ | refine IsS91.far ?_ NB175_189.out _) | exact HI175.out)⟩, ⟨by repeat (first | (with_reducible first | exact HB.out | apply below_alloc | apply pw_below_drewN | apply below_drew1 | refine below_set ?_ (IsS91.ge HI175.out) | refine below_set ?_ GE172.out | refine below_set ?_ GE179.out | refine below_set ?_ GE189.out) | exact HB.out)⟩⟩
              · rw [if_neg c38] at H
                exact absurd H (by simp)
          · replace c17 := Bool.eq_false_iff.mpr c17
            subst c17
            have H1 : ((octs_In_Ok.f x176000_12 x176001_12).bind fun bt202 => (if bt202.1 = true then (if t176 = 1 then (node_Parse.j2 kj12 true bt202.2.1 bt202.2.2 (t176 == 1) x180001_1) else (node_Parse.j2 kj12 (t176 == 2) bt202.2.1 bt202.2.2 (t176 == 1) x180001_1)) else (node_Parse.j2 kj12 false bt202.2.1 bt202.2.2 (t176 == 1) x180001_1))) = some (r1, r2, r3) := by rw [if_neg (show ¬ (false = true) by decide)] at H; exact H
            clear H
            have H := H1
            clear H1
            have HC54 := Aside0.mk H
            clear H
            go_upto_region 12 with (fail)
            go_cut [9] (fun v9 wc => ∃ (kq : Nat) (x9_53 : Bool) (x176000_53 : List Int) (x176001_53 : Bool), v9 = .bool x9_53 ∧ Aside0 (node_Parse.j2 kq x9_53 x176000_53 x176001_53 (t176 == 1) x180001_1 = some (r1, r2, r3)) ∧ Aside0 (kq ≤ kj12) ∧ Aside0 (Kd.R k41 41 wc w.heap.size (fun _ => True) u180001 x180001_1) ∧ Aside0 (wc.heap[gb172]? = some (.cells #[.bool false, (.slice none 0 0)] 44 (0, 0))) ∧ Aside0 (wc.heap[gb179]? = some (.cells #[.bool (t176 == 1), u180001] 44 (0, 0))) ∧ Aside0 (IsS91 w wc g175 x176000_53 x176001_53) ∧ Aside0 (Below w.heap.size w wc))
            case first =>
              have H := HC54.out
              clear HC54
              replace H := Option.bind_eq_some_iff.mp H
              obtain ⟨⟨t202, t203, t204⟩, A550, H⟩ := H
              replace H : (if t202 = true then (if t176 = 1 then (node_Parse.j2 kj12 true t203 t204 (t176 == 1) x180001_1) else (node_Parse.j2 kj12 (t176 == 2) t203 t204 (t176 == 1) x180001_1)) else (node_Parse.j2 kj12 false t203 t204 (t176 == 1) x180001_1)) = some (r1, r2, r3) := H
              have A55 := Aside0.mk A550
              clear A550
              by_cases c56 : t202 = true
              · subst c56
                have H1 : (if t176 = 1 then (node_Parse.j2 kj12 true t203 t204 (t176 == 1) x180001_1) else (node_Parse.j2 kj12 (t176 == 2) t203 t204 (t176 == 1) x180001_1)) = some (r1, r2, r3) := by rw [if_pos rfl] at H; exact H
                clear H
                have H := H1
                clear H1
                by_cases c57 : t176 = 1
                · rw [if_pos c57] at H
                  have c57b0 : (t176 == 1) = true := beq_iff_eq.mpr c57
                  have c57b1 : (t176 != 1) = false := bne_eq_false_iff_eq.mpr c57
                  (try rw [c57b0] at H)
                  (try rw [c57b0] at BK172)
                  (try rw [c57b0] at BK179)
                  (try rw [c57b0] at BK189)
                  clear c57
                  (first | rw [c57b0] | rw [c57b2] | rw [c57b1] | (simp only [i64_w, i32_w]; rw [c57b0]) | skip)
                  have H' := Aside0.mk H
                  clear H
                  go_wp2_with (first | ((with_reducible refine gate_callee (f := 46) rfl ?_); refine goesL_ (some 48) rfl rfl Try.func46 (by kernel_rfl) rfl #[.pointer (some ⟨g175, 0, none⟩)] rfl (by (try simp only [List.map_toArray, List.map_cons, List.map_nil]); first | done | rfl | (simp only [List.length_drop, List.length_take]; rfl)) ?_; (with_reducible refine (octs_In_Ok.calls g175 x176000_12 x176001_12 true t203 t204 w _ ?side1 ?side2 A55.out).mono ?_); (case side1 => repeat (first | (with_reducible first | exact HI175.out | apply IsS91.alloc | apply IsS91.drewN | apply IsS91.drew | apply IsS91.set_1 | refine IsS91.far ?_ NB175_172.out _ | refine IsS91.far ?_ NB175_179.out _) | exact HI175.out)); (case side2 => repeat (first | (with_reducible first | exact HB.out | apply below_alloc | apply pw_below_drewN | apply below_drew1 | refine below_set ?_ (IsS91.ge HI175.out) | refine below_set ?_ GE172.out | refine below_set ?_ GE179.out) | exact HB.out)); rintro e w58 ⟨rfl, hi, hb, hk⟩; refine ⟨_, rfl, ?_⟩; have n0_ := Aside0.mk (Kd.R_mono (Kd.R_keep (IsS91.apart (show IsS91 w _ g175 x176000_12 x176001_12 from by repeat (first | (with_reducible first | exact HI175.out | apply IsS91.alloc | apply IsS91.drewN | apply IsS91.drew | apply IsS91.set_1 | refine IsS91.far ?_ NB175_172.out _ | refine IsS91.far ?_ NB175_179.out _) | exact HI175.out)) (by exact HO_180001.out) (by decide)) hk (fun _ h => h.2)) (fun _ h => h.1)); have n1_ := Aside0.mk (KeepBut.blk hk (g' := gb172) (o := .cells #[.bool false, .slice none 0 0] 44 (0, 0)) (by exact BK172.out) NB172_175.out (by simp)); have n2_ := Aside0.mk (KeepBut.blk hk (g' := gb179) (o := .cells #[.bool true, u180001] 44 (0, 0)) (by exact BK179.out) NB179_175.out (by simp)); have n3_ := Aside0.mk (hb); have n4_ := Aside0.mk (hi); clear HO_180001; clear BK172; clear BK179; clear HB; clear HI175; have HO_180001 := n0_; have BK172 := n1_; have BK179 := n2_; have HB := n3_; have HI175 := n4_; clear n0_ n1_ n2_ n3_ n4_; (try clear hb); (try clear hb2); (try clear hk); (try clear hi); (try clear hge)))
                  go_meet
                  case rel => (try rw [c57b0]); exact ⟨_, (true), (t203), (t204), (by first | rfl | (simp; done) | (simp [*]; done)), H', ⟨by have := HK1.out; have := HJ12.out; first | omega | exact Nat.le_refl _⟩, ⟨by exact HO_180001.out⟩, ⟨by exact BK172.out⟩, ⟨by exact BK179.out⟩, ⟨by repeat (first | (with_reducible first | exact HI175.out | apply IsS91.alloc | apply IsS91.drewN | apply IsS91.drew | apply IsS91.set_1 | refine IsS91.far ?_ NB175_172.out _ | refine IsS91.far ?_ NB175_179.out _) | exact HI175.out)⟩, ⟨by repeat (first | (with_reducible first | exact HB.out | apply below_alloc | apply pw_below_drewN | apply below_drew1 | refine below_set ?_ (IsS91.ge HI175.out) | refine below_set ?_ GE172.out | refine below_set ?_ GE179.out) | exact HB.out)⟩⟩
                · rw [if_neg c57] at H
                  have c57b0 : (t176 == 1) = false := beq_eq_false_iff_ne.mpr c57
                  have c57b1 : (t176 != 1) = true := bne_iff_ne.mpr c57
                  (try rw [c57b0] at H)
                  (try rw [c57b0] at BK172)
                  (try rw [c57b0] at BK179)
                  (try rw [c57b0] at BK189)
                  (first | rw [c57b0] | rw [c57b2] | rw [c57b1] | (simp only [i64_w, i32_w]; rw [c57b0]) | skip)
                  have H' := Aside0.mk H
                  clear H
                  go_wp2_with (first | ((with_reducible refine gate_callee (f := 46) rfl ?_); refine goesL_ (some 48) rfl rfl Try.func46 (by kernel_rfl) rfl #[.pointer (some ⟨g175, 0, none⟩)] rfl (by (try simp only [List.map_toArray, List.map_cons, List.map_nil]); first | done | rfl | (simp only [List.length_drop, List.length_take]; rfl)) ?_; (with_reducible refine (octs_In_Ok.calls g175 x176000_12 x176001_12 true t203 t204 w _ ?side1 ?side2 A55.out).mono ?_); (case side1 => repeat (first | (with_reducible first | exact HI175.out | apply IsS91.alloc | apply IsS91.drewN | apply IsS91.drew | apply IsS91.set_1 | refine IsS91.far ?_ NB175_172.out _ | refine IsS91.far ?_ NB175_179.out _) | exact HI175.out)); (case side2 => repeat (first | (with_reducible first | exact HB.out | apply below_alloc | apply pw_below_drewN | apply below_drew1 | refine below_set ?_ (IsS91.ge HI175.out) | refine below_set ?_ GE172.out | refine below_set ?_ GE179.out) | exact HB.out)); rintro e w59 ⟨rfl, hi, hb, hk⟩; refine ⟨_, rfl, ?_⟩; have n0_ := Aside0.mk (Kd.R_mono (Kd.R_keep (IsS91.apart (show IsS91 w _ g175 x176000_12 x176001_12 from by repeat (first | (with_reducible first | exact HI175.out | apply IsS91.alloc | apply IsS91.drewN | apply IsS91.drew | apply IsS91.set_1 | refine IsS91.far ?_ NB175_172.out _ | refine IsS91.far ?_ NB175_179.out _) | exact HI175.out)) (by exact HO_180001.out) (by decide)) hk (fun _ h => h.2)) (fun _ h => h.1)); have n1_ := Aside0.mk (KeepBut.blk hk (g' := gb172) (o := .cells #[.bool false, .slice none 0 0] 44 (0, 0)) (by exact BK172.out) NB172_175.out (by simp)); have n2_ := Aside0.mk (KeepBut.blk hk (g' := gb179) (o := .cells #[.bool false, u180001] 44 (0, 0)) (by exact BK179.out) NB179_175.out (by simp)); have n3_ := Aside0.mk (hb); have n4_ := Aside0.mk (hi); clear HO_180001; clear BK172; clear BK179; clear HB; clear HI175; have HO_180001 := n0_; have BK172 := n1_; have BK179 := n2_; have HB := n3_; have HI175 := n4_; clear n0_ n1_ n2_ n3_ n4_; (try clear hb); (try clear hb2); (try clear hk); (try clear hi); (try clear hge)))
                  go_meet
                  case rel => (try rw [c57b0]); exact ⟨_, ((t176 == 2)), (t203), (t204), (by first | rfl | (simp; done) | (simp [*]; done)), H', ⟨by have := HK1.out; have := HJ12.out; first | omega | exact Nat.le_refl _⟩, ⟨by exact HO_180001.out⟩, ⟨by exact BK172.out⟩, ⟨by exact BK179.out⟩, ⟨by repeat (first | (with_reducible first | exact HI175.out | apply IsS91.alloc | apply IsS91.drewN | apply IsS91.drew | apply IsS91.set_1 | refine IsS91.far ?_ NB175_172.out _ | refine IsS91.far ?_ NB175_179.out _) | exact HI175.out)⟩, ⟨by repeat (first | (with_reducible first | exact HB.out | apply below_alloc | apply pw_below_drewN | apply below_drew1 | refine below_set ?_ (IsS91.ge HI175.out) | refine below_set ?_ GE172.out | refine below_set ?_ GE179.out) | exact HB.out)⟩⟩
              · replace c56 := Bool.eq_false_iff.mpr c56
                subst c56
                have H1 : (node_Parse.j2 kj12 false t203 t204 (t176 == 1) x180001_1) = some (r1, r2, r3) := by rw [if_neg (show ¬ (false = true) by decide)] at H; exact H
                clear H
                have H := H1
                clear H1
                have H' := Aside0.mk H
                clear H
                go_wp2_with (first | ((with_reducible refine gate_callee (f := 46) rfl ?_); refine goesL_ (some 48) rfl rfl Try.func46 (by kernel_rfl) rfl #[.pointer (some ⟨g175, 0, none⟩)] rfl (by (try simp only [List.map_toArray, List.map_cons, List.map_nil]); first | done | rfl | (simp only [List.length_drop, List.length_take]; rfl)) ?_; (with_reducible refine (octs_In_Ok.calls g175 x176000_12 x176001_12 false t203 t204 w _ ?side1 ?side2 A55.out).mono ?_); (case side1 => repeat (first | (with_reducible first | exact HI175.out | apply IsS91.alloc | apply IsS91.drewN | apply IsS91.drew | apply IsS91.set_1 | refine IsS91.far ?_ NB175_172.out _ | refine IsS91.far ?_ NB175_179.out _) | exact HI175.out)); (case side2 => repeat (first | (with_reducible first | exact HB.out | apply below_alloc | apply pw_below_drewN | apply below_drew1 | refine below_set ?_ (IsS91.ge HI175.out) | refine below_set ?_ GE172.out | refine below_set ?_ GE179.out) | exact HB.out)); rintro e w60 ⟨rfl, hi, hb, hk⟩; refine ⟨_, rfl, ?_⟩; have n0_ := Aside0.mk (Kd.R_mono (Kd.R_keep (IsS91.apart (show IsS91 w _ g175 x176000_12 x176001_12 from by repeat (first | (with_reducible first | exact HI175.out | apply IsS91.alloc | apply IsS91.drewN | apply IsS91.drew | apply IsS91.set_1 | refine IsS91.far ?_ NB175_172.out _ | refine IsS91.far ?_ NB175_179.out _) | exact HI175.out)) (by exact HO_180001.out) (by decide)) hk (fun _ h => h.2)) (fun _ h => h.1)); have n1_ := Aside0.mk (KeepBut.blk hk (g' := gb172) (o := .cells #[.bool false, .slice none 0 0] 44 (0, 0)) (by exact BK172.out) NB172_175.out (by simp)); have n2_ := Aside0.mk (KeepBut.blk hk (g' := gb179) (o := .cells #[.bool (t176 == 1), u180001] 44 (0, 0)) (by exact BK179.out) NB179_175.out (by simp)); have n3_ := Aside0.mk (hb); have n4_ := Aside0.mk (hi); clear HO_180001; clear BK172; clear BK179; clear HB; clear HI175; have HO_180001 := n0_; have BK172 := n1_; have BK179 := n2_; have HB := n3_; have HI175 := n4_; clear n0_ n1_ n2_ n3_ n4_; (try clear hb); (try clear hb2); (try clear hk); (try clear hi); (try clear hge)))
                go_meet
                case rel => exact ⟨_, (false), (t203), (t204), (by first | rfl | (simp; done) | (simp [*]; done)), H', ⟨by have := HK1.out; have := HJ12.out; first | omega | exact Nat.le_refl _⟩, ⟨by exact HO_180001.out⟩, ⟨by exact BK172.out⟩, ⟨by exact BK179.out⟩, ⟨by repeat (first | (with_reducible first | exact HI175.out | apply IsS91.alloc | apply IsS91.drewN | apply IsS91.drew | apply IsS91.set_1 | refine IsS91.far ?_ NB175_172.out _ | refine IsS91.far ?_ NB175_179.out _) | exact HI175.out)⟩, ⟨by repeat (first | (with_reducible first | exact HB.out | apply below_alloc | apply pw_below_drewN | apply below_drew1 | refine below_set ?_ (IsS91.ge HI175.out) | refine below_set ?_ GE172.out | refine below_set ?_ GE179.out) | exact HB.out)⟩⟩
            case rest =>
              clear HC54
              try clear c1
              try clear c2
              try clear p2
              try clear c3
              try clear c4
              try clear c5
              try clear p6
              try clear c9
              try clear c10
              try clear c14
              try clear c14b0
              try clear c17
              try clear c19
              try clear c19b0
              try clear c19b1
              try clear c19b2
              try clear c21
              try clear c24
              try clear c25
              try clear c26
              try clear c27
              try clear c28
              try clear c29
              try clear c38
              try clear c41
              try clear c42
              try clear c43
              try clear c44
              try clear c45
              try clear c46
              try clear c47
              try clear c56
              try clear c57
              try clear c57b0
              try clear c57b1
              try clear hcz11_0
              try clear hcz11_1
              try clear hcz27_0
              try clear hcz27_1
              try clear hcz27_2
              try clear hcz30_0
              try clear hcz30_1
              try clear hcz32_0
              try clear hcz32_1
              try clear hcz32_2
              try clear hcz33_0
              try clear hcz33_1
              try clear hcz36_0
              try clear hcz36_1
              try clear hcz44_0
              try clear hcz44_1
              try clear hcz44_2
              try clear hcz47_0
              try clear hcz47_1
              try clear hcz49_0
              try clear hcz49_1
              try clear hcz49_2
              try clear hcz50_0
              try clear hcz50_1
              try clear hcz53_0
              try clear hcz53_1
              try clear hfz11_0
              try clear hfz11_1
              try clear hfz27_0
              try clear hfz27_1
              try clear hfz27_2
              try clear hfz30_0
              try clear hfz30_1
              try clear hfz32_0
              try clear hfz32_1
              try clear hfz32_2
              try clear hfz33_0
              try clear hfz33_1
              try clear hfz36_0
              try clear hfz36_1
              try clear hfz44_0
              try clear hfz44_1
              try clear hfz44_2
              try clear hfz47_0
              try clear hfz47_1
              try clear hfz49_0
              try clear hfz49_1
              try clear hfz49_2
              try clear hfz50_0
              try clear hfz50_1
              try clear hfz53_0
              try clear hfz53_1
              try clear p2
              obtain ⟨kq, x9_53, x176000_53, x176001_53, rfl, HA, HJ53, HO_180001, BK172, BK179, HI175, HB⟩ := hcut
              cases kq with
              | zero => exact absurd HA.out (by simp [node_Parse.j2])
              | succ kj53 =>
                have H := HA.out
                clear HA
                simp only [node_Parse.j2] at H
                replace H := Option.bind_eq_some_iff.mp H
                obtain ⟨⟨t205, t208, t209⟩, A610, H⟩ := H
                replace H : (node_Parse.l1 kj53 x9_53 t205 (t205.length : Int) 0 (t176 == 1) x180001_1) = some (r1, r2, r3) := H
                have A61 := Aside0.mk A610
                clear A610
                have H' := Aside0.mk H
                clear H
                go_wp2_with (first | ((with_reducible refine gate_callee (f := 48) rfl ?_); refine goesL_ (some 58) rfl rfl Try.func48 (by kernel_rfl) rfl #[.pointer (some ⟨g175, 0, none⟩)] rfl (by (try simp only [List.map_toArray, List.map_cons, List.map_nil]); first | done | rfl | (simp only [List.length_drop, List.length_take]; rfl)) ?_; (with_reducible refine (octs_In_Rest.calls g175 x176000_53 x176001_53 t205 t208 t209 w _ ?side1 ?side2 A61.out).mono ?_); (case side1 => repeat (first | (with_reducible first | exact HI175.out | apply IsS91.alloc | apply IsS91.drewN | apply IsS91.drew | apply IsS91.set_1 | refine IsS91.far ?_ NB175_172.out _ | refine IsS91.far ?_ NB175_179.out _) | exact HI175.out)); (case side2 => repeat (first | (with_reducible first | exact HB.out | apply below_alloc | apply pw_below_drewN | apply below_drew1 | refine below_set ?_ (IsS91.ge HI175.out) | refine below_set ?_ GE172.out | refine below_set ?_ GE179.out) | exact HB.out)); rintro e w62 ⟨v206, rfl, ho0, hi, hb, hk⟩; refine ⟨_, rfl, ?_⟩; have n0_ := Aside0.mk (Kd.R_mono (Kd.R_keep (IsS91.apart (show IsS91 w _ g175 x176000_53 x176001_53 from by repeat (first | (with_reducible first | exact HI175.out | apply IsS91.alloc | apply IsS91.drewN | apply IsS91.drew | apply IsS91.set_1 | refine IsS91.far ?_ NB175_172.out _ | refine IsS91.far ?_ NB175_179.out _) | exact HI175.out)) (by exact HO_180001.out) (by decide)) hk (fun _ h => h.2)) (fun _ h => h.1)); have n1_ := Aside0.mk (KeepBut.blk hk (g' := gb172) (o := .cells #[.bool false, .slice none 0 0] 44 (0, 0)) (by exact BK172.out) NB172_175.out (by simp)); have n2_ := Aside0.mk (KeepBut.blk hk (g' := gb179) (o := .cells #[.bool (t176 == 1), u180001] 44 (0, 0)) (by exact BK179.out) NB179_175.out (by simp)); have n3_ := Aside0.mk (Kd.R_lower ho0 (below_size (by repeat (first | (with_reducible first | exact HB.out | apply below_alloc | apply pw_below_drewN | apply below_drew1 | refine below_set ?_ (IsS91.ge HI175.out) | refine below_set ?_ GE172.out | refine below_set ?_ GE179.out) | exact HB.out)))); have n4_ := Aside0.mk (hb); have n5_ := Aside0.mk (hi); clear HO_180001; clear BK172; clear BK179; clear HB; clear HI175; have HO_180001 := n0_; have BK172 := n1_; have BK179 := n2_; have HO207 := n3_; have HB := n4_; have HI175 := n5_; clear n0_ n1_ n2_ n3_ n4_ n5_; (try clear hb); (try clear hb2); (try clear hk); (try clear hi); (try clear hge); (try clear ho0); obtain ⟨Ao63, co63, eo63⟩ := Kd.R_slice HO207.out; subst eo63))
                go_loopg [9, 60] kj53 (fun kq v9 v60 w' => ∃ (x9_4 : Bool) (x60_4 : Int), v9 = .bool x9_4 ∧ v60 = .int .i64 x60_4 ∧ Aside0 (node_Parse.l1 kq x9_4 t205 (t205.length : Int) x60_4 (t176 == 1) x180001_1 = some (r1, r2, r3)) ∧ Aside0 (kq ≤ kj53) ∧ Aside0 (Kd.R (Kd.int .u8) 5 w' w.heap.size (fun _ => True) (.slice Ao63 t205.length co63) t205) ∧ Aside0 (Kd.R k41 41 w' w.heap.size (fun _ => True) u180001 x180001_1) ∧ Aside0 (w'.heap[gb172]? = some (.cells #[.bool false, (.slice none 0 0)] 44 (0, 0))) ∧ Aside0 (w'.heap[gb179]? = some (.cells #[.bool (t176 == 1), u180001] 44 (0, 0))) ∧ Aside0 (Below w.heap.size w w'))
                case atStart => exact ⟨(x9_53), (0), (by first | rfl | (simp; done) | (simp [*]; done)), (by first | rfl | (simp; done) | (simp [*]; done)), H', ⟨Nat.le_refl _⟩, ⟨by exact HO207.out⟩, ⟨by exact HO_180001.out⟩, ⟨by exact BK172.out⟩, ⟨by exact BK179.out⟩, ⟨by repeat (first | (with_reducible first | exact HB.out | apply below_alloc | apply pw_below_drewN | apply below_drew1 | refine below_set ?_ (IsS91.ge HI175.out) | refine below_set ?_ GE172.out | refine below_set ?_ GE179.out) | exact HB.out)⟩⟩
                case round =>
                  clear H'
                  try clear c1
                  try clear c2
                  try clear p2
                  try clear c3
                  try clear c4
                  try clear c5
                  try clear p6
                  try clear c9
                  try clear c10
                  try clear c14
                  try clear c14b0
                  try clear c17
                  try clear c19
                  try clear c19b0
                  try clear c19b1
                  try clear c19b2
                  try clear c21
                  try clear c24
                  try clear c25
                  try clear c26
                  try clear c27
                  try clear c28
                  try clear c29
                  try clear c38
                  try clear c41
                  try clear c42
                  try clear c43
                  try clear c44
                  try clear c45
                  try clear c46
                  try clear c47
                  try clear c48
                  try clear c56
                  try clear c57
                  try clear c57b0
                  try clear c57b1
                  try clear hcz11_0
                  try clear hcz11_1
                  try clear hcz27_0
                  try clear hcz27_1
                  try clear hcz27_2
                  try clear hcz30_0
                  try clear hcz30_1
                  try clear hcz32_0
                  try clear hcz32_1
                  try clear hcz32_2
                  try clear hcz33_0
                  try clear hcz33_1
                  try clear hcz36_0
                  try clear hcz36_1
                  try clear hcz44_0
                  try clear hcz44_1
                  try clear hcz44_2
                  try clear hcz47_0
                  try clear hcz47_1
                  try clear hcz49_0
                  try clear hcz49_1
                  try clear hcz49_2
                  try clear hcz50_0
                  try clear hcz50_1
                  try clear hcz53_0
                  try clear hcz53_1
                  try clear hfz11_0
                  try clear hfz11_1
                  try clear hfz27_0
                  try clear hfz27_1
                  try clear hfz27_2
                  try clear hfz30_0
                  try clear hfz30_1
                  try clear hfz32_0
                  try clear hfz32_1
                  try clear hfz32_2
                  try clear hfz33_0
                  try clear hfz33_1
                  try clear hfz36_0
                  try clear hfz36_1
                  try clear hfz44_0
                  try clear hfz44_1
                  try clear hfz44_2
                  try clear hfz47_0
                  try clear hfz47_1
                  try clear hfz49_0
                  try clear hfz49_1
                  try clear hfz49_2
                  try clear hfz50_0
                  try clear hfz50_1
                  try clear hfz53_0
                  try clear hfz53_1
                  try clear p2
                  try clear p6
                  obtain ⟨x9_4, x60_4, rfl, rfl, HA, HK4, HO_58, HO_180001, BK172, BK179, HB⟩ := hrel
                  cases gk with
                  | zero => exact absurd HA.out (by simp [node_Parse.l1])
                  | succ k4 =>
                    have H := HA.out
                    clear HA
                    simp only [node_Parse.l1] at H
                    by_cases c64 : x60_4 < (t205.length : Int)
                    · rw [if_pos c64] at H
                      have c64b0 : decide (x60_4 < (t205.length : Int)) = true := decide_eq_true c64
                      clear c64
                      by_cases c65 : 0 ≤ x60_4
                      · rw [if_pos c65] at H
                        have c65b0 : decide (0 ≤ x60_4) = true := decide_eq_true c65
                        clear c65
                        by_cases c66 : x60_4 < (t205.length : Int)
                        · rw [if_pos c66] at H
                          have c66b0 : decide (x60_4 < (t205.length : Int)) = true := decide_eq_true c66
                          clear c66
                          by_cases c67 : x9_4 = true
                          · subst c67
                            have H1 : (node_Parse.l1 k4 ((rd t205 x60_4) == 0) t205 (t205.length : Int) (wrap64 (x60_4 + 1)) (t176 == 1) x180001_1) = some (r1, r2, r3) := by rw [if_pos rfl] at H; exact H
                            clear H
                            have H := H1
                            clear H1
                            have H' := Aside0.mk H
                            clear H
                            have p210 : 0 ≤ (x60_4 : Int) := of_decide_eq_true (by first | (with_reducible assumption) | assumption)
                            have q210 : x60_4 < (t205.length : Int) := of_decide_eq_true (by first | (with_reducible assumption) | assumption)
                            obtain ⟨ad210, e210, hx210_0⟩ := Kd.at_int (Kd.R_reads' HO_58.out).2.2 x60_4 p210 q210
                            cases e210
                            replace p210 := eq_true p210
                            replace q210 := eq_true q210
                            go_wp2
                            go_roundg k4
                            case measure => have := HK1.out; have := HJ12.out; have := HJ53.out; have := HK4.out; omega
                            case rel => exact ⟨(((rd t205 x60_4) == 0)), (wrap64 (x60_4 + 1)), (by first | rfl | (simp; done) | (simp [*]; done)), (by first | rfl | (simp; done) | (simp [*]; done)), H', ⟨by have := HK1.out; have := HJ12.out; have := HJ53.out; have := HK4.out; omega⟩, ⟨by exact HO_58.out⟩, ⟨by exact HO_180001.out⟩, ⟨by exact BK172.out⟩, ⟨by exact BK179.out⟩, ⟨by repeat (first | (with_reducible first | exact HB.out | apply below_alloc | apply pw_below_drewN | apply below_drew1 | refine below_set ?_ GE172.out | refine below_set ?_ GE179.out) | exact HB.out)⟩⟩
                          · replace c67 := Bool.eq_false_iff.mpr c67
                            subst c67
                            have H1 : (node_Parse.l1 k4 false t205 (t205.length : Int) (wrap64 (x60_4 + 1)) (t176 == 1) x180001_1) = some (r1, r2, r3) := by rw [if_neg (show ¬ (false = true) by decide)] at H; exact H
                            clear H
                            have H := H1
                            clear H1
                            have H' := Aside0.mk H
                            clear H
                            have p210 : 0 ≤ (x60_4 : Int) := of_decide_eq_true (by first | (with_reducible assumption) | assumption)
                            have q210 : x60_4 < (t205.length : Int) := of_decide_eq_true (by first | (with_reducible assumption) | assumption)
                            obtain ⟨ad210, e210, hx210_0⟩ := Kd.at_int (Kd.R_reads' HO_58.out).2.2 x60_4 p210 q210
                            cases e210
                            replace p210 := eq_true p210
                            replace q210 := eq_true q210
                            go_wp2
                            go_roundg k4
                            case measure => have := HK1.out; have := HJ12.out; have := HJ53.out; have := HK4.out; omega
                            case rel => exact ⟨(false), (wrap64 (x60_4 + 1)), (by first | rfl | (simp; done) | (simp [*]; done)), (by first | rfl | (simp; done) | (simp [*]; done)), H', ⟨by have := HK1.out; have := HJ12.out; have := HJ53.out; have := HK4.out; omega⟩, ⟨by exact HO_58.out⟩, ⟨by exact HO_180001.out⟩, ⟨by exact BK172.out⟩, ⟨by exact BK179.out⟩, ⟨by repeat (first | (with_reducible first | exact HB.out | apply below_alloc | apply pw_below_drewN | apply below_drew1 | refine below_set ?_ GE172.out | refine below_set ?_ GE179.out) | exact HB.out)⟩⟩
                        · rw [if_neg c66] at H
                          exact absurd H (by simp)
                      · rw [if_neg c65] at H
                        exact absurd H (by simp)
                    · rw [if_neg c64] at H
                      have c64b0 : decide (x60_4 < (t205.length : Int)) = false := decide_eq_false c64
                      clear c64
                      by_cases c68 : x9_4 = true
                      · subst c68
                        have H1 : ((node_Ok.f k4 (t176 == 1) x180001_1).bind fun t211 => (if t211 = true then (some ((t176 == 1), x180001_1, true)) else (some (false, ([] : List (S41)), false)))) = some (r1, r2, r3) := by rw [if_pos rfl] at H; exact H
                        clear H
                        have H := H1
                        clear H1
                        replace H := Option.bind_eq_some_iff.mp H
                        obtain ⟨t211, A690, H⟩ := H
                        replace H : (if t211 = true then (some ((t176 == 1), x180001_1, true)) else (some (false, ([] : List (S41)), false))) = some (r1, r2, r3) := H
                        have A69 := Aside0.mk A690
                        clear A690
                        by_cases c70 : t211 = true
                        · subst c70
                          have H1 : (some ((t176 == 1), x180001_1, true)) = some (r1, r2, r3) := by rw [if_pos rfl] at H; exact H
                          clear H
                          have H := H1
                          clear H1
                          simp only [Option.some.injEq, Prod.mk.injEq] at H
                          obtain ⟨rfl, rfl, rfl⟩ := H
                          have hnb71 := NB179_172.out
                          have hnc71 := NB172_179.out
                          have hcz72_0 : wr.cell? ⟨gb179, 0, none⟩ = some (.bool (t176 == 1)) := (blk_cell BK179.out 0).trans rfl
                          have hcz72_1 : wr.cell? ⟨gb179, 1, none⟩ = some (u180001) := (blk_cell BK179.out 1).trans rfl
                          have hfz72_0 := blk_frozen BK179.out 0
                          have hfz72_1 := blk_frozen BK179.out 1
                          obtain ⟨Ao73, co73, eo73⟩ := Kd.R_slice HO_180001.out
                          subst eo73
                          go_wp2_with (first | (go_at_call 20; (with_reducible refine (node_Ok.calls k4 (t176 == 1) _ _ x180001_1 true _ ?side1 ?side2 A69.out).mono ?_); (case side1 => repeat (first | exact (Kd.R_reads' HO_180001.out).2.2 | (with_reducible refine Kd.C_alloc ?_ _) | (with_reducible refine Kd.C_drewN ?_ _) | (with_reducible refine Kd.C_drew ?_))); (case side2 => exact (Kd.R_reads' HO_180001.out).2.1); rintro e w74 ⟨rfl, hb⟩; have n0_ := Aside0.mk (Kd.R_below (by exact HO_58.out) hb); have n1_ := Aside0.mk (Kd.R_below (by exact HO_180001.out) hb); have n2_ := Aside0.mk (blk_below (g := gb172) (o := .cells #[.bool false, .slice none 0 0] 44 (0, 0)) (by exact BK172.out) hb); have n3_ := Aside0.mk (blk_below (g := gb179) (o := .cells #[.bool (t176 == 1), .slice Ao73 x180001_1.length co73] 44 (0, 0)) (by exact BK179.out) hb); have n4_ := Aside0.mk (below_step (by repeat (first | (with_reducible first | exact HB.out | apply below_alloc | apply pw_below_drewN | apply below_drew1 | refine below_set ?_ GE172.out | refine below_set ?_ GE179.out) | exact HB.out)) hb); clear HO_58; clear HO_180001; clear BK172; clear BK179; clear HB; have HO_58 := n0_; have HO_180001 := n1_; have BK172 := n2_; have BK179 := n3_; have HB := n4_; clear n0_ n1_ n2_ n3_ n4_; (try clear hb); (try clear hb2); (try clear hk); (try clear hi); (try clear hge); have hcz75_0 : w74.cell? ⟨gb179, 0, none⟩ = some (.bool (t176 == 1)) := (blk_cell BK179.out 0).trans rfl; have hcz75_1 : w74.cell? ⟨gb179, 1, none⟩ = some (.slice Ao73 x180001_1.length co73) := (blk_cell BK179.out 1).trans rfl; have hfz75_0 := blk_frozen BK179.out 0; have hfz75_1 := blk_frozen BK179.out 1; have hcz76_0 : w74.cell? ⟨gb172, 0, none⟩ = some (.bool false) := (blk_cell BK172.out 0).trans rfl; have hcz76_1 : w74.cell? ⟨gb172, 1, none⟩ = some (.slice none 0 0) := (blk_cell BK172.out 1).trans rfl; have hfz76_0 := blk_frozen BK172.out 0; have hfz76_1 := blk_frozen BK172.out 1))
                          refine bodyPost_ret (results_ct rfl _ _ gb172 44 #[.bool (t176 == 1), .slice Ao73 x180001_1.length co73] (0, 0) _ rfl (by refine blk_put (cs := #[.bool (t176 == 1), .slice none 0 0]) ?_ 1 _ rfl; refine blk_put (cs := #[.bool false, .slice none 0 0]) ?_ 0 _ rfl; exact BK172.out) Try.underlying44 rfl (by kernel_rfl)) rfl ?_
                          exact ⟨_, by first | rfl | (simp [errW_none, errW_some]; done) | (simp [errW_none, errW_some]; rfl) | (simp [*, errW_none, errW_some]; done) | (simp [*, errW_none, errW_some]; rfl), by exact Kd.R_mono (Kd.R_far (p := ⟨gb172, 1, none⟩) (Kd.R_far (p := ⟨gb172, 0, none⟩) (Kd.R_types HO_180001.out BK172.out (by decide)) (fun _ hk => hk.2) (.bool (t176 == 1))) (fun _ hk => hk.2) (.slice Ao73 x180001_1.length co73)) (fun _ hk => trivial), by repeat (first | (with_reducible first | exact HB.out | apply below_alloc | apply pw_below_drewN | apply below_drew1 | refine below_set ?_ GE172.out | refine below_set ?_ GE179.out) | exact HB.out)⟩
                        · replace c70 := Bool.eq_false_iff.mpr c70
                          subst c70
                          have H1 : (some (false, ([] : List (S41)), false)) = some (r1, r2, r3) := by rw [if_neg (show ¬ (false = true) by decide)] at H; exact H
                          clear H
                          have H := H1
                          clear H1
                          simp only [Option.some.injEq, Prod.mk.injEq] at H
                          obtain ⟨rfl, rfl, rfl⟩ := H
                          have hnb77 := NB179_172.out
                          have hnc77 := NB172_179.out
                          have hcz78_0 : wr.cell? ⟨gb179, 0, none⟩ = some (.bool (t176 == 1)) := (blk_cell BK179.out 0).trans rfl
                          have hcz78_1 : wr.cell? ⟨gb179, 1, none⟩ = some (u180001) := (blk_cell BK179.out 1).trans rfl
                          have hfz78_0 := blk_frozen BK179.out 0
                          have hfz78_1 := blk_frozen BK179.out 1
                          obtain ⟨Ao79, co79, eo79⟩ := Kd.R_slice HO_180001.out
                          subst eo79
                          go_wp2_with (first | (go_at_call 20; (with_reducible refine (node_Ok.calls k4 (t176 == 1) _ _ x180001_1 false _ ?side1 ?side2 A69.out).mono ?_); (case side1 => repeat (first | exact (Kd.R_reads' HO_180001.out).2.2 | (with_reducible refine Kd.C_alloc ?_ _) | (with_reducible refine Kd.C_drewN ?_ _) | (with_reducible refine Kd.C_drew ?_))); (case side2 => exact (Kd.R_reads' HO_180001.out).2.1); rintro e w80 ⟨rfl, hb⟩; have n0_ := Aside0.mk (Kd.R_below (by exact HO_58.out) hb); have n1_ := Aside0.mk (Kd.R_below (by exact HO_180001.out) hb); have n2_ := Aside0.mk (blk_below (g := gb172) (o := .cells #[.bool false, .slice none 0 0] 44 (0, 0)) (by exact BK172.out) hb); have n3_ := Aside0.mk (blk_below (g := gb179) (o := .cells #[.bool (t176 == 1), .slice Ao79 x180001_1.length co79] 44 (0, 0)) (by exact BK179.out) hb); have n4_ := Aside0.mk (below_step (by repeat (first | (with_reducible first | exact HB.out | apply below_alloc | apply pw_below_drewN | apply below_drew1 | refine below_set ?_ GE172.out | refine below_set ?_ GE179.out) | exact HB.out)) hb); clear HO_58; clear HO_180001; clear BK172; clear BK179; clear HB; have HO_58 := n0_; have HO_180001 := n1_; have BK172 := n2_; have BK179 := n3_; have HB := n4_; clear n0_ n1_ n2_ n3_ n4_; (try clear hb); (try clear hb2); (try clear hk); (try clear hi); (try clear hge); have hcz81_0 : w80.cell? ⟨gb172, 0, none⟩ = some (.bool false) := (blk_cell BK172.out 0).trans rfl; have hcz81_1 : w80.cell? ⟨gb172, 1, none⟩ = some (.slice none 0 0) := (blk_cell BK172.out 1).trans rfl; have hfz81_0 := blk_frozen BK172.out 0; have hfz81_1 := blk_frozen BK172.out 1))
                          refine bodyPost_ret (results_ct rfl _ _ gb172 44 #[.bool false, .slice none 0 0] (0, 0) _ rfl (by refine blk_put (cs := #[.bool false, .slice none 0 0]) ?_ 1 _ rfl; refine blk_put (cs := #[.bool false, .slice none 0 0]) ?_ 0 _ rfl; exact BK172.out) Try.underlying44 rfl (by kernel_rfl)) rfl ?_
                          exact ⟨_, by first | rfl | (simp [errW_none, errW_some]; done) | (simp [errW_none, errW_some]; rfl) | (simp [*, errW_none, errW_some]; done) | (simp [*, errW_none, errW_some]; rfl), by first | exact Kd.R_nil _ _ _ _ _ | exact Kd.N_nil _ _ _ _ _ | exact Kd.V_nil _ _ _ _ _ | exact Kd.Q_nil _ _ _ _ _ | exact Kd.S_nil _ _ _ _ _, by repeat (first | (with_reducible first | exact HB.out | apply below_alloc | apply pw_below_drewN | apply below_drew1 | refine below_set ?_ GE172.out | refine below_set ?_ GE179.out) | exact HB.out)⟩
                      · replace c68 := Bool.eq_false_iff.mpr c68
                        subst c68
                        have H1 : (some (false, ([] : List (S41)), false)) = some (r1, r2, r3) := by rw [if_neg (show ¬ (false = true) by decide)] at H; exact H
                        clear H
                        have H := H1
                        clear H1
                        simp only [Option.some.injEq, Prod.mk.injEq] at H
                        obtain ⟨rfl, rfl, rfl⟩ := H
                        have hnb82 := NB172_179.out
                        have hnc82 := NB179_172.out
                        have hcz83_0 : wr.cell? ⟨gb172, 0, none⟩ = some (.bool false) := (blk_cell BK172.out 0).trans rfl
                        have hcz83_1 : wr.cell? ⟨gb172, 1, none⟩ = some (.slice none 0 0) := (blk_cell BK172.out 1).trans rfl
                        have hfz83_0 := blk_frozen BK172.out 0
                        have hfz83_1 := blk_frozen BK172.out 1
                        go_wp2
                        refine bodyPost_ret (results_ct rfl _ _ gb172 44 #[.bool false, .slice none 0 0] (0, 0) _ rfl (by refine blk_put (cs := #[.bool false, .slice none 0 0]) ?_ 1 _ rfl; refine blk_put (cs := #[.bool false, .slice none 0 0]) ?_ 0 _ rfl; exact BK172.out) Try.underlying44 rfl (by kernel_rfl)) rfl ?_
                        exact ⟨_, by first | rfl | (simp [errW_none, errW_some]; done) | (simp [errW_none, errW_some]; rfl) | (simp [*, errW_none, errW_some]; done) | (simp [*, errW_none, errW_some]; rfl), by first | exact Kd.R_nil _ _ _ _ _ | exact Kd.N_nil _ _ _ _ _ | exact Kd.V_nil _ _ _ _ _ | exact Kd.Q_nil _ _ _ _ _ | exact Kd.S_nil _ _ _ _ _, by repeat (first | (with_reducible first | exact HB.out | apply below_alloc | apply pw_below_drewN | apply below_drew1 | refine below_set ?_ GE172.out | refine below_set ?_ GE179.out) | exact HB.out)⟩

end Go.Proofs.Ytfhaffpegncdiaa.PN
