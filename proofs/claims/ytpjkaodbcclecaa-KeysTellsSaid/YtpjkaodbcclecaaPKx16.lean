/- What functions of the given program come to: printed; Lean checks it. -/
import Derived.Test.YtpjkaodbcclecaaPKx0
import Derived.Test.YtpjkaodbcclecaaPKx11
import Derived.Test.YtpjkaodbcclecaaPKx14
namespace Go.Proofs.Ytpjkaodbcclecaa.PK
open Go.RowKit Go.Proofs.YtpjkaodbcclecaaW.PrintWords Go.Proofs.YtpjkaodbcclecaaW.PrintLast Go.Proofs.YtpjkaodbcclecaaW.PrintMore
attribute [local go_sem] max2_int min2_int max_two min_two max_three min_three max_four min_four
set_option linter.unusedVariables false
set_option linter.unusedSimpArgs false

/-! ### waybillref7_MsgOf: function 46 -/
def waybillref7_MsgOf.j0 : Nat → List Int → List Int → List Int → List Int → Int → Int → Bool → Option (ByteArray × ByteArray × ByteArray × Int × List Int × Bool)
 | 0, _, _, _, _, _, _, _ => none
 | k + 1, x0, x4, x7, x10, x11, x13, x55 => if x55 = true then (some ((⟨#[]⟩ : ByteArray), (⟨#[]⟩ : ByteArray), (⟨#[]⟩ : ByteArray), 0, ([] : List Int), false)) else (if 0 ≤ (wrap64 (x11 + 1)) then (if (wrap64 (x11 + 1)) ≤ (x0.length : Int) then ((some (x0.drop ((wrap64 (x11 + 1)) : Int).toNat : List Int)).bind fun y339 => ((waybillref7_MsgOk.f (strOfNums x4) (strOfNums x7) (strOfNums x10) (wrap64 (x13)) y339).bind fun t345 => (if t345 = true then (some (strOfNums x4, strOfNums x7, strOfNums x10, wrap64 (x13), y339, true)) else (some ((⟨#[]⟩ : ByteArray), (⟨#[]⟩ : ByteArray), (⟨#[]⟩ : ByteArray), 0, ([] : List Int), false))))) else (none)) else (none))
def waybillref7_MsgOf.f (k : Nat) (l0 : List Int) : Option (ByteArray × ByteArray × ByteArray × Int × List Int × Bool) := (waybillref1_Text.f k l0 0 1).bind fun bt322 => ((waybillref1_Text.f k l0 bt322.2.1 1).bind fun bt327 => ((waybillref1_Text.f k l0 bt327.2.1 1).bind fun bt332 => ((waybillref1_Num.f k l0 bt332.2.1 1).bind fun bt337 => (if bt322.2.2 = true then (if bt327.2.2 = true then (if bt332.2.2 = true then (waybillref7_MsgOf.j0 k l0 bt322.1 bt327.1 bt332.1 bt332.2.1 bt337.1 (!bt337.2)) else (waybillref7_MsgOf.j0 k l0 bt322.1 bt327.1 bt332.1 bt332.2.1 bt337.1 true)) else (waybillref7_MsgOf.j0 k l0 bt322.1 bt327.1 bt332.1 bt332.2.1 bt337.1 true)) else (waybillref7_MsgOf.j0 k l0 bt322.1 bt327.1 bt332.1 bt332.2.1 bt337.1 true)))))
theorem waybillref7_MsgOf.mono_l : ∀ k, (∀ y0 y1 y2 y3 y4 y5 y6, LeO (waybillref7_MsgOf.j0 k y0 y1 y2 y3 y4 y5 y6) (waybillref7_MsgOf.j0 (k + 1) y0 y1 y2 y3 y4 y5 y6))
 | 0 => fun _ _ _ _ _ _ _ r h => by simp [waybillref7_MsgOf.j0] at h
 | k + 1 => by
  have ih0 := waybillref7_MsgOf.mono_l k
  ·
   intro y0 y1 y2 y3 y4 y5 y6
   unfold waybillref7_MsgOf.j0
   repeat' first
   | (with_reducible exact ih0 _ _ _ _ _ _ _)
   | (with_reducible exact waybillref1_Num.mono _ _ _ _)
   | (with_reducible exact waybillref1_Text.mono _ _ _ _)
   | (with_reducible exact LeO.refl _)
   | (with_reducible exact LeO.none _)
   | (with_reducible refine LeO.ite ?_ ?_)
   | (with_reducible refine LeO.bind ?_ (fun _ => ?_))
   | exact ih0 _ _ _ _ _ _ _
   | exact waybillref1_Num.mono _ _ _ _
   | exact waybillref1_Text.mono _ _ _ _
   | exact LeO.none _
   | refine LeO.ite ?_ ?_
   | refine LeO.bind ?_ (fun _ => ?_)
theorem waybillref7_MsgOf.mono : ∀ a0 k, LeO (waybillref7_MsgOf.f k a0) (waybillref7_MsgOf.f (k + 1) a0) := by
 intro a0 k
 have ih0 := waybillref7_MsgOf.mono_l k
 unfold waybillref7_MsgOf.f
 repeat' first
   | (with_reducible exact ih0 _ _ _ _ _ _ _)
   | (with_reducible exact waybillref1_Num.mono _ _ _ _)
   | (with_reducible exact waybillref1_Text.mono _ _ _ _)
   | (with_reducible exact LeO.refl _)
   | (with_reducible exact LeO.none _)
   | (with_reducible refine LeO.ite ?_ ?_)
   | (with_reducible refine LeO.bind ?_ (fun _ => ?_))
   | exact ih0 _ _ _ _ _ _ _
   | exact waybillref1_Num.mono _ _ _ _
   | exact waybillref1_Text.mono _ _ _ _
   | exact LeO.none _
   | refine LeO.ite ?_ ?_
   | refine LeO.bind ?_ (fun _ => ?_)
def waybillref7_MsgOf.T7 : Bool × List (List Nat × List Nat) := (true, [([], []), ([0], [0]), ([], []), ([2], [2]), ([], []), ([4], [4]), ([], []), ([6], [6]), ([], []), ([], []), ([9], [9]), ([8, 10], [8, 10]), ([1, 3, 5, 7, 11], [1, 3, 5, 7, 11]), ([], []), ([13, 12, 0, 1, 2, 3, 4, 5, 6, 7, 8, 9, 10, 11, 12, 13], [12, 13])])
def waybillref7_MsgOf.B7 : List Nat := [0, 1, 0, 4, 0, 16, 0, 64, 0, 0, 512, 1792, 4095, 0, 16383]
theorem waybillref7_MsgOf.tab7 : rtab .any (opsOf Try.f46 7) = waybillref7_MsgOf.T7 := by kernel_rfl
theorem waybillref7_MsgOf.bits7 : waitsOk waybillref7_MsgOf.T7.2 waybillref7_MsgOf.B7 = true := by kernel_rfl
set_option maxHeartbeats 8000000 in
set_option maxRecDepth 100000 in
theorem waybillref7_MsgOf.calls (k : Nat) (P0_ : Nat → Prop) (A0 : Option Addr) (c0 : Nat) (l0 : List Int) (r1 : ByteArray) (r2 : ByteArray) (r3 : ByteArray) (r4 : Int) (r5 : List Int) (r6 : Bool) (w : World) (hs0 : Kd.V (Kd.int .u8) 5 w w.heap.size (fun k_ => P0_ k_) (.slice A0 l0.length c0) l0) (h : waybillref7_MsgOf.f k l0 = some (r1, r2, r3, r4, r5, r6)) :
  Calls Try.prog 46 #[.slice A0 l0.length c0] w fun e w' => ∃ v4_ : Value, e = .returned (.tuple #[.agg #[.string r1, .string r2, .string r3, .int .i64 r4, v4_], .bool r6]) ∧ Kd.V (Kd.int .u8) 5 w' w.heap.size (fun k_ => (P0_ k_ ∨ w.heap.size ≤ k_)) v4_ r5 ∧ Below w.heap.size w w' := by
 have hu77 := Try.underlying77
 have HO0 := Aside0.mk (show Kd.V (Kd.int .u8) 5 w w.heap.size (fun k_ => (P0_ k_ ∨ w.heap.size ≤ k_)) (.slice A0 l0.length c0) l0 from Kd.V_mono hs0 (fun k_ hk => .inl hk))
 have HB := Aside0.mk (Below.refl w.heap.size w)
 have H : ((waybillref1_Text.f k l0 0 1).bind fun bt322 => ((waybillref1_Text.f k l0 bt322.2.1 1).bind fun bt327 => ((waybillref1_Text.f k l0 bt327.2.1 1).bind fun bt332 => ((waybillref1_Num.f k l0 bt332.2.1 1).bind fun bt337 => (if bt322.2.2 = true then (if bt327.2.2 = true then (if bt332.2.2 = true then (waybillref7_MsgOf.j0 k l0 bt322.1 bt327.1 bt332.1 bt332.2.1 bt337.1 (!bt337.2)) else (waybillref7_MsgOf.j0 k l0 bt322.1 bt327.1 bt332.1 bt332.2.1 bt337.1 true)) else (waybillref7_MsgOf.j0 k l0 bt322.1 bt327.1 bt332.1 bt332.2.1 bt337.1 true)) else (waybillref7_MsgOf.j0 k l0 bt322.1 bt327.1 bt332.1 bt332.2.1 bt337.1 true)))))) = some (r1, r2, r3, r4, r5, r6) := h
 clear h
 replace H := Option.bind_eq_some_iff.mp H
 obtain ⟨⟨t322, t325, t326⟩, A20, H⟩ := H
 replace H : ((waybillref1_Text.f k l0 t325 1).bind fun bt327 => ((waybillref1_Text.f k l0 bt327.2.1 1).bind fun bt332 => ((waybillref1_Num.f k l0 bt332.2.1 1).bind fun bt337 => (if t326 = true then (if bt327.2.2 = true then (if bt332.2.2 = true then (waybillref7_MsgOf.j0 k l0 t322 bt327.1 bt332.1 bt332.2.1 bt337.1 (!bt337.2)) else (waybillref7_MsgOf.j0 k l0 t322 bt327.1 bt332.1 bt332.2.1 bt337.1 true)) else (waybillref7_MsgOf.j0 k l0 t322 bt327.1 bt332.1 bt332.2.1 bt337.1 true)) else (waybillref7_MsgOf.j0 k l0 t322 bt327.1 bt332.1 bt332.2.1 bt337.1 true))))) = some (r1, r2, r3, r4, r5, r6) := H
 have A2 := Aside0.mk A20
 clear A20
 replace H := Option.bind_eq_some_iff.mp H
 obtain ⟨⟨t327, t330, t331⟩, A30, H⟩ := H
 replace H : ((waybillref1_Text.f k l0 t330 1).bind fun bt332 => ((waybillref1_Num.f k l0 bt332.2.1 1).bind fun bt337 => (if t326 = true then (if t331 = true then (if bt332.2.2 = true then (waybillref7_MsgOf.j0 k l0 t322 t327 bt332.1 bt332.2.1 bt337.1 (!bt337.2)) else (waybillref7_MsgOf.j0 k l0 t322 t327 bt332.1 bt332.2.1 bt337.1 true)) else (waybillref7_MsgOf.j0 k l0 t322 t327 bt332.1 bt332.2.1 bt337.1 true)) else (waybillref7_MsgOf.j0 k l0 t322 t327 bt332.1 bt332.2.1 bt337.1 true)))) = some (r1, r2, r3, r4, r5, r6) := H
 have A3 := Aside0.mk A30
 clear A30
 replace H := Option.bind_eq_some_iff.mp H
 obtain ⟨⟨t332, t335, t336⟩, A40, H⟩ := H
 replace H : ((waybillref1_Num.f k l0 t335 1).bind fun bt337 => (if t326 = true then (if t331 = true then (if t336 = true then (waybillref7_MsgOf.j0 k l0 t322 t327 t332 t335 bt337.1 (!bt337.2)) else (waybillref7_MsgOf.j0 k l0 t322 t327 t332 t335 bt337.1 true)) else (waybillref7_MsgOf.j0 k l0 t322 t327 t332 t335 bt337.1 true)) else (waybillref7_MsgOf.j0 k l0 t322 t327 t332 t335 bt337.1 true))) = some (r1, r2, r3, r4, r5, r6) := H
 have A4 := Aside0.mk A40
 clear A40
 replace H := Option.bind_eq_some_iff.mp H
 obtain ⟨⟨t337, t338⟩, A50, H⟩ := H
 replace H : (if t326 = true then (if t331 = true then (if t336 = true then (waybillref7_MsgOf.j0 k l0 t322 t327 t332 t335 t337 (!t338)) else (waybillref7_MsgOf.j0 k l0 t322 t327 t332 t335 t337 true)) else (waybillref7_MsgOf.j0 k l0 t322 t327 t332 t335 t337 true)) else (waybillref7_MsgOf.j0 k l0 t322 t327 t332 t335 t337 true)) = some (r1, r2, r3, r4, r5, r6) := H
 have A5 := Aside0.mk A50
 clear A50
 have HC6 := Aside0.mk H
 clear H
 go_enter Try.func46, Try.ntmps46
 go_upto_region 5 with (first | ((with_reducible refine gate_dst (N := 2) rfl ?_); refine box_event ?hg (N := 2) ?hd (cs := #[.string (⟨#[]⟩ : ByteArray), .string (⟨#[]⟩ : ByteArray), .string (⟨#[]⟩ : ByteArray), .int .i64 0, .slice none 0 0]) (t := 77) ?hr ?_; (case hd => rfl); (case hg => rfl); (case hr => first | (go_simp; done) | (go_simp; rfl)); intro gb321 hg w7 hbox hb; have n0_ := Aside0.mk (Kd.V_below (Kd.V_elderB (by exact HO0.out) gb321 (Nat.le_of_eq hg.symm)) hb); have n1_ := Aside0.mk (below_step (by repeat (with_reducible first | exact HB.out | apply below_alloc | apply pw_below_drewN | apply below_drew1)) hb); have n2_ := Aside0.mk (hbox); have n3_ := Aside0.mk ((by rw [hg]; exact (below_size (by repeat (with_reducible first | exact HB.out | apply below_alloc | apply pw_below_drewN | apply below_drew1))) : w.heap.size ≤ gb321)); have n4_ := Aside0.mk ((by rw [hg]; exact (below_size (by repeat (with_reducible first | exact HB.out | apply below_alloc | apply pw_below_drewN | apply below_drew1))) : w.heap.size ≤ gb321)); clear HO0; clear HB; have HO0 := n0_; have HB := n1_; have BK321 := n2_; have GW321 := n3_; have GE321 := n4_; clear n0_ n1_ n2_ n3_ n4_; clear hb hbox hg) | ((with_reducible refine gate_callee (f := 62) rfl ?_); refine goesL_ (some 18) rfl rfl Try.func62 (by kernel_rfl) rfl #[.slice A0 l0.length c0, .int .i64 0, .int .i64 1] rfl (by (try simp only [List.map_toArray, List.map_cons, List.map_nil]); first | done | rfl | (simp only [List.length_drop, List.length_take]; rfl)) ?_; (with_reducible refine (waybillref1_Text.calls k (fun k_ => ((P0_ k_ ∨ w.heap.size ≤ k_) ∧ k_ ≠ gb321)) _ _ l0 0 1 t322 t325 t326 _ ?side1 A2.out).mono ?_); (case side1 => exact HO0.out); rintro e w8 ⟨v323, rfl, ho0, hb⟩; refine ⟨_, rfl, ?_⟩; have n0_ := Aside0.mk (Kd.V_below (by exact HO0.out) hb); have n1_ := Aside0.mk (Kd.V_lower (Kd.V_mono (ok' := fun k_ => (P0_ k_ ∨ w.heap.size ≤ k_) ∧ k_ ≠ gb321) ho0 (fun k_ hk_ => ⟨Or.elim hk_ (fun hs_ => hs_.1) (fun hn_ => (.inr (Nat.le_trans (below_size (by repeat (with_reducible first | exact HB.out | apply below_alloc | apply pw_below_drewN | apply below_drew1 | refine below_set ?_ GE321.out))) hn_))), Or.elim hk_ (fun hs_ => hs_.2) (fun hn_ => (Kd.freshB (g := gb321) (o := .cells #[.string (⟨#[]⟩ : ByteArray), .string (⟨#[]⟩ : ByteArray), .string (⟨#[]⟩ : ByteArray), .int .i64 0, .slice none 0 0] 77 (0, 0)) (by exact BK321.out) k_ hn_))⟩)) (below_size (by repeat (with_reducible first | exact HB.out | apply below_alloc | apply pw_below_drewN | apply below_drew1 | refine below_set ?_ GE321.out)))); have n2_ := Aside0.mk (blk_below (g := gb321) (o := .cells #[.string (⟨#[]⟩ : ByteArray), .string (⟨#[]⟩ : ByteArray), .string (⟨#[]⟩ : ByteArray), .int .i64 0, .slice none 0 0] 77 (0, 0)) (by exact BK321.out) hb); have n3_ := Aside0.mk (below_step (by repeat (with_reducible first | exact HB.out | apply below_alloc | apply pw_below_drewN | apply below_drew1 | refine below_set ?_ GE321.out)) hb); clear HO0; clear BK321; clear HB; have HO0 := n0_; have HO324 := n1_; have BK321 := n2_; have HB := n3_; clear n0_ n1_ n2_ n3_; (try clear hb); (try clear hb2); (try clear hk); (try clear hi); (try clear hge); (try clear ho0)) | ((with_reducible refine gate_callee (f := 62) rfl ?_); refine goesL_ (some 25) rfl rfl Try.func62 (by kernel_rfl) rfl #[.slice A0 l0.length c0, .int .i64 t325, .int .i64 1] rfl (by (try simp only [List.map_toArray, List.map_cons, List.map_nil]); first | done | rfl | (simp only [List.length_drop, List.length_take]; rfl)) ?_; (with_reducible refine (waybillref1_Text.calls k (fun k_ => ((P0_ k_ ∨ w.heap.size ≤ k_) ∧ k_ ≠ gb321)) _ _ l0 t325 1 t327 t330 t331 _ ?side1 A3.out).mono ?_); (case side1 => exact HO0.out); rintro e w9 ⟨v328, rfl, ho0, hb⟩; refine ⟨_, rfl, ?_⟩; have n0_ := Aside0.mk (Kd.V_below (by exact HO0.out) hb); have n1_ := Aside0.mk (Kd.V_below (by exact HO324.out) hb); have n2_ := Aside0.mk (Kd.V_lower (Kd.V_mono (ok' := fun k_ => (P0_ k_ ∨ w.heap.size ≤ k_) ∧ k_ ≠ gb321) ho0 (fun k_ hk_ => ⟨Or.elim hk_ (fun hs_ => hs_.1) (fun hn_ => (.inr (Nat.le_trans (below_size (by repeat (with_reducible first | exact HB.out | apply below_alloc | apply pw_below_drewN | apply below_drew1 | refine below_set ?_ GE321.out))) hn_))), Or.elim hk_ (fun hs_ => hs_.2) (fun hn_ => (Kd.freshB (g := gb321) (o := .cells #[.string (⟨#[]⟩ : ByteArray), .string (⟨#[]⟩ : ByteArray), .string (⟨#[]⟩ : ByteArray), .int .i64 0, .slice none 0 0] 77 (0, 0)) (by exact BK321.out) k_ hn_))⟩)) (below_size (by repeat (with_reducible first | exact HB.out | apply below_alloc | apply pw_below_drewN | apply below_drew1 | refine below_set ?_ GE321.out)))); have n3_ := Aside0.mk (blk_below (g := gb321) (o := .cells #[.string (⟨#[]⟩ : ByteArray), .string (⟨#[]⟩ : ByteArray), .string (⟨#[]⟩ : ByteArray), .int .i64 0, .slice none 0 0] 77 (0, 0)) (by exact BK321.out) hb); have n4_ := Aside0.mk (below_step (by repeat (with_reducible first | exact HB.out | apply below_alloc | apply pw_below_drewN | apply below_drew1 | refine below_set ?_ GE321.out)) hb); clear HO0; clear HO324; clear BK321; clear HB; have HO0 := n0_; have HO324 := n1_; have HO329 := n2_; have BK321 := n3_; have HB := n4_; clear n0_ n1_ n2_ n3_ n4_; (try clear hb); (try clear hb2); (try clear hk); (try clear hi); (try clear hge); (try clear ho0)) | ((with_reducible refine gate_callee (f := 62) rfl ?_); refine goesL_ (some 32) rfl rfl Try.func62 (by kernel_rfl) rfl #[.slice A0 l0.length c0, .int .i64 t330, .int .i64 1] rfl (by (try simp only [List.map_toArray, List.map_cons, List.map_nil]); first | done | rfl | (simp only [List.length_drop, List.length_take]; rfl)) ?_; (with_reducible refine (waybillref1_Text.calls k (fun k_ => ((P0_ k_ ∨ w.heap.size ≤ k_) ∧ k_ ≠ gb321)) _ _ l0 t330 1 t332 t335 t336 _ ?side1 A4.out).mono ?_); (case side1 => exact HO0.out); rintro e w10 ⟨v333, rfl, ho0, hb⟩; refine ⟨_, rfl, ?_⟩; have n0_ := Aside0.mk (Kd.V_below (by exact HO0.out) hb); have n1_ := Aside0.mk (Kd.V_below (by exact HO324.out) hb); have n2_ := Aside0.mk (Kd.V_below (by exact HO329.out) hb); have n3_ := Aside0.mk (Kd.V_lower (Kd.V_mono (ok' := fun k_ => (P0_ k_ ∨ w.heap.size ≤ k_) ∧ k_ ≠ gb321) ho0 (fun k_ hk_ => ⟨Or.elim hk_ (fun hs_ => hs_.1) (fun hn_ => (.inr (Nat.le_trans (below_size (by repeat (with_reducible first | exact HB.out | apply below_alloc | apply pw_below_drewN | apply below_drew1 | refine below_set ?_ GE321.out))) hn_))), Or.elim hk_ (fun hs_ => hs_.2) (fun hn_ => (Kd.freshB (g := gb321) (o := .cells #[.string (⟨#[]⟩ : ByteArray), .string (⟨#[]⟩ : ByteArray), .string (⟨#[]⟩ : ByteArray), .int .i64 0, .slice none 0 0] 77 (0, 0)) (by exact BK321.out) k_ hn_))⟩)) (below_size (by repeat (with_reducible first | exact HB.out | apply below_alloc | apply pw_below_drewN | apply below_drew1 | refine below_set ?_ GE321.out)))); have n4_ := Aside0.mk (blk_below (g := gb321) (o := .cells #[.string (⟨#[]⟩ : ByteArray), .string (⟨#[]⟩ : ByteArray), .string (⟨#[]⟩ : ByteArray), .int .i64 0, .slice none 0 0] 77 (0, 0)) (by exact BK321.out) hb); have n5_ := Aside0.mk (below_step (by repeat (with_reducible first | exact HB.out | apply below_alloc | apply pw_below_drewN | apply below_drew1 | refine below_set ?_ GE321.out)) hb); clear HO0; clear HO324; clear HO329; clear BK321; clear HB; have HO0 := n0_; have HO324 := n1_; have HO329 := n2_; have HO334 := n3_; have BK321 := n4_; have HB := n5_; clear n0_ n1_ n2_ n3_ n4_ n5_; (try clear hb); (try clear hb2); (try clear hk); (try clear hi); (try clear hge); (try clear ho0)) | ((with_reducible refine gate_callee (f := 18) rfl ?_); refine goesL_ (some 39) rfl rfl Try.func18 (by kernel_rfl) rfl #[.slice A0 l0.length c0, .int .i64 t335, .int .i64 1] rfl (by (try simp only [List.map_toArray, List.map_cons, List.map_nil]); first | done | rfl | (simp only [List.length_drop, List.length_take]; rfl)) ?_; (with_reducible refine (waybillref1_Num.calls k _ _ l0 t335 1 t337 t338 _ ?side1 ?side2 A5.out).mono ?_); (case side1 => repeat (first | exact (Kd.V_reads' HO0.out).2.2 | (with_reducible refine Kd.C_alloc ?_ _) | (with_reducible refine Kd.C_drewN ?_ _) | (with_reducible refine Kd.C_drew ?_))); (case side2 => exact (Kd.V_reads' HO0.out).2.1); rintro e w' ⟨rfl, ⟨nd, rfl⟩⟩; refine ⟨_, rfl, ?_⟩))
 (try simp only [Act.put, List.setIfInBounds_toArray, List.set_cons_zero, List.set_cons_succ])
 go_cut [55] (fun v55 wc => ∃ (kq : Nat) (x55_5 : Bool), v55 = .bool x55_5 ∧ Aside0 (waybillref7_MsgOf.j0 kq l0 t322 t327 t332 t335 t337 x55_5 = some (r1, r2, r3, r4, r5, r6)) ∧ Aside0 (kq ≤ k) ∧ Aside0 (Kd.V (Kd.int .u8) 5 wc w.heap.size (fun k_ => (P0_ k_ ∨ w.heap.size ≤ k_) ∧ k_ ≠ gb321) (.slice A0 l0.length c0) l0) ∧ Aside0 (Kd.V (Kd.int .u8) 5 wc w.heap.size (fun k_ => (P0_ k_ ∨ w.heap.size ≤ k_) ∧ k_ ≠ gb321) v323 t322) ∧ Aside0 (Kd.V (Kd.int .u8) 5 wc w.heap.size (fun k_ => (P0_ k_ ∨ w.heap.size ≤ k_) ∧ k_ ≠ gb321) v328 t327) ∧ Aside0 (Kd.V (Kd.int .u8) 5 wc w.heap.size (fun k_ => (P0_ k_ ∨ w.heap.size ≤ k_) ∧ k_ ≠ gb321) v333 t332) ∧ Aside0 (wc.heap[gb321]? = some (.cells #[.string (⟨#[]⟩ : ByteArray), .string (⟨#[]⟩ : ByteArray), .string (⟨#[]⟩ : ByteArray), .int .i64 0, (.slice none 0 0)] 77 (0, 0))) ∧ Aside0 (Below w.heap.size w wc))
 case first =>
  have H := HC6.out
  clear HC6
  by_cases c11 : t326 = true
  ·
   subst c11
   have H1 : (if t331 = true then (if t336 = true then (waybillref7_MsgOf.j0 k l0 t322 t327 t332 t335 t337 (!t338)) else (waybillref7_MsgOf.j0 k l0 t322 t327 t332 t335 t337 true)) else (waybillref7_MsgOf.j0 k l0 t322 t327 t332 t335 t337 true)) = some (r1, r2, r3, r4, r5, r6) := by rw [if_pos rfl] at H; exact H
   clear H
   have H := H1
   clear H1
   by_cases c12 : t331 = true
   ·
    subst c12
    have H1 : (if t336 = true then (waybillref7_MsgOf.j0 k l0 t322 t327 t332 t335 t337 (!t338)) else (waybillref7_MsgOf.j0 k l0 t322 t327 t332 t335 t337 true)) = some (r1, r2, r3, r4, r5, r6) := by rw [if_pos rfl] at H; exact H
    clear H
    have H := H1
    clear H1
    by_cases c13 : t336 = true
    ·
     subst c13
     have H1 : (waybillref7_MsgOf.j0 k l0 t322 t327 t332 t335 t337 (!t338)) = some (r1, r2, r3, r4, r5, r6) := by rw [if_pos rfl] at H; exact H
     clear H
     have H := H1
     clear H1
     have H' := Aside0.mk H
     clear H
     go_wp2
     go_meet
     case rel => exact ⟨_, (!t338), (by first | rfl | (simp; done) | (simp [*]; done)), H', ⟨by first | omega | exact Nat.le_refl _⟩, ⟨by exact HO0.out⟩, ⟨by exact HO324.out⟩, ⟨by exact HO329.out⟩, ⟨by exact HO334.out⟩, ⟨by exact BK321.out⟩, ⟨by repeat (with_reducible first | exact HB.out | apply below_alloc | apply pw_below_drewN | apply below_drew1 | refine below_set ?_ GE321.out)⟩⟩
    ·
     replace c13 := Bool.eq_false_iff.mpr c13
     subst c13
     have H1 : (waybillref7_MsgOf.j0 k l0 t322 t327 t332 t335 t337 true) = some (r1, r2, r3, r4, r5, r6) := by rw [if_neg (show ¬ (false = true) by decide)] at H; exact H
     clear H
     have H := H1
     clear H1
     have H' := Aside0.mk H
     clear H
     go_wp2
     go_meet
     case rel => exact ⟨_, (true), (by first | rfl | (simp; done) | (simp [*]; done)), H', ⟨by first | omega | exact Nat.le_refl _⟩, ⟨by exact HO0.out⟩, ⟨by exact HO324.out⟩, ⟨by exact HO329.out⟩, ⟨by exact HO334.out⟩, ⟨by exact BK321.out⟩, ⟨by repeat (with_reducible first | exact HB.out | apply below_alloc | apply pw_below_drewN | apply below_drew1 | refine below_set ?_ GE321.out)⟩⟩
   ·
    replace c12 := Bool.eq_false_iff.mpr c12
    subst c12
    have H1 : (waybillref7_MsgOf.j0 k l0 t322 t327 t332 t335 t337 true) = some (r1, r2, r3, r4, r5, r6) := by rw [if_neg (show ¬ (false = true) by decide)] at H; exact H
    clear H
    have H := H1
    clear H1
    have H' := Aside0.mk H
    clear H
    go_wp2
    go_meet
    case rel => exact ⟨_, (true), (by first | rfl | (simp; done) | (simp [*]; done)), H', ⟨by first | omega | exact Nat.le_refl _⟩, ⟨by exact HO0.out⟩, ⟨by exact HO324.out⟩, ⟨by exact HO329.out⟩, ⟨by exact HO334.out⟩, ⟨by exact BK321.out⟩, ⟨by repeat (with_reducible first | exact HB.out | apply below_alloc | apply pw_below_drewN | apply below_drew1 | refine below_set ?_ GE321.out)⟩⟩
  ·
   replace c11 := Bool.eq_false_iff.mpr c11
   subst c11
   have H1 : (waybillref7_MsgOf.j0 k l0 t322 t327 t332 t335 t337 true) = some (r1, r2, r3, r4, r5, r6) := by rw [if_neg (show ¬ (false = true) by decide)] at H; exact H
   clear H
   have H := H1
   clear H1
   have H' := Aside0.mk H
   clear H
   go_wp2
   go_meet
   case rel => exact ⟨_, (true), (by first | rfl | (simp; done) | (simp [*]; done)), H', ⟨by first | omega | exact Nat.le_refl _⟩, ⟨by exact HO0.out⟩, ⟨by exact HO324.out⟩, ⟨by exact HO329.out⟩, ⟨by exact HO334.out⟩, ⟨by exact BK321.out⟩, ⟨by repeat (with_reducible first | exact HB.out | apply below_alloc | apply pw_below_drewN | apply below_drew1 | refine below_set ?_ GE321.out)⟩⟩
 case rest =>
  clear HC6
  try clear c1
  try clear p2
  try clear c4
  try clear c6
  try clear c11
  try clear c12
  try clear c13
  obtain ⟨kq, x55_5, rfl, HA, HJ5, HO_0, HO_4, HO_7, HO_10, BK321, HB⟩ := hcut
  cases kq with
  | zero => exact absurd HA.out (by simp [waybillref7_MsgOf.j0])
  | succ kj5 =>
   have H := HA.out
   clear HA
   simp only [waybillref7_MsgOf.j0] at H
   by_cases c14 : x55_5 = true
   ·
    subst c14
    have H1 : (some ((⟨#[]⟩ : ByteArray), (⟨#[]⟩ : ByteArray), (⟨#[]⟩ : ByteArray), 0, ([] : List Int), false)) = some (r1, r2, r3, r4, r5, r6) := by rw [if_pos rfl] at H; exact H
    clear H
    have H := H1
    clear H1
    simp only [Option.some.injEq, Prod.mk.injEq] at H
    obtain ⟨rfl, rfl, rfl, rfl, rfl, rfl⟩ := H
    have hcz15_0 : wc.cell? ⟨gb321, 0, none⟩ = some (.string (⟨#[]⟩ : ByteArray)) := (blk_cell BK321.out 0).trans rfl
    have hcz15_1 : wc.cell? ⟨gb321, 1, none⟩ = some (.string (⟨#[]⟩ : ByteArray)) := (blk_cell BK321.out 1).trans rfl
    have hcz15_2 : wc.cell? ⟨gb321, 2, none⟩ = some (.string (⟨#[]⟩ : ByteArray)) := (blk_cell BK321.out 2).trans rfl
    have hcz15_3 : wc.cell? ⟨gb321, 3, none⟩ = some (.int .i64 0) := (blk_cell BK321.out 3).trans rfl
    have hcz15_4 : wc.cell? ⟨gb321, 4, none⟩ = some (.slice none 0 0) := (blk_cell BK321.out 4).trans rfl
    have hfz15_0 := blk_frozen BK321.out 0
    have hfz15_1 := blk_frozen BK321.out 1
    have hfz15_2 := blk_frozen BK321.out 2
    have hfz15_3 := blk_frozen BK321.out 3
    have hfz15_4 := blk_frozen BK321.out 4
    go_wp2
    refine bodyPost_ret (results_ct rfl _ _ gb321 77 #[.string (⟨#[]⟩ : ByteArray), .string (⟨#[]⟩ : ByteArray), .string (⟨#[]⟩ : ByteArray), .int .i64 0, .slice none 0 0] (0, 0) _ rfl (by refine blk_put (cs := #[.string (⟨#[]⟩ : ByteArray), .string (⟨#[]⟩ : ByteArray), .string (⟨#[]⟩ : ByteArray), .int .i64 0, .slice none 0 0]) ?_ 4 _ rfl; refine blk_put (cs := #[.string (⟨#[]⟩ : ByteArray), .string (⟨#[]⟩ : ByteArray), .string (⟨#[]⟩ : ByteArray), .int .i64 0, .slice none 0 0]) ?_ 3 _ rfl; refine blk_put (cs := #[.string (⟨#[]⟩ : ByteArray), .string (⟨#[]⟩ : ByteArray), .string (⟨#[]⟩ : ByteArray), .int .i64 0, .slice none 0 0]) ?_ 2 _ rfl; refine blk_put (cs := #[.string (⟨#[]⟩ : ByteArray), .string (⟨#[]⟩ : ByteArray), .string (⟨#[]⟩ : ByteArray), .int .i64 0, .slice none 0 0]) ?_ 1 _ rfl; refine blk_put (cs := #[.string (⟨#[]⟩ : ByteArray), .string (⟨#[]⟩ : ByteArray), .string (⟨#[]⟩ : ByteArray), .int .i64 0, .slice none 0 0]) ?_ 0 _ rfl; exact BK321.out) Try.underlying77 rfl (by kernel_rfl)) rfl ?_
    exact ⟨_, by first | rfl | (simp [errW_none, errW_some]; done) | (simp [errW_none, errW_some]; rfl) | (simp [*, errW_none, errW_some]; done) | (simp [*, errW_none, errW_some]; rfl), (Kd.V_nil _ _ _ _ _), by repeat (with_reducible first | exact HB.out | apply below_alloc | apply pw_below_drewN | apply below_drew1 | refine below_set ?_ GE321.out)⟩
   ·
    replace c14 := Bool.eq_false_iff.mpr c14
    subst c14
    have H1 : (if 0 ≤ (wrap64 (t335 + 1)) then (if (wrap64 (t335 + 1)) ≤ (l0.length : Int) then ((some (l0.drop ((wrap64 (t335 + 1)) : Int).toNat : List Int)).bind fun y339 => ((waybillref7_MsgOk.f (strOfNums t322) (strOfNums t327) (strOfNums t332) (wrap64 (t337)) y339).bind fun t345 => (if t345 = true then (some (strOfNums t322, strOfNums t327, strOfNums t332, wrap64 (t337), y339, true)) else (some ((⟨#[]⟩ : ByteArray), (⟨#[]⟩ : ByteArray), (⟨#[]⟩ : ByteArray), 0, ([] : List Int), false))))) else (none)) else (none)) = some (r1, r2, r3, r4, r5, r6) := by rw [if_neg (show ¬ (false = true) by decide)] at H; exact H
    clear H
    have H := H1
    clear H1
    obtain ⟨ji16, hji16⟩ : ∃ j_ : Int, (wrap64 (t335 + 1)) = j_ := ⟨_, rfl⟩
    replace H : (if 0 ≤ (ji16) then (if (ji16) ≤ (l0.length : Int) then ((some (l0.drop ((ji16) : Int).toNat : List Int)).bind fun y339 => ((waybillref7_MsgOk.f (strOfNums t322) (strOfNums t327) (strOfNums t332) (wrap64 (t337)) y339).bind fun t345 => (if t345 = true then (some (strOfNums t322, strOfNums t327, strOfNums t332, wrap64 (t337), y339, true)) else (some ((⟨#[]⟩ : ByteArray), (⟨#[]⟩ : ByteArray), (⟨#[]⟩ : ByteArray), 0, ([] : List Int), false))))) else (none)) else (none)) = some (r1, r2, r3, r4, r5, r6) := by first | (rw [hji16] at H; exact H) | (simp only [hji16] at H ⊢; exact H)
    have hji16w : (IntKind.i64.wrap (t335 + 1)) = ji16 := (i64_w _).trans hji16
    by_cases c17 : 0 ≤ (ji16)
    ·
     rw [if_pos c17] at H
     have c17b0 := eq_true c17
     have c17b1 : decide (0 ≤ (ji16)) = true := decide_eq_true c17
     clear c17
     by_cases c18 : (ji16) ≤ (l0.length : Int)
     ·
      rw [if_pos c18] at H
      have c18b0 := eq_true c18
      have c18b1 : decide ((ji16) ≤ (l0.length : Int)) = true := decide_eq_true c18
      clear c18
      obtain ⟨y339, hy339⟩ : ∃ y_ : List Int, y_ = (l0.drop ((ji16) : Int).toNat) := ⟨_, rfl⟩
      replace H : ((waybillref7_MsgOk.f (strOfNums t322) (strOfNums t327) (strOfNums t332) (wrap64 (t337)) y339).bind fun t345 => (if t345 = true then (some (strOfNums t322, strOfNums t327, strOfNums t332, wrap64 (t337), y339, true)) else (some ((⟨#[]⟩ : ByteArray), (⟨#[]⟩ : ByteArray), (⟨#[]⟩ : ByteArray), 0, ([] : List Int), false)))) = some (r1, r2, r3, r4, r5, r6) := by first | (rw [hy339]; with_reducible exact H) | (have H2_ := (Option.bind_some _ _).symm.trans H; rw [hy339]; with_reducible exact H2_) | (have H2_ := (Option.bind_some _ _).symm.trans H; with_reducible exact H2_) | with_reducible exact H | (rw [hy339]; exact H) | exact H
      have Ny339 := Aside0.mk hy339
      clear hy339
      replace H := Option.bind_eq_some_iff.mp H
      obtain ⟨t345, A190, H⟩ := H
      replace H : (if t345 = true then (some (strOfNums t322, strOfNums t327, strOfNums t332, wrap64 (t337), y339, true)) else (some ((⟨#[]⟩ : ByteArray), (⟨#[]⟩ : ByteArray), (⟨#[]⟩ : ByteArray), 0, ([] : List Int), false))) = some (r1, r2, r3, r4, r5, r6) := H
      have A19 := Aside0.mk A190
      clear A190
      by_cases c20 : t345 = true
      ·
       subst c20
       have H1 : (some (strOfNums t322, strOfNums t327, strOfNums t332, wrap64 (t337), y339, true)) = some (r1, r2, r3, r4, r5, r6) := by rw [if_pos rfl] at H; exact H
       clear H
       have H := H1
       clear H1
       simp only [Option.some.injEq, Prod.mk.injEq] at H
       obtain ⟨rfl, rfl, rfl, rfl, rfl, rfl⟩ := H
       obtain ⟨Ao21, co21, eo21⟩ := Kd.V_slice HO_4.out
       subst eo21
       obtain ⟨Ao22, co22, eo22⟩ := Kd.V_slice HO_7.out
       subst eo22
       obtain ⟨Ao23, co23, eo23⟩ := Kd.V_slice HO_10.out
       subst eo23
       try go_wp2
       have n0_ := Aside0.mk (Kd.V_drew HO_0.out)
       have n1_ := Aside0.mk (Kd.V_drew HO_4.out)
       have n2_ := Aside0.mk (Kd.V_drew HO_7.out)
       have n3_ := Aside0.mk (Kd.V_drew HO_10.out)
       have n4_ := Aside0.mk (blk_drew BK321.out)
       have n5_ := Aside0.mk (below_drew1 HB.out)
       clear HO_0
       clear HO_4
       clear HO_7
       clear HO_10
       clear BK321
       clear HB
       have HO_0 := n0_
       have HO_4 := n1_
       have HO_7 := n2_
       have HO_10 := n3_
       have BK321 := n4_
       have HB := n5_
       clear n0_ n1_ n2_ n3_ n4_ n5_
       have q25 : ((ji16) : Int) ≤ ((l0.length : Int) : Int) := of_decide_eq_true (by first | (with_reducible assumption) | assumption)
       obtain ⟨i025, hi025, _, hsz25, _⟩ := info_parts info5
       have hroom25 : l0.length ≤ c0 := (Kd.V_reads' HO_0.out).2.1
       have hC25 : Kd.F (Kd.int .u8) _ _ A0 l0.length l0 := (Kd.V_at (base := w.heap.size) HO_0.out).2.2
       have q025 : (0 : Int) ≤ ((ji16) : Int) := of_decide_eq_true (by first | (with_reducible assumption) | assumption)
       have hcut25 := cut_from (P := Try.prog) 26 5 .i64 Try.underlying26 hi025 1 hsz25 A0 l0.length c0 (ji16) q025 q25
       have hr25 := Kd.F_cut (m := ((ji16) : Int).toNat) (c := c0) hC25 (by (try clear hji16; try clear hji16w; omega)) hroom25
       obtain ⟨A25, hA25⟩ : ∃ A1, A1 = (if c0 = ((ji16) : Int).toNat then A0 else (A0 : Option Addr).map (·.add (((ji16) : Int).toNat * 1))) := ⟨_, rfl⟩
       obtain ⟨c25, hc25⟩ : ∃ c1, c1 = c0 - ((ji16) : Int).toNat := ⟨_, rfl⟩
       have hy25 : y339.length = l0.length - ((ji16) : Int).toNat := (by rw [Ny339.out, List.length_drop] <;> (try clear hji16; try clear hji16w; omega))
       rw [show (l0).drop ((ji16) : Int).toNat = y339 from Ny339.out.symm] at hr25
       replace hr25 : Kd.F (Kd.int .u8) _ _ A25 y339.length y339 := (by rw [hA25]; exact hr25)
       rw [← hy25, ← hA25, ← hc25] at hcut25
       have HO343 := Aside0.mk (show Kd.V (Kd.int .u8) 5 _ w.heap.size _ (.slice A25 y339.length c25) y339 from Kd.V_mk (by rw [hy25, hc25]; exact Nat.sub_le_sub_right hroom25 _) hr25)
       have HC343 := Aside0.mk (show y339.length ≤ c25 from by rw [hy25, hc25]; exact Nat.sub_le_sub_right hroom25 _)
       clear hr25 hC25 hroom25 hi025 hsz25 hc25
       have KY25 := Aside0.mk hy25
       have KA25 := Aside0.mk hA25
       clear hy25 hA25
       replace q25 := eq_true q25
       refine start_ (n := 15) (S := fun w' => (convert 26 9 (Value.slice Ao21 t322.length co21)).run Try.prog w' = .ok (.string (strOfNums t322)) w' ∧ (convert 26 9 (Value.slice Ao22 t327.length co22)).run Try.prog w' = .ok (.string (strOfNums t327)) w' ∧ (convert 26 9 (Value.slice Ao23 t332.length co23)).run Try.prog w' = .ok (.string (strOfNums t332)) w') (ds := []) #[false, false, false, false, false, false, false, false, false, false, false, false, false, false, false] (by kernel_rfl) rfl rfl ⟨(Kd.C_string (P := Try.prog) (A := Ao21) (c := co21) Try.underlying26 Try.underlying5 Try.underlying9 ((Kd.V_reads' HO_4.out).2.2)), (Kd.C_string (P := Try.prog) (A := Ao22) (c := co22) Try.underlying26 Try.underlying5 Try.underlying9 ((Kd.V_reads' HO_7.out).2.2)), (Kd.C_string (P := Try.prog) (A := Ao23) (c := co23) Try.underlying26 Try.underlying5 Try.underlying9 ((Kd.V_reads' HO_10.out).2.2))⟩ (fun hHeld => ?_); refine with_tabW waybillref7_MsgOf.tab7 waybillref7_MsgOf.bits7 (fun HT_ HW_ => ?_)
       generalize wc.drew = w24 at HO_0 HO_4 HO_7 HO_10 BK321 HB HO343 hHeld ⊢
       refine pure_ (i := 0) (N := some 57) (v := ?_) (a' := ?_) #[true, false, false, false, false, false, false, false, false, false, false, false, false, false, false] rfl rfl (any_of HT_.out (by kernel_rfl)) (fun _ _ _ h => h) (Or.inl ⟨by rfl, ?_⟩) ?_ ?_
       rotate_left
       ·
        intro w'
        go_simp
        with_reducible rfl
       rotate_left
       ·
        simp only [Act.put, List.setIfInBounds_toArray, List.set_cons_zero, List.set_cons_succ, i64_w, i32_w]
        rfl
       refine pure_ (i := 2) (N := some 59) (v := ?_) (a' := ?_) #[true, false, true, false, false, false, false, false, false, false, false, false, false, false, false] rfl rfl (any_of HT_.out (by kernel_rfl)) (fun _ _ _ h => h) (Or.inl ⟨by rfl, ?_⟩) ?_ ?_
       rotate_left
       ·
        intro w'
        go_simp
        with_reducible rfl
       rotate_left
       ·
        simp only [Act.put, List.setIfInBounds_toArray, List.set_cons_zero, List.set_cons_succ, i64_w, i32_w]
        rfl
       refine pure_ (i := 4) (N := some 61) (v := ?_) (a' := ?_) #[true, false, true, false, true, false, false, false, false, false, false, false, false, false, false] rfl rfl (any_of HT_.out (by kernel_rfl)) (fun _ _ _ h => h) (Or.inl ⟨by rfl, ?_⟩) ?_ ?_
       rotate_left
       ·
        intro w'
        go_simp
        with_reducible rfl
       rotate_left
       ·
        simp only [Act.put, List.setIfInBounds_toArray, List.set_cons_zero, List.set_cons_succ, i64_w, i32_w]
        rfl
       refine pure_ (i := 6) (N := some 63) (v := ?_) (a' := ?_) #[true, false, true, false, true, false, true, false, false, false, false, false, false, false, false] rfl rfl (any_of HT_.out (by kernel_rfl)) (fun _ _ _ h => h) (Or.inl ⟨by rfl, ?_⟩) ?_ ?_
       rotate_left
       ·
        intro w'
        go_simp
        with_reducible rfl
       rotate_left
       ·
        simp only [Act.put, List.setIfInBounds_toArray, List.set_cons_zero, List.set_cons_succ, i64_w, i32_w]
        rfl
       refine pure_ (i := 7) (N := some 64) (v := ?_) (a' := ?_) #[true, false, true, false, true, false, true, true, false, false, false, false, false, false, false] rfl rfl (any_of HT_.out (by kernel_rfl)) (fun _ _ _ h => h) (Or.inl ⟨by rfl, ?_⟩) ?_ ?_
       rotate_left
       ·
        intro w'
        go_simp
        with_reducible rfl
       rotate_left
       ·
        simp only [Act.put, List.setIfInBounds_toArray, List.set_cons_zero, List.set_cons_succ, i64_w, i32_w]
        rfl
       refine pure_ (i := 8) (N := some 65) (v := ?_) (a' := ?_) #[true, false, true, false, true, false, true, true, true, false, false, false, false, false, false] rfl rfl (any_of HT_.out (by kernel_rfl)) (fun _ _ _ h => h) (Or.inl ⟨by rfl, ?_⟩) ?_ ?_
       rotate_left
       ·
        intro w'
        go_simp
        with_reducible rfl
       rotate_left
       ·
        simp only [Act.put, List.setIfInBounds_toArray, List.set_cons_zero, List.set_cons_succ, i64_w, i32_w]
        rfl
       refine pure_ (i := 9) (N := some 66) (v := ?_) (a' := ?_) #[true, false, true, false, true, false, true, true, true, true, false, false, false, false, false] rfl rfl (any_of HT_.out (by kernel_rfl)) (fun _ _ _ h => h) (Or.inl ⟨by rfl, ?_⟩) ?_ ?_
       rotate_left
       ·
        intro w'
        go_simp
        with_reducible rfl
       rotate_left
       ·
        simp only [Act.put, List.setIfInBounds_toArray, List.set_cons_zero, List.set_cons_succ, i64_w, i32_w]
        rfl
       refine pure_ (i := 10) (N := some 67) (v := ?_) (a' := ?_) #[true, false, true, false, true, false, true, true, true, true, true, false, false, false, false] rfl rfl (any_of HT_.out (by kernel_rfl)) (fun _ _ _ h => h) (Or.inl ⟨by rfl, ?_⟩) ?_ ?_
       rotate_left
       ·
        intro w'
        go_simp
        with_reducible rfl
       rotate_left
       ·
        simp only [Act.put, List.setIfInBounds_toArray, List.set_cons_zero, List.set_cons_succ, i64_w, i32_w]
        rfl
       refine pure_ (i := 11) (N := some 68) (v := ?_) (a' := ?_) #[true, false, true, false, true, false, true, true, true, true, true, true, false, false, false] rfl rfl (any_of HT_.out (by kernel_rfl)) (fun _ _ _ h => h) (Or.inl ⟨by rfl, ?_⟩) ?_ ?_
       rotate_left
       ·
        intro w'
        go_simp
        with_reducible rfl
       rotate_left
       ·
        simp only [Act.put, List.setIfInBounds_toArray, List.set_cons_zero, List.set_cons_succ, i64_w, i32_w]
        rfl
       refine take_ (i := 1) (N := some 58) (v := ?_) (a' := ?_) #[true, true, true, false, true, false, true, true, true, true, true, true, false, false, false] rfl rfl (take_ofW HT_.out HW_.out (by kernel_rfl)) (fun _ _ _ h => h) (Or.inl ⟨by rfl, ?_⟩) hHeld ?_ ?_
       rotate_left
       ·
        rintro w' ⟨s0, s1, s2⟩
        go_simp
        with_reducible rfl
       rotate_left
       ·
        simp only [Act.put, List.setIfInBounds_toArray, List.set_cons_zero, List.set_cons_succ, i64_w, i32_w]
        rfl
       refine take_ (i := 3) (N := some 60) (v := ?_) (a' := ?_) #[true, true, true, true, true, false, true, true, true, true, true, true, false, false, false] rfl rfl (take_ofW HT_.out HW_.out (by kernel_rfl)) (fun _ _ _ h => h) (Or.inl ⟨by rfl, ?_⟩) hHeld ?_ ?_
       rotate_left
       ·
        rintro w' ⟨s0, s1, s2⟩
        go_simp
        with_reducible rfl
       rotate_left
       ·
        simp only [Act.put, List.setIfInBounds_toArray, List.set_cons_zero, List.set_cons_succ, i64_w, i32_w]
        rfl
       refine take_ (i := 5) (N := some 62) (v := ?_) (a' := ?_) #[true, true, true, true, true, true, true, true, true, true, true, true, false, false, false] rfl rfl (take_ofW HT_.out HW_.out (by kernel_rfl)) (fun _ _ _ h => h) (Or.inl ⟨by rfl, ?_⟩) hHeld ?_ ?_
       rotate_left
       ·
        rintro w' ⟨s0, s1, s2⟩
        go_simp
        with_reducible rfl
       rotate_left
       ·
        simp only [Act.put, List.setIfInBounds_toArray, List.set_cons_zero, List.set_cons_succ, i64_w, i32_w]
        rfl
       refine pure_ (i := 12) (N := some 69) (v := ?_) (a' := ?_) #[true, true, true, true, true, true, true, true, true, true, true, true, true, false, false] rfl rfl (any_of HT_.out (by kernel_rfl)) (fun _ _ _ h => h) (Or.inl ⟨by rfl, ?_⟩) ?_ ?_
       rotate_left
       ·
        intro w'
        go_simp
        with_reducible rfl
       rotate_left
       ·
        simp only [Act.put, List.setIfInBounds_toArray, List.set_cons_zero, List.set_cons_succ, i64_w, i32_w]
        rfl
       refine one_ (i := 13) (N := some 15) #[true, true, true, true, true, true, true, true, true, true, true, true, true, true, false] rfl rfl (one_of HT_.out (by kernel_rfl)) (by decide) (fun K hK => ?_)
       refine box_step ?hg (N := 15) ?hd (cs := #[.string (⟨#[]⟩ : ByteArray), .string (⟨#[]⟩ : ByteArray), .string (⟨#[]⟩ : ByteArray), .int .i64 0, .slice none 0 0]) (t := 77) ?hr ?_; (case hd => rfl); (case hg => rfl); (case hr => first | (go_simp; done) | (go_simp; rfl))
       intro gb344 hg w26 hbox hb
       have n0_ := Aside0.mk (Kd.V_below (Kd.V_elderB (by exact HO_0.out) gb344 (Nat.le_of_eq hg.symm)) hb)
       have n1_ := Aside0.mk (Kd.V_below (Kd.V_elderB (by exact HO_4.out) gb344 (Nat.le_of_eq hg.symm)) hb)
       have n2_ := Aside0.mk (Kd.V_below (Kd.V_elderB (by exact HO_7.out) gb344 (Nat.le_of_eq hg.symm)) hb)
       have n3_ := Aside0.mk (Kd.V_below (Kd.V_elderB (by exact HO_10.out) gb344 (Nat.le_of_eq hg.symm)) hb)
       have n4_ := Aside0.mk (Kd.V_below (Kd.V_elderB (by exact HO343.out) gb344 (Nat.le_of_eq hg.symm)) hb)
       have n5_ := Aside0.mk (blk_below (g := gb321) (o := .cells #[.string (⟨#[]⟩ : ByteArray), .string (⟨#[]⟩ : ByteArray), .string (⟨#[]⟩ : ByteArray), .int .i64 0, .slice none 0 0] 77 (0, 0)) (by exact BK321.out) hb)
       have n6_ := Aside0.mk (below_step (by repeat (with_reducible first | exact HB.out | apply below_alloc | apply pw_below_drewN | apply below_drew1 | refine below_set ?_ GE321.out)) hb)
       have n7_ := Aside0.mk (hbox)
       have n8_ := Aside0.mk ((by rw [hg]; exact (below_size (by repeat (with_reducible first | exact HB.out | apply below_alloc | apply pw_below_drewN | apply below_drew1 | refine below_set ?_ GE321.out))) : w.heap.size ≤ gb344))
       have n9_ := Aside0.mk ((by rw [hg]; exact (below_size (by repeat (with_reducible first | exact HB.out | apply below_alloc | apply pw_below_drewN | apply below_drew1 | refine below_set ?_ GE321.out))) : w.heap.size ≤ gb344))
       have n10_ := Aside0.mk ((by rw [hg]; exact Nat.ne_of_lt (blk_lt (g := gb321) (o := .cells #[.string (⟨#[]⟩ : ByteArray), .string (⟨#[]⟩ : ByteArray), .string (⟨#[]⟩ : ByteArray), .int .i64 0, .slice none 0 0] 77 (0, 0)) (by exact BK321.out)) : gb321 ≠ gb344))
       have n11_ := Aside0.mk ((by rw [hg]; exact Nat.ne_of_gt (blk_lt (g := gb321) (o := .cells #[.string (⟨#[]⟩ : ByteArray), .string (⟨#[]⟩ : ByteArray), .string (⟨#[]⟩ : ByteArray), .int .i64 0, .slice none 0 0] 77 (0, 0)) (by exact BK321.out)) : gb344 ≠ gb321))
       clear HO_0
       clear HO_4
       clear HO_7
       clear HO_10
       clear HO343
       clear BK321
       clear HB
       have HO_0 := n0_
       have HO_4 := n1_
       have HO_7 := n2_
       have HO_10 := n3_
       have HO343 := n4_
       have BK321 := n5_
       have HB := n6_
       have BK344 := n7_
       have GW344 := n8_
       have GE344 := n9_
       have NB321_344 := n10_
       have NB344_321 := n11_
       clear n0_ n1_ n2_ n3_ n4_ n5_ n6_ n7_ n8_ n9_ n10_ n11_
       clear hb hbox hg
       refine hK.out _ _ ⟨(Kd.C_string (P := Try.prog) (A := Ao21) (c := co21) Try.underlying26 Try.underlying5 Try.underlying9 ((Kd.V_reads' HO_4.out).2.2)), (Kd.C_string (P := Try.prog) (A := Ao22) (c := co22) Try.underlying26 Try.underlying5 Try.underlying9 ((Kd.V_reads' HO_7.out).2.2)), (Kd.C_string (P := Try.prog) (A := Ao23) (c := co23) Try.underlying26 Try.underlying5 Try.underlying9 ((Kd.V_reads' HO_10.out).2.2))⟩ (fun hHeld => ?_)
       clear hK K
       refine norm_ (a' := ?_) ?_ ?_
       rotate_left
       ·
        show Act.put _ (some 15) _ = _
        simp only [Act.put, List.setIfInBounds_toArray, List.set_cons_zero, List.set_cons_succ, i64_w, i32_w]
        rfl
       refine one_ (i := 14) (N := none) #[true, true, true, true, true, true, true, true, true, true, true, true, true, true, true] rfl rfl (one_of HT_.out (by kernel_rfl)) (by decide) (fun K hK => ?_)
       have hs27 : w26.cell? ⟨gb344, 0, none⟩ = some (.string (⟨#[]⟩ : ByteArray)) := (blk_cell BK344.out 0).trans rfl
       have hfs27 := blk_frozen BK344.out 0
       have hns27_0 := NB321_344.out
       have hms27_0 := NB344_321.out
       have hs28 : w26.cell? ⟨gb344, 1, none⟩ = some (.string (⟨#[]⟩ : ByteArray)) := (blk_cell BK344.out 1).trans rfl
       have hfs28 := blk_frozen BK344.out 1
       have hns28_0 := NB321_344.out
       have hms28_0 := NB344_321.out
       have hs29 : w26.cell? ⟨gb344, 2, none⟩ = some (.string (⟨#[]⟩ : ByteArray)) := (blk_cell BK344.out 2).trans rfl
       have hfs29 := blk_frozen BK344.out 2
       have hns29_0 := NB321_344.out
       have hms29_0 := NB344_321.out
       have hs30 : w26.cell? ⟨gb344, 3, none⟩ = some (.int .i64 0) := (blk_cell BK344.out 3).trans rfl
       have hfs30 := blk_frozen BK344.out 3
       have hns30_0 := NB321_344.out
       have hms30_0 := NB344_321.out
       have hs31 : w26.cell? ⟨gb344, 4, none⟩ = some (.slice none 0 0) := (blk_cell BK344.out 4).trans rfl
       have hfs31 := blk_frozen BK344.out 4
       have hns31_0 := NB321_344.out
       have hms31_0 := NB344_321.out
       refine skip_ (w1 := ?_) (by rfl) rfl ?_ ?_
       rotate_left
       ·
        go_simp
        rfl
       refine hK.out _ _ ⟨(Kd.C_string (P := Try.prog) (A := Ao21) (c := co21) Try.underlying26 Try.underlying5 Try.underlying9 ((Kd.V_reads' (Kd.V_far (p := ⟨gb344, _, none⟩) (Kd.V_far (p := ⟨gb344, _, none⟩) (Kd.V_far (p := ⟨gb344, _, none⟩) (Kd.V_far (p := ⟨gb344, _, none⟩) (Kd.V_far (p := ⟨gb344, _, none⟩) HO_4.out (fun _ hk => hk.2) _) (fun _ hk => hk.2) _) (fun _ hk => hk.2) _) (fun _ hk => hk.2) _) (fun _ hk => hk.2) _)).2.2)), (Kd.C_string (P := Try.prog) (A := Ao22) (c := co22) Try.underlying26 Try.underlying5 Try.underlying9 ((Kd.V_reads' (Kd.V_far (p := ⟨gb344, _, none⟩) (Kd.V_far (p := ⟨gb344, _, none⟩) (Kd.V_far (p := ⟨gb344, _, none⟩) (Kd.V_far (p := ⟨gb344, _, none⟩) (Kd.V_far (p := ⟨gb344, _, none⟩) HO_7.out (fun _ hk => hk.2) _) (fun _ hk => hk.2) _) (fun _ hk => hk.2) _) (fun _ hk => hk.2) _) (fun _ hk => hk.2) _)).2.2)), (Kd.C_string (P := Try.prog) (A := Ao23) (c := co23) Try.underlying26 Try.underlying5 Try.underlying9 ((Kd.V_reads' (Kd.V_far (p := ⟨gb344, _, none⟩) (Kd.V_far (p := ⟨gb344, _, none⟩) (Kd.V_far (p := ⟨gb344, _, none⟩) (Kd.V_far (p := ⟨gb344, _, none⟩) (Kd.V_far (p := ⟨gb344, _, none⟩) HO_10.out (fun _ hk => hk.2) _) (fun _ hk => hk.2) _) (fun _ hk => hk.2) _) (fun _ hk => hk.2) _) (fun _ hk => hk.2) _)).2.2))⟩ (fun hHeld => ?_)
       clear hK K
       refine done_ (done_of HT_.out (by kernel_rfl)) ?_
       have hnb32 := NB344_321.out
       have hnc32 := NB321_344.out
       have hcz33_0 : w26.cell? ⟨gb344, 0, none⟩ = some (.string (⟨#[]⟩ : ByteArray)) := (blk_cell BK344.out 0).trans rfl
       have hcz33_1 : w26.cell? ⟨gb344, 1, none⟩ = some (.string (⟨#[]⟩ : ByteArray)) := (blk_cell BK344.out 1).trans rfl
       have hcz33_2 : w26.cell? ⟨gb344, 2, none⟩ = some (.string (⟨#[]⟩ : ByteArray)) := (blk_cell BK344.out 2).trans rfl
       have hcz33_3 : w26.cell? ⟨gb344, 3, none⟩ = some (.int .i64 0) := (blk_cell BK344.out 3).trans rfl
       have hcz33_4 : w26.cell? ⟨gb344, 4, none⟩ = some (.slice none 0 0) := (blk_cell BK344.out 4).trans rfl
       have hfz33_0 := blk_frozen BK344.out 0
       have hfz33_1 := blk_frozen BK344.out 1
       have hfz33_2 := blk_frozen BK344.out 2
       have hfz33_3 := blk_frozen BK344.out 3
       have hfz33_4 := blk_frozen BK344.out 4
       try go_wp2_with (first | ((with_reducible refine gate_callee (f := 69) rfl ?_); refine goesL_ (some 71) rfl rfl Try.func69 (by kernel_rfl) rfl #[.agg #[.string (strOfNums t322), .string (strOfNums t327), .string (strOfNums t332), .int .i64 (wrap64 (t337)), .slice A25 y339.length c25]] rfl (by (try simp only [List.map_toArray, List.map_cons, List.map_nil]); first | done | rfl | (simp only [List.length_drop, List.length_take]; rfl)) ?_; (with_reducible refine (waybillref7_MsgOk.calls (strOfNums t322) (strOfNums t327) (strOfNums t332) (wrap64 (t337)) _ _ y339 true _ ?side1 ?side2 A19.out).mono ?_); (case side1 => refine (Kd.V_reads' (e := 5) (base := w.heap.size) (ok := fun k_ => (((P0_ k_ ∨ w.heap.size ≤ k_) ∧ k_ ≠ gb321) ∧ k_ ≠ gb344)) (n := y339.length) (c := c25) ?_).2.2; exact (by exact (Kd.V_mono (Kd.V_far (p := ⟨gb344, 4, none⟩) (Kd.V_far (p := ⟨gb344, 3, none⟩) (Kd.V_far (p := ⟨gb344, 2, none⟩) (Kd.V_far (p := ⟨gb344, 1, none⟩) (Kd.V_far (p := ⟨gb344, 0, none⟩) (Kd.V_mono HO343.out (fun k_ hk => (⟨hk, hk.2⟩ : _ ∧ k_ ≠ gb344))) (fun _ hk => hk.2) (.string (strOfNums t322))) (fun _ hk => hk.2) (.string (strOfNums t327))) (fun _ hk => hk.2) (.string (strOfNums t332))) (fun _ hk => hk.2) (.int .i64 (wrap64 (t337)))) (fun _ hk => hk.2) (.slice A25 y339.length c25)) (fun _ h_ => h_.1)))); (case side2 => exact (Kd.V_reads' HO343.out).2.1); rintro e w34 ⟨rfl, hb⟩; refine ⟨_, rfl, ?_⟩; have n0_ := Aside0.mk (Kd.V_below (by exact (Kd.V_mono (Kd.V_far (p := ⟨gb344, 4, none⟩) (Kd.V_far (p := ⟨gb344, 3, none⟩) (Kd.V_far (p := ⟨gb344, 2, none⟩) (Kd.V_far (p := ⟨gb344, 1, none⟩) (Kd.V_far (p := ⟨gb344, 0, none⟩) (Kd.V_mono HO_0.out (fun k_ hk => (⟨hk, hk.2⟩ : _ ∧ k_ ≠ gb344))) (fun _ hk => hk.2) (.string (strOfNums t322))) (fun _ hk => hk.2) (.string (strOfNums t327))) (fun _ hk => hk.2) (.string (strOfNums t332))) (fun _ hk => hk.2) (.int .i64 (wrap64 (t337)))) (fun _ hk => hk.2) (.slice A25 y339.length c25)) (fun _ h_ => h_.1))) hb); have n1_ := Aside0.mk (Kd.V_below (by exact (Kd.V_mono (Kd.V_far (p := ⟨gb344, 4, none⟩) (Kd.V_far (p := ⟨gb344, 3, none⟩) (Kd.V_far (p := ⟨gb344, 2, none⟩) (Kd.V_far (p := ⟨gb344, 1, none⟩) (Kd.V_far (p := ⟨gb344, 0, none⟩) (Kd.V_mono HO_4.out (fun k_ hk => (⟨hk, hk.2⟩ : _ ∧ k_ ≠ gb344))) (fun _ hk => hk.2) (.string (strOfNums t322))) (fun _ hk => hk.2) (.string (strOfNums t327))) (fun _ hk => hk.2) (.string (strOfNums t332))) (fun _ hk => hk.2) (.int .i64 (wrap64 (t337)))) (fun _ hk => hk.2) (.slice A25 y339.length c25)) (fun _ h_ => h_.1))) hb); have n2_ := Aside0.mk (Kd.V_below (by exact (Kd.V_mono (Kd.V_far (p := ⟨gb344, 4, none⟩) (Kd.V_far (p := ⟨gb344, 3, none⟩) (Kd.V_far (p := ⟨gb344, 2, none⟩) (Kd.V_far (p := ⟨gb344, 1, none⟩) (Kd.V_far (p := ⟨gb344, 0, none⟩) (Kd.V_mono HO_7.out (fun k_ hk => (⟨hk, hk.2⟩ : _ ∧ k_ ≠ gb344))) (fun _ hk => hk.2) (.string (strOfNums t322))) (fun _ hk => hk.2) (.string (strOfNums t327))) (fun _ hk => hk.2) (.string (strOfNums t332))) (fun _ hk => hk.2) (.int .i64 (wrap64 (t337)))) (fun _ hk => hk.2) (.slice A25 y339.length c25)) (fun _ h_ => h_.1))) hb); have n3_ := Aside0.mk (Kd.V_below (by exact (Kd.V_mono (Kd.V_far (p := ⟨gb344, 4, none⟩) (Kd.V_far (p := ⟨gb344, 3, none⟩) (Kd.V_far (p := ⟨gb344, 2, none⟩) (Kd.V_far (p := ⟨gb344, 1, none⟩) (Kd.V_far (p := ⟨gb344, 0, none⟩) (Kd.V_mono HO_10.out (fun k_ hk => (⟨hk, hk.2⟩ : _ ∧ k_ ≠ gb344))) (fun _ hk => hk.2) (.string (strOfNums t322))) (fun _ hk => hk.2) (.string (strOfNums t327))) (fun _ hk => hk.2) (.string (strOfNums t332))) (fun _ hk => hk.2) (.int .i64 (wrap64 (t337)))) (fun _ hk => hk.2) (.slice A25 y339.length c25)) (fun _ h_ => h_.1))) hb); have n4_ := Aside0.mk (Kd.V_below (by exact (Kd.V_mono (Kd.V_far (p := ⟨gb344, 4, none⟩) (Kd.V_far (p := ⟨gb344, 3, none⟩) (Kd.V_far (p := ⟨gb344, 2, none⟩) (Kd.V_far (p := ⟨gb344, 1, none⟩) (Kd.V_far (p := ⟨gb344, 0, none⟩) (Kd.V_mono HO343.out (fun k_ hk => (⟨hk, hk.2⟩ : _ ∧ k_ ≠ gb344))) (fun _ hk => hk.2) (.string (strOfNums t322))) (fun _ hk => hk.2) (.string (strOfNums t327))) (fun _ hk => hk.2) (.string (strOfNums t332))) (fun _ hk => hk.2) (.int .i64 (wrap64 (t337)))) (fun _ hk => hk.2) (.slice A25 y339.length c25)) (fun _ h_ => h_.1))) hb); have n5_ := Aside0.mk (blk_below (g := gb321) (o := .cells #[.string (⟨#[]⟩ : ByteArray), .string (⟨#[]⟩ : ByteArray), .string (⟨#[]⟩ : ByteArray), .int .i64 0, .slice none 0 0] 77 (0, 0)) (by refine blk_far ?_ NB321_344.out _; refine blk_far ?_ NB321_344.out _; refine blk_far ?_ NB321_344.out _; refine blk_far ?_ NB321_344.out _; refine blk_far ?_ NB321_344.out _; exact BK321.out) hb); have n6_ := Aside0.mk (blk_below (g := gb344) (o := .cells #[.string (strOfNums t322), .string (strOfNums t327), .string (strOfNums t332), .int .i64 (wrap64 (t337)), .slice A25 y339.length c25] 77 (0, 0)) (by refine blk_put (cs := #[.string (strOfNums t322), .string (strOfNums t327), .string (strOfNums t332), .int .i64 (wrap64 (t337)), .slice none 0 0]) ?_ 4 _ rfl; refine blk_put (cs := #[.string (strOfNums t322), .string (strOfNums t327), .string (strOfNums t332), .int .i64 0, .slice none 0 0]) ?_ 3 _ rfl; refine blk_put (cs := #[.string (strOfNums t322), .string (strOfNums t327), .string (⟨#[]⟩ : ByteArray), .int .i64 0, .slice none 0 0]) ?_ 2 _ rfl; refine blk_put (cs := #[.string (strOfNums t322), .string (⟨#[]⟩ : ByteArray), .string (⟨#[]⟩ : ByteArray), .int .i64 0, .slice none 0 0]) ?_ 1 _ rfl; refine blk_put (cs := #[.string (⟨#[]⟩ : ByteArray), .string (⟨#[]⟩ : ByteArray), .string (⟨#[]⟩ : ByteArray), .int .i64 0, .slice none 0 0]) ?_ 0 _ rfl; exact BK344.out) hb); have n7_ := Aside0.mk (below_step (by repeat (with_reducible first | exact HB.out | apply below_alloc | apply pw_below_drewN | apply below_drew1 | refine below_set ?_ GE321.out | refine below_set ?_ GE344.out)) hb); clear HO_0; clear HO_4; clear HO_7; clear HO_10; clear HO343; clear BK321; clear BK344; clear HB; have HO_0 := n0_; have HO_4 := n1_; have HO_7 := n2_; have HO_10 := n3_; have HO343 := n4_; have BK321 := n5_; have BK344 := n6_; have HB := n7_; clear n0_ n1_ n2_ n3_ n4_ n5_ n6_ n7_; (try clear hb); (try clear hb2); (try clear hk); (try clear hi); (try clear hge); have hcz35_0 : w34.cell? ⟨gb344, 0, none⟩ = some (.string (strOfNums t322)) := (blk_cell BK344.out 0).trans rfl; have hcz35_1 : w34.cell? ⟨gb344, 1, none⟩ = some (.string (strOfNums t327)) := (blk_cell BK344.out 1).trans rfl; have hcz35_2 : w34.cell? ⟨gb344, 2, none⟩ = some (.string (strOfNums t332)) := (blk_cell BK344.out 2).trans rfl; have hcz35_3 : w34.cell? ⟨gb344, 3, none⟩ = some (.int .i64 (wrap64 (t337))) := (blk_cell BK344.out 3).trans rfl; have hcz35_4 : w34.cell? ⟨gb344, 4, none⟩ = some (.slice A25 y339.length c25) := (blk_cell BK344.out 4).trans rfl; have hfz35_0 := blk_frozen BK344.out 0; have hfz35_1 := blk_frozen BK344.out 1; have hfz35_2 := blk_frozen BK344.out 2; have hfz35_3 := blk_frozen BK344.out 3; have hfz35_4 := blk_frozen BK344.out 4; have hcz36_0 : w34.cell? ⟨gb321, 0, none⟩ = some (.string (⟨#[]⟩ : ByteArray)) := (blk_cell BK321.out 0).trans rfl; have hcz36_1 : w34.cell? ⟨gb321, 1, none⟩ = some (.string (⟨#[]⟩ : ByteArray)) := (blk_cell BK321.out 1).trans rfl; have hcz36_2 : w34.cell? ⟨gb321, 2, none⟩ = some (.string (⟨#[]⟩ : ByteArray)) := (blk_cell BK321.out 2).trans rfl; have hcz36_3 : w34.cell? ⟨gb321, 3, none⟩ = some (.int .i64 0) := (blk_cell BK321.out 3).trans rfl; have hcz36_4 : w34.cell? ⟨gb321, 4, none⟩ = some (.slice none 0 0) := (blk_cell BK321.out 4).trans rfl; have hfz36_0 := blk_frozen BK321.out 0; have hfz36_1 := blk_frozen BK321.out 1; have hfz36_2 := blk_frozen BK321.out 2; have hfz36_3 := blk_frozen BK321.out 3; have hfz36_4 := blk_frozen BK321.out 4))
       refine bodyPost_ret (results_ct rfl _ _ gb321 77 #[.string (strOfNums t322), .string (strOfNums t327), .string (strOfNums t332), .int .i64 (wrap64 (t337)), .slice A25 y339.length c25] (0, 0) _ rfl (by refine blk_put (cs := #[.string (strOfNums t322), .string (strOfNums t327), .string (strOfNums t332), .int .i64 (wrap64 (t337)), .slice none 0 0]) ?_ 4 _ rfl; refine blk_put (cs := #[.string (strOfNums t322), .string (strOfNums t327), .string (strOfNums t332), .int .i64 0, .slice none 0 0]) ?_ 3 _ rfl; refine blk_put (cs := #[.string (strOfNums t322), .string (strOfNums t327), .string (⟨#[]⟩ : ByteArray), .int .i64 0, .slice none 0 0]) ?_ 2 _ rfl; refine blk_put (cs := #[.string (strOfNums t322), .string (⟨#[]⟩ : ByteArray), .string (⟨#[]⟩ : ByteArray), .int .i64 0, .slice none 0 0]) ?_ 1 _ rfl; refine blk_put (cs := #[.string (⟨#[]⟩ : ByteArray), .string (⟨#[]⟩ : ByteArray), .string (⟨#[]⟩ : ByteArray), .int .i64 0, .slice none 0 0]) ?_ 0 _ rfl; exact BK321.out) Try.underlying77 rfl (by kernel_rfl)) rfl ?_
       exact ⟨_, by first | rfl | (simp [errW_none, errW_some]; done) | (simp [errW_none, errW_some]; rfl) | (simp only [← hji16]; first | rfl | (simp [errW_none, errW_some]; done) | (simp [errW_none, errW_some]; rfl)) | (simp [*, errW_none, errW_some]; done) | (simp [*, errW_none, errW_some]; rfl), by exact Kd.V_mono (Kd.V_far (p := ⟨gb321, 4, none⟩) (Kd.V_far (p := ⟨gb321, 3, none⟩) (Kd.V_far (p := ⟨gb321, 2, none⟩) (Kd.V_far (p := ⟨gb321, 1, none⟩) (Kd.V_far (p := ⟨gb321, 0, none⟩) (Kd.V_mono HO343.out (fun k_ hk => (⟨hk, hk.1.2⟩ : _ ∧ k_ ≠ gb321))) (fun _ hk => hk.2) (.string (strOfNums t322))) (fun _ hk => hk.2) (.string (strOfNums t327))) (fun _ hk => hk.2) (.string (strOfNums t332))) (fun _ hk => hk.2) (.int .i64 (wrap64 (t337)))) (fun _ hk => hk.2) (.slice A25 y339.length c25)) (fun _ hk => hk.1.1.1), by repeat (with_reducible first | exact HB.out | apply below_alloc | apply pw_below_drewN | apply below_drew1 | refine below_set ?_ GE321.out | refine below_set ?_ GE344.out)⟩
      ·
       replace c20 := Bool.eq_false_iff.mpr c20
       subst c20
       have H1 : (some ((⟨#[]⟩ : ByteArray), (⟨#[]⟩ : ByteArray), (⟨#[]⟩ : ByteArray), 0, ([] : List Int), false)) = some (r1, r2, r3, r4, r5, r6) := by rw [if_neg (show ¬ (false = true) by decide)] at H; exact H
       clear H
       have H := H1
       clear H1
       simp only [Option.some.injEq, Prod.mk.injEq] at H
       obtain ⟨rfl, rfl, rfl, rfl, rfl, rfl⟩ := H
       obtain ⟨Ao37, co37, eo37⟩ := Kd.V_slice HO_4.out
       subst eo37
       obtain ⟨Ao38, co38, eo38⟩ := Kd.V_slice HO_7.out
       subst eo38
       obtain ⟨Ao39, co39, eo39⟩ := Kd.V_slice HO_10.out
       subst eo39
       try go_wp2
       have n0_ := Aside0.mk (Kd.V_drew HO_0.out)
       have n1_ := Aside0.mk (Kd.V_drew HO_4.out)
       have n2_ := Aside0.mk (Kd.V_drew HO_7.out)
       have n3_ := Aside0.mk (Kd.V_drew HO_10.out)
       have n4_ := Aside0.mk (blk_drew BK321.out)
       have n5_ := Aside0.mk (below_drew1 HB.out)
       clear HO_0
       clear HO_4
       clear HO_7
       clear HO_10
       clear BK321
       clear HB
       have HO_0 := n0_
       have HO_4 := n1_
       have HO_7 := n2_
       have HO_10 := n3_
       have BK321 := n4_
       have HB := n5_
       clear n0_ n1_ n2_ n3_ n4_ n5_
       have q41 : ((ji16) : Int) ≤ ((l0.length : Int) : Int) := of_decide_eq_true (by first | (with_reducible assumption) | assumption)
       obtain ⟨i041, hi041, _, hsz41, _⟩ := info_parts info5
       have hroom41 : l0.length ≤ c0 := (Kd.V_reads' HO_0.out).2.1
       have hC41 : Kd.F (Kd.int .u8) _ _ A0 l0.length l0 := (Kd.V_at (base := w.heap.size) HO_0.out).2.2
       have q041 : (0 : Int) ≤ ((ji16) : Int) := of_decide_eq_true (by first | (with_reducible assumption) | assumption)
       have hcut41 := cut_from (P := Try.prog) 26 5 .i64 Try.underlying26 hi041 1 hsz41 A0 l0.length c0 (ji16) q041 q41
       have hr41 := Kd.F_cut (m := ((ji16) : Int).toNat) (c := c0) hC41 (by (try clear hji16; try clear hji16w; omega)) hroom41
       obtain ⟨A41, hA41⟩ : ∃ A1, A1 = (if c0 = ((ji16) : Int).toNat then A0 else (A0 : Option Addr).map (·.add (((ji16) : Int).toNat * 1))) := ⟨_, rfl⟩
       obtain ⟨c41, hc41⟩ : ∃ c1, c1 = c0 - ((ji16) : Int).toNat := ⟨_, rfl⟩
       have hy41 : y339.length = l0.length - ((ji16) : Int).toNat := (by rw [Ny339.out, List.length_drop] <;> (try clear hji16; try clear hji16w; omega))
       rw [show (l0).drop ((ji16) : Int).toNat = y339 from Ny339.out.symm] at hr41
       replace hr41 : Kd.F (Kd.int .u8) _ _ A41 y339.length y339 := (by rw [hA41]; exact hr41)
       rw [← hy41, ← hA41, ← hc41] at hcut41
       have HO343 := Aside0.mk (show Kd.V (Kd.int .u8) 5 _ w.heap.size _ (.slice A41 y339.length c41) y339 from Kd.V_mk (by rw [hy41, hc41]; exact Nat.sub_le_sub_right hroom41 _) hr41)
       have HC343 := Aside0.mk (show y339.length ≤ c41 from by rw [hy41, hc41]; exact Nat.sub_le_sub_right hroom41 _)
       clear hr41 hC41 hroom41 hi041 hsz41 hc41
       have KY41 := Aside0.mk hy41
       have KA41 := Aside0.mk hA41
       clear hy41 hA41
       replace q41 := eq_true q41
       refine start_ (n := 15) (S := fun w' => (convert 26 9 (Value.slice Ao37 t322.length co37)).run Try.prog w' = .ok (.string (strOfNums t322)) w' ∧ (convert 26 9 (Value.slice Ao38 t327.length co38)).run Try.prog w' = .ok (.string (strOfNums t327)) w' ∧ (convert 26 9 (Value.slice Ao39 t332.length co39)).run Try.prog w' = .ok (.string (strOfNums t332)) w') (ds := []) #[false, false, false, false, false, false, false, false, false, false, false, false, false, false, false] (by kernel_rfl) rfl rfl ⟨(Kd.C_string (P := Try.prog) (A := Ao37) (c := co37) Try.underlying26 Try.underlying5 Try.underlying9 ((Kd.V_reads' HO_4.out).2.2)), (Kd.C_string (P := Try.prog) (A := Ao38) (c := co38) Try.underlying26 Try.underlying5 Try.underlying9 ((Kd.V_reads' HO_7.out).2.2)), (Kd.C_string (P := Try.prog) (A := Ao39) (c := co39) Try.underlying26 Try.underlying5 Try.underlying9 ((Kd.V_reads' HO_10.out).2.2))⟩ (fun hHeld => ?_); refine with_tabW waybillref7_MsgOf.tab7 waybillref7_MsgOf.bits7 (fun HT_ HW_ => ?_)
       generalize wc.drew = w40 at HO_0 HO_4 HO_7 HO_10 BK321 HB HO343 hHeld ⊢
       refine pure_ (i := 0) (N := some 57) (v := ?_) (a' := ?_) #[true, false, false, false, false, false, false, false, false, false, false, false, false, false, false] rfl rfl (any_of HT_.out (by kernel_rfl)) (fun _ _ _ h => h) (Or.inl ⟨by rfl, ?_⟩) ?_ ?_
       rotate_left
       ·
        intro w'
        go_simp
        with_reducible rfl
       rotate_left
       ·
        simp only [Act.put, List.setIfInBounds_toArray, List.set_cons_zero, List.set_cons_succ, i64_w, i32_w]
        rfl
       refine pure_ (i := 2) (N := some 59) (v := ?_) (a' := ?_) #[true, false, true, false, false, false, false, false, false, false, false, false, false, false, false] rfl rfl (any_of HT_.out (by kernel_rfl)) (fun _ _ _ h => h) (Or.inl ⟨by rfl, ?_⟩) ?_ ?_
       rotate_left
       ·
        intro w'
        go_simp
        with_reducible rfl
       rotate_left
       ·
        simp only [Act.put, List.setIfInBounds_toArray, List.set_cons_zero, List.set_cons_succ, i64_w, i32_w]
        rfl
       refine pure_ (i := 4) (N := some 61) (v := ?_) (a' := ?_) #[true, false, true, false, true, false, false, false, false, false, false, false, false, false, false] rfl rfl (any_of HT_.out (by kernel_rfl)) (fun _ _ _ h => h) (Or.inl ⟨by rfl, ?_⟩) ?_ ?_
       rotate_left
       ·
        intro w'
        go_simp
        with_reducible rfl
       rotate_left
       ·
        simp only [Act.put, List.setIfInBounds_toArray, List.set_cons_zero, List.set_cons_succ, i64_w, i32_w]
        rfl
       refine pure_ (i := 6) (N := some 63) (v := ?_) (a' := ?_) #[true, false, true, false, true, false, true, false, false, false, false, false, false, false, false] rfl rfl (any_of HT_.out (by kernel_rfl)) (fun _ _ _ h => h) (Or.inl ⟨by rfl, ?_⟩) ?_ ?_
       rotate_left
       ·
        intro w'
        go_simp
        with_reducible rfl
       rotate_left
       ·
        simp only [Act.put, List.setIfInBounds_toArray, List.set_cons_zero, List.set_cons_succ, i64_w, i32_w]
        rfl
       refine pure_ (i := 7) (N := some 64) (v := ?_) (a' := ?_) #[true, false, true, false, true, false, true, true, false, false, false, false, false, false, false] rfl rfl (any_of HT_.out (by kernel_rfl)) (fun _ _ _ h => h) (Or.inl ⟨by rfl, ?_⟩) ?_ ?_
       rotate_left
       ·
        intro w'
        go_simp
        with_reducible rfl
       rotate_left
       ·
        simp only [Act.put, List.setIfInBounds_toArray, List.set_cons_zero, List.set_cons_succ, i64_w, i32_w]
        rfl
       refine pure_ (i := 8) (N := some 65) (v := ?_) (a' := ?_) #[true, false, true, false, true, false, true, true, true, false, false, false, false, false, false] rfl rfl (any_of HT_.out (by kernel_rfl)) (fun _ _ _ h => h) (Or.inl ⟨by rfl, ?_⟩) ?_ ?_
       rotate_left
       ·
        intro w'
        go_simp
        with_reducible rfl
       rotate_left
       ·
        simp only [Act.put, List.setIfInBounds_toArray, List.set_cons_zero, List.set_cons_succ, i64_w, i32_w]
        rfl
       refine pure_ (i := 9) (N := some 66) (v := ?_) (a' := ?_) #[true, false, true, false, true, false, true, true, true, true, false, false, false, false, false] rfl rfl (any_of HT_.out (by kernel_rfl)) (fun _ _ _ h => h) (Or.inl ⟨by rfl, ?_⟩) ?_ ?_
       rotate_left
       ·
        intro w'
        go_simp
        with_reducible rfl
       rotate_left
       ·
        simp only [Act.put, List.setIfInBounds_toArray, List.set_cons_zero, List.set_cons_succ, i64_w, i32_w]
        rfl
       refine pure_ (i := 10) (N := some 67) (v := ?_) (a' := ?_) #[true, false, true, false, true, false, true, true, true, true, true, false, false, false, false] rfl rfl (any_of HT_.out (by kernel_rfl)) (fun _ _ _ h => h) (Or.inl ⟨by rfl, ?_⟩) ?_ ?_
       rotate_left
       ·
        intro w'
        go_simp
        with_reducible rfl
       rotate_left
       ·
        simp only [Act.put, List.setIfInBounds_toArray, List.set_cons_zero, List.set_cons_succ, i64_w, i32_w]
        rfl
       refine pure_ (i := 11) (N := some 68) (v := ?_) (a' := ?_) #[true, false, true, false, true, false, true, true, true, true, true, true, false, false, false] rfl rfl (any_of HT_.out (by kernel_rfl)) (fun _ _ _ h => h) (Or.inl ⟨by rfl, ?_⟩) ?_ ?_
       rotate_left
       ·
        intro w'
        go_simp
        with_reducible rfl
       rotate_left
       ·
        simp only [Act.put, List.setIfInBounds_toArray, List.set_cons_zero, List.set_cons_succ, i64_w, i32_w]
        rfl
       refine take_ (i := 1) (N := some 58) (v := ?_) (a' := ?_) #[true, true, true, false, true, false, true, true, true, true, true, true, false, false, false] rfl rfl (take_ofW HT_.out HW_.out (by kernel_rfl)) (fun _ _ _ h => h) (Or.inl ⟨by rfl, ?_⟩) hHeld ?_ ?_
       rotate_left
       ·
        rintro w' ⟨s0, s1, s2⟩
        go_simp
        with_reducible rfl
       rotate_left
       ·
        simp only [Act.put, List.setIfInBounds_toArray, List.set_cons_zero, List.set_cons_succ, i64_w, i32_w]
        rfl
       refine take_ (i := 3) (N := some 60) (v := ?_) (a' := ?_) #[true, true, true, true, true, false, true, true, true, true, true, true, false, false, false] rfl rfl (take_ofW HT_.out HW_.out (by kernel_rfl)) (fun _ _ _ h => h) (Or.inl ⟨by rfl, ?_⟩) hHeld ?_ ?_
       rotate_left
       ·
        rintro w' ⟨s0, s1, s2⟩
        go_simp
        with_reducible rfl
       rotate_left
       ·
        simp only [Act.put, List.setIfInBounds_toArray, List.set_cons_zero, List.set_cons_succ, i64_w, i32_w]
        rfl
       refine take_ (i := 5) (N := some 62) (v := ?_) (a' := ?_) #[true, true, true, true, true, true, true, true, true, true, true, true, false, false, false] rfl rfl (take_ofW HT_.out HW_.out (by kernel_rfl)) (fun _ _ _ h => h) (Or.inl ⟨by rfl, ?_⟩) hHeld ?_ ?_
       rotate_left
       ·
        rintro w' ⟨s0, s1, s2⟩
        go_simp
        with_reducible rfl
       rotate_left
       ·
        simp only [Act.put, List.setIfInBounds_toArray, List.set_cons_zero, List.set_cons_succ, i64_w, i32_w]
        rfl
       refine pure_ (i := 12) (N := some 69) (v := ?_) (a' := ?_) #[true, true, true, true, true, true, true, true, true, true, true, true, true, false, false] rfl rfl (any_of HT_.out (by kernel_rfl)) (fun _ _ _ h => h) (Or.inl ⟨by rfl, ?_⟩) ?_ ?_
       rotate_left
       ·
        intro w'
        go_simp
        with_reducible rfl
       rotate_left
       ·
        simp only [Act.put, List.setIfInBounds_toArray, List.set_cons_zero, List.set_cons_succ, i64_w, i32_w]
        rfl
       refine one_ (i := 13) (N := some 15) #[true, true, true, true, true, true, true, true, true, true, true, true, true, true, false] rfl rfl (one_of HT_.out (by kernel_rfl)) (by decide) (fun K hK => ?_)
       refine box_step ?hg (N := 15) ?hd (cs := #[.string (⟨#[]⟩ : ByteArray), .string (⟨#[]⟩ : ByteArray), .string (⟨#[]⟩ : ByteArray), .int .i64 0, .slice none 0 0]) (t := 77) ?hr ?_; (case hd => rfl); (case hg => rfl); (case hr => first | (go_simp; done) | (go_simp; rfl))
       intro gb344 hg w42 hbox hb
       have n0_ := Aside0.mk (Kd.V_below (Kd.V_elderB (by exact HO_0.out) gb344 (Nat.le_of_eq hg.symm)) hb)
       have n1_ := Aside0.mk (Kd.V_below (Kd.V_elderB (by exact HO_4.out) gb344 (Nat.le_of_eq hg.symm)) hb)
       have n2_ := Aside0.mk (Kd.V_below (Kd.V_elderB (by exact HO_7.out) gb344 (Nat.le_of_eq hg.symm)) hb)
       have n3_ := Aside0.mk (Kd.V_below (Kd.V_elderB (by exact HO_10.out) gb344 (Nat.le_of_eq hg.symm)) hb)
       have n4_ := Aside0.mk (Kd.V_below (Kd.V_elderB (by exact HO343.out) gb344 (Nat.le_of_eq hg.symm)) hb)
       have n5_ := Aside0.mk (blk_below (g := gb321) (o := .cells #[.string (⟨#[]⟩ : ByteArray), .string (⟨#[]⟩ : ByteArray), .string (⟨#[]⟩ : ByteArray), .int .i64 0, .slice none 0 0] 77 (0, 0)) (by exact BK321.out) hb)
       have n6_ := Aside0.mk (below_step (by repeat (with_reducible first | exact HB.out | apply below_alloc | apply pw_below_drewN | apply below_drew1 | refine below_set ?_ GE321.out)) hb)
       have n7_ := Aside0.mk (hbox)
       have n8_ := Aside0.mk ((by rw [hg]; exact (below_size (by repeat (with_reducible first | exact HB.out | apply below_alloc | apply pw_below_drewN | apply below_drew1 | refine below_set ?_ GE321.out))) : w.heap.size ≤ gb344))
       have n9_ := Aside0.mk ((by rw [hg]; exact (below_size (by repeat (with_reducible first | exact HB.out | apply below_alloc | apply pw_below_drewN | apply below_drew1 | refine below_set ?_ GE321.out))) : w.heap.size ≤ gb344))
       have n10_ := Aside0.mk ((by rw [hg]; exact Nat.ne_of_lt (blk_lt (g := gb321) (o := .cells #[.string (⟨#[]⟩ : ByteArray), .string (⟨#[]⟩ : ByteArray), .string (⟨#[]⟩ : ByteArray), .int .i64 0, .slice none 0 0] 77 (0, 0)) (by exact BK321.out)) : gb321 ≠ gb344))
       have n11_ := Aside0.mk ((by rw [hg]; exact Nat.ne_of_gt (blk_lt (g := gb321) (o := .cells #[.string (⟨#[]⟩ : ByteArray), .string (⟨#[]⟩ : ByteArray), .string (⟨#[]⟩ : ByteArray), .int .i64 0, .slice none 0 0] 77 (0, 0)) (by exact BK321.out)) : gb344 ≠ gb321))
       clear HO_0
       clear HO_4
       clear HO_7
       clear HO_10
       clear HO343
       clear BK321
       clear HB
       have HO_0 := n0_
       have HO_4 := n1_
       have HO_7 := n2_
       have HO_10 := n3_
       have HO343 := n4_
       have BK321 := n5_
       have HB := n6_
       have BK344 := n7_
       have GW344 := n8_
       have GE344 := n9_
       have NB321_344 := n10_
       have NB344_321 := n11_
       clear n0_ n1_ n2_ n3_ n4_ n5_ n6_ n7_ n8_ n9_ n10_ n11_
       clear hb hbox hg
       refine hK.out _ _ ⟨(Kd.C_string (P := Try.prog) (A := Ao37) (c := co37) Try.underlying26 Try.underlying5 Try.underlying9 ((Kd.V_reads' HO_4.out).2.2)), (Kd.C_string (P := Try.prog) (A := Ao38) (c := co38) Try.underlying26 Try.underlying5 Try.underlying9 ((Kd.V_reads' HO_7.out).2.2)), (Kd.C_string (P := Try.prog) (A := Ao39) (c := co39) Try.underlying26 Try.underlying5 Try.underlying9 ((Kd.V_reads' HO_10.out).2.2))⟩ (fun hHeld => ?_)
       clear hK K
       refine norm_ (a' := ?_) ?_ ?_
       rotate_left
       ·
        show Act.put _ (some 15) _ = _
        simp only [Act.put, List.setIfInBounds_toArray, List.set_cons_zero, List.set_cons_succ, i64_w, i32_w]
        rfl
       refine one_ (i := 14) (N := none) #[true, true, true, true, true, true, true, true, true, true, true, true, true, true, true] rfl rfl (one_of HT_.out (by kernel_rfl)) (by decide) (fun K hK => ?_)
       have hs43 : w42.cell? ⟨gb344, 0, none⟩ = some (.string (⟨#[]⟩ : ByteArray)) := (blk_cell BK344.out 0).trans rfl
       have hfs43 := blk_frozen BK344.out 0
       have hns43_0 := NB321_344.out
       have hms43_0 := NB344_321.out
       have hs44 : w42.cell? ⟨gb344, 1, none⟩ = some (.string (⟨#[]⟩ : ByteArray)) := (blk_cell BK344.out 1).trans rfl
       have hfs44 := blk_frozen BK344.out 1
       have hns44_0 := NB321_344.out
       have hms44_0 := NB344_321.out
       have hs45 : w42.cell? ⟨gb344, 2, none⟩ = some (.string (⟨#[]⟩ : ByteArray)) := (blk_cell BK344.out 2).trans rfl
       have hfs45 := blk_frozen BK344.out 2
       have hns45_0 := NB321_344.out
       have hms45_0 := NB344_321.out
       have hs46 : w42.cell? ⟨gb344, 3, none⟩ = some (.int .i64 0) := (blk_cell BK344.out 3).trans rfl
       have hfs46 := blk_frozen BK344.out 3
       have hns46_0 := NB321_344.out
       have hms46_0 := NB344_321.out
       have hs47 : w42.cell? ⟨gb344, 4, none⟩ = some (.slice none 0 0) := (blk_cell BK344.out 4).trans rfl
       have hfs47 := blk_frozen BK344.out 4
       have hns47_0 := NB321_344.out
       have hms47_0 := NB344_321.out
       refine skip_ (w1 := ?_) (by rfl) rfl ?_ ?_
       rotate_left
       ·
        go_simp
        rfl
       refine hK.out _ _ ⟨(Kd.C_string (P := Try.prog) (A := Ao37) (c := co37) Try.underlying26 Try.underlying5 Try.underlying9 ((Kd.V_reads' (Kd.V_far (p := ⟨gb344, _, none⟩) (Kd.V_far (p := ⟨gb344, _, none⟩) (Kd.V_far (p := ⟨gb344, _, none⟩) (Kd.V_far (p := ⟨gb344, _, none⟩) (Kd.V_far (p := ⟨gb344, _, none⟩) HO_4.out (fun _ hk => hk.2) _) (fun _ hk => hk.2) _) (fun _ hk => hk.2) _) (fun _ hk => hk.2) _) (fun _ hk => hk.2) _)).2.2)), (Kd.C_string (P := Try.prog) (A := Ao38) (c := co38) Try.underlying26 Try.underlying5 Try.underlying9 ((Kd.V_reads' (Kd.V_far (p := ⟨gb344, _, none⟩) (Kd.V_far (p := ⟨gb344, _, none⟩) (Kd.V_far (p := ⟨gb344, _, none⟩) (Kd.V_far (p := ⟨gb344, _, none⟩) (Kd.V_far (p := ⟨gb344, _, none⟩) HO_7.out (fun _ hk => hk.2) _) (fun _ hk => hk.2) _) (fun _ hk => hk.2) _) (fun _ hk => hk.2) _) (fun _ hk => hk.2) _)).2.2)), (Kd.C_string (P := Try.prog) (A := Ao39) (c := co39) Try.underlying26 Try.underlying5 Try.underlying9 ((Kd.V_reads' (Kd.V_far (p := ⟨gb344, _, none⟩) (Kd.V_far (p := ⟨gb344, _, none⟩) (Kd.V_far (p := ⟨gb344, _, none⟩) (Kd.V_far (p := ⟨gb344, _, none⟩) (Kd.V_far (p := ⟨gb344, _, none⟩) HO_10.out (fun _ hk => hk.2) _) (fun _ hk => hk.2) _) (fun _ hk => hk.2) _) (fun _ hk => hk.2) _) (fun _ hk => hk.2) _)).2.2))⟩ (fun hHeld => ?_)
       clear hK K
       refine done_ (done_of HT_.out (by kernel_rfl)) ?_
       have hnb48 := NB344_321.out
       have hnc48 := NB321_344.out
       have hcz49_0 : w42.cell? ⟨gb344, 0, none⟩ = some (.string (⟨#[]⟩ : ByteArray)) := (blk_cell BK344.out 0).trans rfl
       have hcz49_1 : w42.cell? ⟨gb344, 1, none⟩ = some (.string (⟨#[]⟩ : ByteArray)) := (blk_cell BK344.out 1).trans rfl
       have hcz49_2 : w42.cell? ⟨gb344, 2, none⟩ = some (.string (⟨#[]⟩ : ByteArray)) := (blk_cell BK344.out 2).trans rfl
       have hcz49_3 : w42.cell? ⟨gb344, 3, none⟩ = some (.int .i64 0) := (blk_cell BK344.out 3).trans rfl
       have hcz49_4 : w42.cell? ⟨gb344, 4, none⟩ = some (.slice none 0 0) := (blk_cell BK344.out 4).trans rfl
       have hfz49_0 := blk_frozen BK344.out 0
       have hfz49_1 := blk_frozen BK344.out 1
       have hfz49_2 := blk_frozen BK344.out 2
       have hfz49_3 := blk_frozen BK344.out 3
       have hfz49_4 := blk_frozen BK344.out 4
       try go_wp2_with (first | ((with_reducible refine gate_callee (f := 69) rfl ?_); refine goesL_ (some 71) rfl rfl Try.func69 (by kernel_rfl) rfl #[.agg #[.string (strOfNums t322), .string (strOfNums t327), .string (strOfNums t332), .int .i64 (wrap64 (t337)), .slice A41 y339.length c41]] rfl (by (try simp only [List.map_toArray, List.map_cons, List.map_nil]); first | done | rfl | (simp only [List.length_drop, List.length_take]; rfl)) ?_; (with_reducible refine (waybillref7_MsgOk.calls (strOfNums t322) (strOfNums t327) (strOfNums t332) (wrap64 (t337)) _ _ y339 false _ ?side1 ?side2 A19.out).mono ?_); (case side1 => refine (Kd.V_reads' (e := 5) (base := w.heap.size) (ok := fun k_ => (((P0_ k_ ∨ w.heap.size ≤ k_) ∧ k_ ≠ gb321) ∧ k_ ≠ gb344)) (n := y339.length) (c := c41) ?_).2.2; exact (by exact (Kd.V_mono (Kd.V_far (p := ⟨gb344, 4, none⟩) (Kd.V_far (p := ⟨gb344, 3, none⟩) (Kd.V_far (p := ⟨gb344, 2, none⟩) (Kd.V_far (p := ⟨gb344, 1, none⟩) (Kd.V_far (p := ⟨gb344, 0, none⟩) (Kd.V_mono HO343.out (fun k_ hk => (⟨hk, hk.2⟩ : _ ∧ k_ ≠ gb344))) (fun _ hk => hk.2) (.string (strOfNums t322))) (fun _ hk => hk.2) (.string (strOfNums t327))) (fun _ hk => hk.2) (.string (strOfNums t332))) (fun _ hk => hk.2) (.int .i64 (wrap64 (t337)))) (fun _ hk => hk.2) (.slice A41 y339.length c41)) (fun _ h_ => h_.1)))); (case side2 => exact (Kd.V_reads' HO343.out).2.1); rintro e w50 ⟨rfl, hb⟩; refine ⟨_, rfl, ?_⟩; have n0_ := Aside0.mk (Kd.V_below (by exact (Kd.V_mono (Kd.V_far (p := ⟨gb344, 4, none⟩) (Kd.V_far (p := ⟨gb344, 3, none⟩) (Kd.V_far (p := ⟨gb344, 2, none⟩) (Kd.V_far (p := ⟨gb344, 1, none⟩) (Kd.V_far (p := ⟨gb344, 0, none⟩) (Kd.V_mono HO_0.out (fun k_ hk => (⟨hk, hk.2⟩ : _ ∧ k_ ≠ gb344))) (fun _ hk => hk.2) (.string (strOfNums t322))) (fun _ hk => hk.2) (.string (strOfNums t327))) (fun _ hk => hk.2) (.string (strOfNums t332))) (fun _ hk => hk.2) (.int .i64 (wrap64 (t337)))) (fun _ hk => hk.2) (.slice A41 y339.length c41)) (fun _ h_ => h_.1))) hb); have n1_ := Aside0.mk (Kd.V_below (by exact (Kd.V_mono (Kd.V_far (p := ⟨gb344, 4, none⟩) (Kd.V_far (p := ⟨gb344, 3, none⟩) (Kd.V_far (p := ⟨gb344, 2, none⟩) (Kd.V_far (p := ⟨gb344, 1, none⟩) (Kd.V_far (p := ⟨gb344, 0, none⟩) (Kd.V_mono HO_4.out (fun k_ hk => (⟨hk, hk.2⟩ : _ ∧ k_ ≠ gb344))) (fun _ hk => hk.2) (.string (strOfNums t322))) (fun _ hk => hk.2) (.string (strOfNums t327))) (fun _ hk => hk.2) (.string (strOfNums t332))) (fun _ hk => hk.2) (.int .i64 (wrap64 (t337)))) (fun _ hk => hk.2) (.slice A41 y339.length c41)) (fun _ h_ => h_.1))) hb); have n2_ := Aside0.mk (Kd.V_below (by exact (Kd.V_mono (Kd.V_far (p := ⟨gb344, 4, none⟩) (Kd.V_far (p := ⟨gb344, 3, none⟩) (Kd.V_far (p := ⟨gb344, 2, none⟩) (Kd.V_far (p := ⟨gb344, 1, none⟩) (Kd.V_far (p := ⟨gb344, 0, none⟩) (Kd.V_mono HO_7.out (fun k_ hk => (⟨hk, hk.2⟩ : _ ∧ k_ ≠ gb344))) (fun _ hk => hk.2) (.string (strOfNums t322))) (fun _ hk => hk.2) (.string (strOfNums t327))) (fun _ hk => hk.2) (.string (strOfNums t332))) (fun _ hk => hk.2) (.int .i64 (wrap64 (t337)))) (fun _ hk => hk.2) (.slice A41 y339.length c41)) (fun _ h_ => h_.1))) hb); have n3_ := Aside0.mk (Kd.V_below (by exact (Kd.V_mono (Kd.V_far (p := ⟨gb344, 4, none⟩) (Kd.V_far (p := ⟨gb344, 3, none⟩) (Kd.V_far (p := ⟨gb344, 2, none⟩) (Kd.V_far (p := ⟨gb344, 1, none⟩) (Kd.V_far (p := ⟨gb344, 0, none⟩) (Kd.V_mono HO_10.out (fun k_ hk => (⟨hk, hk.2⟩ : _ ∧ k_ ≠ gb344))) (fun _ hk => hk.2) (.string (strOfNums t322))) (fun _ hk => hk.2) (.string (strOfNums t327))) (fun _ hk => hk.2) (.string (strOfNums t332))) (fun _ hk => hk.2) (.int .i64 (wrap64 (t337)))) (fun _ hk => hk.2) (.slice A41 y339.length c41)) (fun _ h_ => h_.1))) hb); have n4_ := Aside0.mk (Kd.V_below (by exact (Kd.V_mono (Kd.V_far (p := ⟨gb344, 4, none⟩) (Kd.V_far (p := ⟨gb344, 3, none⟩) (Kd.V_far (p := ⟨gb344, 2, none⟩) (Kd.V_far (p := ⟨gb344, 1, none⟩) (Kd.V_far (p := ⟨gb344, 0, none⟩) (Kd.V_mono HO343.out (fun k_ hk => (⟨hk, hk.2⟩ : _ ∧ k_ ≠ gb344))) (fun _ hk => hk.2) (.string (strOfNums t322))) (fun _ hk => hk.2) (.string (strOfNums t327))) (fun _ hk => hk.2) (.string (strOfNums t332))) (fun _ hk => hk.2) (.int .i64 (wrap64 (t337)))) (fun _ hk => hk.2) (.slice A41 y339.length c41)) (fun _ h_ => h_.1))) hb); have n5_ := Aside0.mk (blk_below (g := gb321) (o := .cells #[.string (⟨#[]⟩ : ByteArray), .string (⟨#[]⟩ : ByteArray), .string (⟨#[]⟩ : ByteArray), .int .i64 0, .slice none 0 0] 77 (0, 0)) (by refine blk_far ?_ NB321_344.out _; refine blk_far ?_ NB321_344.out _; refine blk_far ?_ NB321_344.out _; refine blk_far ?_ NB321_344.out _; refine blk_far ?_ NB321_344.out _; exact BK321.out) hb); have n6_ := Aside0.mk (blk_below (g := gb344) (o := .cells #[.string (strOfNums t322), .string (strOfNums t327), .string (strOfNums t332), .int .i64 (wrap64 (t337)), .slice A41 y339.length c41] 77 (0, 0)) (by refine blk_put (cs := #[.string (strOfNums t322), .string (strOfNums t327), .string (strOfNums t332), .int .i64 (wrap64 (t337)), .slice none 0 0]) ?_ 4 _ rfl; refine blk_put (cs := #[.string (strOfNums t322), .string (strOfNums t327), .string (strOfNums t332), .int .i64 0, .slice none 0 0]) ?_ 3 _ rfl; refine blk_put (cs := #[.string (strOfNums t322), .string (strOfNums t327), .string (⟨#[]⟩ : ByteArray), .int .i64 0, .slice none 0 0]) ?_ 2 _ rfl; refine blk_put (cs := #[.string (strOfNums t322), .string (⟨#[]⟩ : ByteArray), .string (⟨#[]⟩ : ByteArray), .int .i64 0, .slice none 0 0]) ?_ 1 _ rfl; refine blk_put (cs := #[.string (⟨#[]⟩ : ByteArray), .string (⟨#[]⟩ : ByteArray), .string (⟨#[]⟩ : ByteArray), .int .i64 0, .slice none 0 0]) ?_ 0 _ rfl; exact BK344.out) hb); have n7_ := Aside0.mk (below_step (by repeat (with_reducible first | exact HB.out | apply below_alloc | apply pw_below_drewN | apply below_drew1 | refine below_set ?_ GE321.out | refine below_set ?_ GE344.out)) hb); clear HO_0; clear HO_4; clear HO_7; clear HO_10; clear HO343; clear BK321; clear BK344; clear HB; have HO_0 := n0_; have HO_4 := n1_; have HO_7 := n2_; have HO_10 := n3_; have HO343 := n4_; have BK321 := n5_; have BK344 := n6_; have HB := n7_; clear n0_ n1_ n2_ n3_ n4_ n5_ n6_ n7_; (try clear hb); (try clear hb2); (try clear hk); (try clear hi); (try clear hge); have hcz51_0 : w50.cell? ⟨gb321, 0, none⟩ = some (.string (⟨#[]⟩ : ByteArray)) := (blk_cell BK321.out 0).trans rfl; have hcz51_1 : w50.cell? ⟨gb321, 1, none⟩ = some (.string (⟨#[]⟩ : ByteArray)) := (blk_cell BK321.out 1).trans rfl; have hcz51_2 : w50.cell? ⟨gb321, 2, none⟩ = some (.string (⟨#[]⟩ : ByteArray)) := (blk_cell BK321.out 2).trans rfl; have hcz51_3 : w50.cell? ⟨gb321, 3, none⟩ = some (.int .i64 0) := (blk_cell BK321.out 3).trans rfl; have hcz51_4 : w50.cell? ⟨gb321, 4, none⟩ = some (.slice none 0 0) := (blk_cell BK321.out 4).trans rfl; have hfz51_0 := blk_frozen BK321.out 0; have hfz51_1 := blk_frozen BK321.out 1; have hfz51_2 := blk_frozen BK321.out 2; have hfz51_3 := blk_frozen BK321.out 3; have hfz51_4 := blk_frozen BK321.out 4))
       refine bodyPost_ret (results_ct rfl _ _ gb321 77 #[.string (⟨#[]⟩ : ByteArray), .string (⟨#[]⟩ : ByteArray), .string (⟨#[]⟩ : ByteArray), .int .i64 0, .slice none 0 0] (0, 0) _ rfl (by refine blk_put (cs := #[.string (⟨#[]⟩ : ByteArray), .string (⟨#[]⟩ : ByteArray), .string (⟨#[]⟩ : ByteArray), .int .i64 0, .slice none 0 0]) ?_ 4 _ rfl; refine blk_put (cs := #[.string (⟨#[]⟩ : ByteArray), .string (⟨#[]⟩ : ByteArray), .string (⟨#[]⟩ : ByteArray), .int .i64 0, .slice none 0 0]) ?_ 3 _ rfl; refine blk_put (cs := #[.string (⟨#[]⟩ : ByteArray), .string (⟨#[]⟩ : ByteArray), .string (⟨#[]⟩ : ByteArray), .int .i64 0, .slice none 0 0]) ?_ 2 _ rfl; refine blk_put (cs := #[.string (⟨#[]⟩ : ByteArray), .string (⟨#[]⟩ : ByteArray), .string (⟨#[]⟩ : ByteArray), .int .i64 0, .slice none 0 0]) ?_ 1 _ rfl; refine blk_put (cs := #[.string (⟨#[]⟩ : ByteArray), .string (⟨#[]⟩ : ByteArray), .string (⟨#[]⟩ : ByteArray), .int .i64 0, .slice none 0 0]) ?_ 0 _ rfl; exact BK321.out) Try.underlying77 rfl (by kernel_rfl)) rfl ?_
       exact ⟨_, by first | rfl | (simp [errW_none, errW_some]; done) | (simp [errW_none, errW_some]; rfl) | (simp only [← hji16]; first | rfl | (simp [errW_none, errW_some]; done) | (simp [errW_none, errW_some]; rfl)) | (simp [*, errW_none, errW_some]; done) | (simp [*, errW_none, errW_some]; rfl), (Kd.V_nil _ _ _ _ _), by repeat (with_reducible first | exact HB.out | apply below_alloc | apply pw_below_drewN | apply below_drew1 | refine below_set ?_ GE321.out | refine below_set ?_ GE344.out)⟩
     ·
      rw [if_neg c18] at H
      exact absurd H (by simp)
    ·
     rw [if_neg c17] at H
     exact absurd H (by simp)

end Go.Proofs.Ytpjkaodbcclecaa.PK
