/- What functions of the given program come to: printed; Lean checks it. -/
import Derived.Test.YtpjkaodbcclecaaPKx0
import Derived.Test.YtpjkaodbcclecaaPKx10
import Derived.Test.YtpjkaodbcclecaaPKx11
namespace Go.Proofs.Ytpjkaodbcclecaa.PK
open Go.RowKit Go.Proofs.YtpjkaodbcclecaaW.PrintWords Go.Proofs.YtpjkaodbcclecaaW.PrintLast Go.Proofs.YtpjkaodbcclecaaW.PrintMore
attribute [local go_sem] max2_int min2_int max_two min_two max_three min_three max_four min_four
set_option linter.unusedVariables false
set_option linter.unusedSimpArgs false

/-! ### waybillref7_KeyOf: function 42 -/
mutual
def waybillref7_KeyOf.j2 : Nat → ByteArray → List Int → Int → Int → ByteArray → ByteArray → ByteArray → Int → Option (Int × ByteArray × ByteArray × ByteArray × Int × Bool)
 | 0, _, _, _, _, _, _, _, _ => none
 | k + 1, x0, x4, x8, x289000, x289001, x289002, x289003, x289004 => if x289000 = 4 then (waybillref7_KeyOf.j3 k x0 x4 x8 true x289000 x289001 x289002 x289003 x289004) else (waybillref7_KeyOf.j3 k x0 x4 x8 (x289000 == 5) x289000 x289001 x289002 x289003 x289004)
def waybillref7_KeyOf.j3 : Nat → ByteArray → List Int → Int → Bool → Int → ByteArray → ByteArray → ByteArray → Int → Option (Int × ByteArray × ByteArray × ByteArray × Int × Bool)
 | 0, _, _, _, _, _, _, _, _, _ => none
 | k + 1, x0, x4, x8, x77, x289000, x289001, x289002, x289003, x289004 => if x77 = true then ((waybillref1_Num.f k x4 x8 8).bind fun bt294 => ((waybillref7_Key.f k x289000 x289001 x289002 x289003 bt294.1).bind fun bt296 => (if bt296.2 = true then (if bt296.1.toList = x0.toList then (some (x289000, x289001, x289002, x289003, bt294.1, true)) else (some (0, (⟨#[]⟩ : ByteArray), (⟨#[]⟩ : ByteArray), (⟨#[]⟩ : ByteArray), 0, false))) else (some (0, (⟨#[]⟩ : ByteArray), (⟨#[]⟩ : ByteArray), (⟨#[]⟩ : ByteArray), 0, false))))) else ((waybillref7_Key.f k x289000 x289001 x289002 x289003 x289004).bind fun bt298 => (if bt298.2 = true then (if bt298.1.toList = x0.toList then (some (x289000, x289001, x289002, x289003, x289004, true)) else (some (0, (⟨#[]⟩ : ByteArray), (⟨#[]⟩ : ByteArray), (⟨#[]⟩ : ByteArray), 0, false))) else (some (0, (⟨#[]⟩ : ByteArray), (⟨#[]⟩ : ByteArray), (⟨#[]⟩ : ByteArray), 0, false))))
def waybillref7_KeyOf.l0 : Nat → ByteArray → List Int → Int → Int → Int → ByteArray → ByteArray → ByteArray → Int → Option (Int × ByteArray × ByteArray × ByteArray × Int × Bool)
 | 0, _, _, _, _, _, _, _, _, _ => none
 | k + 1, x0, x4, x8, x9, x289000, x289001, x289002, x289003, x289004 => if x9 < 3 then (if x9 = 0 then (if x289000 = 4 then (waybillref7_KeyOf.j1 k x0 x4 x8 x9 true x289000 x289001 x289002 x289003 x289004) else (if x9 > 0 then (waybillref7_KeyOf.j1 k x0 x4 x8 x9 (x289000 != 3) x289000 x289001 x289002 x289003 x289004) else (waybillref7_KeyOf.j1 k x0 x4 x8 x9 false x289000 x289001 x289002 x289003 x289004))) else (if x9 > 0 then (waybillref7_KeyOf.j1 k x0 x4 x8 x9 (x289000 != 3) x289000 x289001 x289002 x289003 x289004) else (waybillref7_KeyOf.j1 k x0 x4 x8 x9 false x289000 x289001 x289002 x289003 x289004))) else (waybillref7_KeyOf.j2 k x0 x4 x8 x289000 x289001 x289002 x289003 x289004)
def waybillref7_KeyOf.j1 : Nat → ByteArray → List Int → Int → Int → Bool → Int → ByteArray → ByteArray → ByteArray → Int → Option (Int × ByteArray × ByteArray × ByteArray × Int × Bool)
 | 0, _, _, _, _, _, _, _, _, _, _ => none
 | k + 1, x0, x4, x8, x9, x44, x289000, x289001, x289002, x289003, x289004 => if x44 = true then (waybillref7_KeyOf.j2 k x0 x4 x8 x289000 x289001 x289002 x289003 x289004) else ((waybillref1_Text.f k x4 x8 1).bind fun bt289 => (if bt289.2.2 = true then (if x9 = 0 then (waybillref7_KeyOf.l0 k x0 x4 bt289.2.1 (wrap64 (x9 + 1)) x289000 (strOfNums bt289.1) x289002 x289003 x289004) else (if x9 = 1 then (waybillref7_KeyOf.l0 k x0 x4 bt289.2.1 (wrap64 (x9 + 1)) x289000 x289001 (strOfNums bt289.1) x289003 x289004) else (waybillref7_KeyOf.l0 k x0 x4 bt289.2.1 (wrap64 (x9 + 1)) x289000 x289001 x289002 (strOfNums bt289.1) x289004))) else (some (0, (⟨#[]⟩ : ByteArray), (⟨#[]⟩ : ByteArray), (⟨#[]⟩ : ByteArray), 0, false))))
end
def waybillref7_KeyOf.f (k : Nat) (a0 : ByteArray) : Option (Int × ByteArray × ByteArray × ByteArray × Int × Bool) := if a0.size ≤ 9223372036854775807 then ((some (bytesOf a0 : List Int)).bind fun y283 => ((waybillref1_Num.f k y283 0 1).bind fun bt286 => (waybillref7_KeyOf.l0 k a0 y283 1 0 (wrap64 (bt286.1)) (⟨#[]⟩ : ByteArray) (⟨#[]⟩ : ByteArray) (⟨#[]⟩ : ByteArray) 0))) else (none)
theorem waybillref7_KeyOf.mono_l : ∀ k, (∀ y0 y1 y2 y3 y4 y5 y6 y7, LeO (waybillref7_KeyOf.j2 k y0 y1 y2 y3 y4 y5 y6 y7) (waybillref7_KeyOf.j2 (k + 1) y0 y1 y2 y3 y4 y5 y6 y7)) ∧ (∀ y0 y1 y2 y3 y4 y5 y6 y7 y8, LeO (waybillref7_KeyOf.j3 k y0 y1 y2 y3 y4 y5 y6 y7 y8) (waybillref7_KeyOf.j3 (k + 1) y0 y1 y2 y3 y4 y5 y6 y7 y8)) ∧ (∀ y0 y1 y2 y3 y4 y5 y6 y7 y8, LeO (waybillref7_KeyOf.l0 k y0 y1 y2 y3 y4 y5 y6 y7 y8) (waybillref7_KeyOf.l0 (k + 1) y0 y1 y2 y3 y4 y5 y6 y7 y8)) ∧ (∀ y0 y1 y2 y3 y4 y5 y6 y7 y8 y9, LeO (waybillref7_KeyOf.j1 k y0 y1 y2 y3 y4 y5 y6 y7 y8 y9) (waybillref7_KeyOf.j1 (k + 1) y0 y1 y2 y3 y4 y5 y6 y7 y8 y9))
 | 0 => ⟨fun _ _ _ _ _ _ _ _ r h => by simp [waybillref7_KeyOf.j2] at h, fun _ _ _ _ _ _ _ _ _ r h => by simp [waybillref7_KeyOf.j3] at h, fun _ _ _ _ _ _ _ _ _ r h => by simp [waybillref7_KeyOf.l0] at h, fun _ _ _ _ _ _ _ _ _ _ r h => by simp [waybillref7_KeyOf.j1] at h⟩
 | k + 1 => by
  obtain ⟨ih0, ih1, ih2, ih3⟩ := waybillref7_KeyOf.mono_l k
  refine ⟨?_, ?_, ?_, ?_⟩
  ·
   intro y0 y1 y2 y3 y4 y5 y6 y7
   unfold waybillref7_KeyOf.j2
   repeat' first
   | (with_reducible exact ih0 _ _ _ _ _ _ _ _)
   | (with_reducible exact ih1 _ _ _ _ _ _ _ _ _)
   | (with_reducible exact ih2 _ _ _ _ _ _ _ _ _)
   | (with_reducible exact ih3 _ _ _ _ _ _ _ _ _ _)
   | (with_reducible exact waybillref1_Num.mono _ _ _ _)
   | (with_reducible exact waybillref1_Text.mono _ _ _ _)
   | (with_reducible exact waybillref7_Key.mono _ _ _ _ _ _)
   | (with_reducible exact LeO.refl _)
   | (with_reducible exact LeO.none _)
   | (with_reducible refine LeO.ite ?_ ?_)
   | (with_reducible refine LeO.bind ?_ (fun _ => ?_))
   | exact ih0 _ _ _ _ _ _ _ _
   | exact ih1 _ _ _ _ _ _ _ _ _
   | exact ih2 _ _ _ _ _ _ _ _ _
   | exact ih3 _ _ _ _ _ _ _ _ _ _
   | exact waybillref1_Num.mono _ _ _ _
   | exact waybillref1_Text.mono _ _ _ _
   | exact waybillref7_Key.mono _ _ _ _ _ _
   | exact LeO.none _
   | refine LeO.ite ?_ ?_
   | refine LeO.bind ?_ (fun _ => ?_)
  ·
   intro y0 y1 y2 y3 y4 y5 y6 y7 y8
   unfold waybillref7_KeyOf.j3
   repeat' first
   | (with_reducible exact ih0 _ _ _ _ _ _ _ _)
   | (with_reducible exact ih1 _ _ _ _ _ _ _ _ _)
   | (with_reducible exact ih2 _ _ _ _ _ _ _ _ _)
   | (with_reducible exact ih3 _ _ _ _ _ _ _ _ _ _)
   | (with_reducible exact waybillref1_Num.mono _ _ _ _)
   | (with_reducible exact waybillref1_Text.mono _ _ _ _)
   | (with_reducible exact waybillref7_Key.mono _ _ _ _ _ _)
   | (with_reducible exact LeO.refl _)
   | (with_reducible exact LeO.none _)
   | (with_reducible refine LeO.ite ?_ ?_)
   | (with_reducible refine LeO.bind ?_ (fun _ => ?_))
   | exact ih0 _ _ _ _ _ _ _ _
   | exact ih1 _ _ _ _ _ _ _ _ _
   | exact ih2 _ _ _ _ _ _ _ _ _
   | exact ih3 _ _ _ _ _ _ _ _ _ _
   | exact waybillref1_Num.mono _ _ _ _
   | exact waybillref1_Text.mono _ _ _ _
   | exact waybillref7_Key.mono _ _ _ _ _ _
   | exact LeO.none _
   | refine LeO.ite ?_ ?_
   | refine LeO.bind ?_ (fun _ => ?_)
  ·
   intro y0 y1 y2 y3 y4 y5 y6 y7 y8
   unfold waybillref7_KeyOf.l0
   repeat' first
   | (with_reducible exact ih0 _ _ _ _ _ _ _ _)
   | (with_reducible exact ih1 _ _ _ _ _ _ _ _ _)
   | (with_reducible exact ih2 _ _ _ _ _ _ _ _ _)
   | (with_reducible exact ih3 _ _ _ _ _ _ _ _ _ _)
   | (with_reducible exact waybillref1_Num.mono _ _ _ _)
   | (with_reducible exact waybillref1_Text.mono _ _ _ _)
   | (with_reducible exact waybillref7_Key.mono _ _ _ _ _ _)
   | (with_reducible exact LeO.refl _)
   | (with_reducible exact LeO.none _)
   | (with_reducible refine LeO.ite ?_ ?_)
   | (with_reducible refine LeO.bind ?_ (fun _ => ?_))
   | exact ih0 _ _ _ _ _ _ _ _
   | exact ih1 _ _ _ _ _ _ _ _ _
   | exact ih2 _ _ _ _ _ _ _ _ _
   | exact ih3 _ _ _ _ _ _ _ _ _ _
   | exact waybillref1_Num.mono _ _ _ _
   | exact waybillref1_Text.mono _ _ _ _
   | exact waybillref7_Key.mono _ _ _ _ _ _
   | exact LeO.none _
   | refine LeO.ite ?_ ?_
   | refine LeO.bind ?_ (fun _ => ?_)
  ·
   intro y0 y1 y2 y3 y4 y5 y6 y7 y8 y9
   unfold waybillref7_KeyOf.j1
   repeat' first
   | (with_reducible exact ih0 _ _ _ _ _ _ _ _)
   | (with_reducible exact ih1 _ _ _ _ _ _ _ _ _)
   | (with_reducible exact ih2 _ _ _ _ _ _ _ _ _)
   | (with_reducible exact ih3 _ _ _ _ _ _ _ _ _ _)
   | (with_reducible exact waybillref1_Num.mono _ _ _ _)
   | (with_reducible exact waybillref1_Text.mono _ _ _ _)
   | (with_reducible exact waybillref7_Key.mono _ _ _ _ _ _)
   | (with_reducible exact LeO.refl _)
   | (with_reducible exact LeO.none _)
   | (with_reducible refine LeO.ite ?_ ?_)
   | (with_reducible refine LeO.bind ?_ (fun _ => ?_))
   | exact ih0 _ _ _ _ _ _ _ _
   | exact ih1 _ _ _ _ _ _ _ _ _
   | exact ih2 _ _ _ _ _ _ _ _ _
   | exact ih3 _ _ _ _ _ _ _ _ _ _
   | exact waybillref1_Num.mono _ _ _ _
   | exact waybillref1_Text.mono _ _ _ _
   | exact waybillref7_Key.mono _ _ _ _ _ _
   | exact LeO.none _
   | refine LeO.ite ?_ ?_
   | refine LeO.bind ?_ (fun _ => ?_)
theorem waybillref7_KeyOf.mono : ∀ a0 k, LeO (waybillref7_KeyOf.f k a0) (waybillref7_KeyOf.f (k + 1) a0) := by
 intro a0 k
 obtain ⟨ih0, ih1, ih2, ih3⟩ := waybillref7_KeyOf.mono_l k
 unfold waybillref7_KeyOf.f
 repeat' first
   | (with_reducible exact ih0 _ _ _ _ _ _ _ _)
   | (with_reducible exact ih1 _ _ _ _ _ _ _ _ _)
   | (with_reducible exact ih2 _ _ _ _ _ _ _ _ _)
   | (with_reducible exact ih3 _ _ _ _ _ _ _ _ _ _)
   | (with_reducible exact waybillref1_Num.mono _ _ _ _)
   | (with_reducible exact waybillref1_Text.mono _ _ _ _)
   | (with_reducible exact waybillref7_Key.mono _ _ _ _ _ _)
   | (with_reducible exact LeO.refl _)
   | (with_reducible exact LeO.none _)
   | (with_reducible refine LeO.ite ?_ ?_)
   | (with_reducible refine LeO.bind ?_ (fun _ => ?_))
   | exact ih0 _ _ _ _ _ _ _ _
   | exact ih1 _ _ _ _ _ _ _ _ _
   | exact ih2 _ _ _ _ _ _ _ _ _
   | exact ih3 _ _ _ _ _ _ _ _ _ _
   | exact waybillref1_Num.mono _ _ _ _
   | exact waybillref1_Text.mono _ _ _ _
   | exact waybillref7_Key.mono _ _ _ _ _ _
   | exact LeO.none _
   | refine LeO.ite ?_ ?_
   | refine LeO.bind ?_ (fun _ => ?_)
set_option maxHeartbeats 8000000 in
set_option maxRecDepth 100000 in
theorem waybillref7_KeyOf.calls (k : Nat) (a0 : ByteArray) (r1 : Int) (r2 : ByteArray) (r3 : ByteArray) (r4 : ByteArray) (r5 : Int) (r6 : Bool) (w : World) (h : waybillref7_KeyOf.f k a0 = some (r1, r2, r3, r4, r5, r6)) :
  Calls Try.prog 42 #[.string a0] w fun e w' => e = .returned (.tuple #[.agg #[.int .i64 r1, .string r2, .string r3, .string r4, .int .u64 r5], .bool r6]) ∧ Below w.heap.size w w' := by
 have hu74 := Try.underlying74
 have HB := Aside0.mk (Below.refl w.heap.size w)
 have H : (if a0.size ≤ 9223372036854775807 then ((some (bytesOf a0 : List Int)).bind fun y283 => ((waybillref1_Num.f k y283 0 1).bind fun bt286 => (waybillref7_KeyOf.l0 k a0 y283 1 0 (wrap64 (bt286.1)) (⟨#[]⟩ : ByteArray) (⟨#[]⟩ : ByteArray) (⟨#[]⟩ : ByteArray) 0))) else (none)) = some (r1, r2, r3, r4, r5, r6) := h
 clear h
 by_cases c2 : a0.size ≤ 9223372036854775807
 ·
  rw [if_pos c2] at H
  have c2b0 := eq_true c2
  have c2b1 : decide (a0.size ≤ 9223372036854775807) = true := decide_eq_true c2
  try have c2b2 : (9223372036854775807 < a0.size) = False := eq_false (Nat.not_lt.2 c2)
  clear c2
  obtain ⟨y283, hy283⟩ : ∃ y_ : List Int, y_ = (bytesOf a0) := ⟨_, rfl⟩
  replace H : ((waybillref1_Num.f k y283 0 1).bind fun bt286 => (waybillref7_KeyOf.l0 k a0 y283 1 0 (wrap64 (bt286.1)) (⟨#[]⟩ : ByteArray) (⟨#[]⟩ : ByteArray) (⟨#[]⟩ : ByteArray) 0)) = some (r1, r2, r3, r4, r5, r6) := by first | (rw [hy283]; with_reducible exact H) | (have H2_ := (Option.bind_some _ _).symm.trans H; rw [hy283]; with_reducible exact H2_) | (have H2_ := (Option.bind_some _ _).symm.trans H; with_reducible exact H2_) | with_reducible exact H | (rw [hy283]; exact H) | exact H
  have Ny283 := Aside0.mk hy283
  clear hy283
  replace H := Option.bind_eq_some_iff.mp H
  obtain ⟨⟨t286, t287⟩, A30, H⟩ := H
  replace H : (waybillref7_KeyOf.l0 k a0 y283 1 0 (wrap64 (t286)) (⟨#[]⟩ : ByteArray) (⟨#[]⟩ : ByteArray) (⟨#[]⟩ : ByteArray) 0) = some (r1, r2, r3, r4, r5, r6) := H
  have A3 := Aside0.mk A30
  clear A30
  have HC4 := Aside0.mk H
  clear H
  go_enter Try.func42, Try.ntmps42
  go_upto_block 0 with (first | ((with_reducible refine gate_dst (N := 2) rfl ?_); refine box_event ?hg (N := 2) ?hd (cs := #[.int .i64 0, .string (⟨#[]⟩ : ByteArray), .string (⟨#[]⟩ : ByteArray), .string (⟨#[]⟩ : ByteArray), .int .u64 0]) (t := 74) ?hr ?_; (case hd => rfl); (case hg => rfl); (case hr => first | (go_simp; done) | (go_simp; rfl)); intro gb282 hg w5 hbox hb; have n0_ := Aside0.mk (below_step (by repeat (with_reducible first | exact HB.out | apply below_alloc | apply pw_below_drewN | apply below_drew1)) hb); have n1_ := Aside0.mk (hbox); have n2_ := Aside0.mk ((by rw [hg]; exact (below_size (by repeat (with_reducible first | exact HB.out | apply below_alloc | apply pw_below_drewN | apply below_drew1))) : w.heap.size ≤ gb282)); have n3_ := Aside0.mk ((by rw [hg]; exact (below_size (by repeat (with_reducible first | exact HB.out | apply below_alloc | apply pw_below_drewN | apply below_drew1))) : w.heap.size ≤ gb282)); clear HB; have HB := n0_; have BK282 := n1_; have GW282 := n2_; have GE282 := n3_; clear n0_ n1_ n2_ n3_; clear hb hbox hg) | ((with_reducible refine gate_dst (N := 16) rfl ?_); refine Kd.V_conv _ 5 9 26 rfl (N := 16) rfl a0 _ rfl rfl Try.underlying9 Try.underlying26 Try.underlying5 (Below.refl _ _) (Nat.le_refl _) (of_decide_eq_true (by first | (with_reducible assumption) | assumption)) ?_; intro v284 w6 ho7 hb hg_ hnew_; clear hg_ hnew_; (first | rw [← Ny283.out] at ho7 | (simp only [Int.reduceToNat] at ho7; rw [← Ny283.out] at ho7)); have n0_ := Aside0.mk (Kd.V_lower (Kd.V_mono (ok' := fun k_ => k_ ≠ gb282) ho7 (fun k_ hk_ => (Kd.freshB (g := gb282) (o := .cells #[.int .i64 0, .string (⟨#[]⟩ : ByteArray), .string (⟨#[]⟩ : ByteArray), .string (⟨#[]⟩ : ByteArray), .int .u64 0] 74 (0, 0)) (by exact BK282.out) k_ hk_))) (below_size (by repeat (with_reducible first | exact HB.out | apply below_alloc | apply pw_below_drewN | apply below_drew1 | refine below_set ?_ GE282.out)))); have n1_ := Aside0.mk (blk_below (g := gb282) (o := .cells #[.int .i64 0, .string (⟨#[]⟩ : ByteArray), .string (⟨#[]⟩ : ByteArray), .string (⟨#[]⟩ : ByteArray), .int .u64 0] 74 (0, 0)) (by exact BK282.out) hb); have n2_ := Aside0.mk (below_step (by repeat (with_reducible first | exact HB.out | apply below_alloc | apply pw_below_drewN | apply below_drew1 | refine below_set ?_ GE282.out)) hb); clear BK282; clear HB; have HO285 := n0_; have BK282 := n1_; have HB := n2_; clear n0_ n1_ n2_; clear hb ho7; obtain ⟨Ao8, co8, eo8⟩ := Kd.V_slice HO285.out; subst eo8) | ((with_reducible refine gate_callee (f := 18) rfl ?_); refine goesL_ (some 19) rfl rfl Try.func18 (by kernel_rfl) rfl #[.slice Ao8 y283.length co8, .int .i64 0, .int .i64 1] rfl (by (try simp only [List.map_toArray, List.map_cons, List.map_nil]); first | done | rfl | (simp only [List.length_drop, List.length_take]; rfl)) ?_; (with_reducible refine (waybillref1_Num.calls k _ _ y283 0 1 t286 t287 _ ?side1 ?side2 A3.out).mono ?_); (case side1 => repeat (first | exact (Kd.V_reads' HO285.out).2.2 | (with_reducible refine Kd.C_alloc ?_ _) | (with_reducible refine Kd.C_drewN ?_ _) | (with_reducible refine Kd.C_drew ?_))); (case side2 => exact (Kd.V_reads' HO285.out).2.1); rintro e w' ⟨rfl, ⟨nd, rfl⟩⟩; refine ⟨_, rfl, ?_⟩; (try (rw [drewN_self w6]; generalize hq_ : World.drewN w6 _ = w6; have n0_ : Aside0 (Kd.V (Kd.int .u8) 5 w6 w.heap.size (fun k_ => k_ ≠ gb282) (.slice Ao8 y283.length co8) y283) := ⟨by rw [← hq_]; exact (by exact HO285.out)⟩; have n1_ : Aside0 (w6.heap[gb282]? = some (.cells #[.int .i64 0, .string (⟨#[]⟩ : ByteArray), .string (⟨#[]⟩ : ByteArray), .string (⟨#[]⟩ : ByteArray), .int .u64 0] 74 (0, 0))) := ⟨by rw [← hq_]; exact (by exact BK282.out)⟩; have n2_ : Aside0 (Below w.heap.size w w6) := ⟨by rw [← hq_]; exact (by repeat (with_reducible first | exact HB.out | apply below_alloc | apply pw_below_drewN | apply below_drew1 | refine below_set ?_ GE282.out))⟩; clear HO285 BK282 HB hq_; have HO285 := n0_; have BK282 := n1_; have HB := n2_; clear n0_ n1_ n2_))) | ((with_reducible refine gate_dst (N := 7) rfl ?_); refine box_event ?hg (N := 7) ?hd (cs := #[.int .i64 0, .string (⟨#[]⟩ : ByteArray), .string (⟨#[]⟩ : ByteArray), .string (⟨#[]⟩ : ByteArray), .int .u64 0]) (t := 74) ?hr ?_; (case hd => rfl); (case hg => rfl); (case hr => first | (go_simp; done) | (go_simp; rfl)); intro gb288 hg w9 hbox hb; have n0_ := Aside0.mk (Kd.V_below (Kd.V_elderB (by exact HO285.out) gb288 (Nat.le_of_eq hg.symm)) hb); have n1_ := Aside0.mk (blk_below (g := gb282) (o := .cells #[.int .i64 0, .string (⟨#[]⟩ : ByteArray), .string (⟨#[]⟩ : ByteArray), .string (⟨#[]⟩ : ByteArray), .int .u64 0] 74 (0, 0)) (by exact BK282.out) hb); have n2_ := Aside0.mk (below_step (by repeat (with_reducible first | exact HB.out | apply below_alloc | apply pw_below_drewN | apply below_drew1 | refine below_set ?_ GE282.out)) hb); have n3_ := Aside0.mk (hbox); have n4_ := Aside0.mk ((by rw [hg]; exact (below_size (by repeat (with_reducible first | exact HB.out | apply below_alloc | apply pw_below_drewN | apply below_drew1 | refine below_set ?_ GE282.out))) : w.heap.size ≤ gb288)); have n5_ := Aside0.mk ((by rw [hg]; exact (below_size (by repeat (with_reducible first | exact HB.out | apply below_alloc | apply pw_below_drewN | apply below_drew1 | refine below_set ?_ GE282.out))) : w.heap.size ≤ gb288)); have n6_ := Aside0.mk ((by rw [hg]; exact Nat.ne_of_lt (blk_lt (g := gb282) (o := .cells #[.int .i64 0, .string (⟨#[]⟩ : ByteArray), .string (⟨#[]⟩ : ByteArray), .string (⟨#[]⟩ : ByteArray), .int .u64 0] 74 (0, 0)) (by exact BK282.out)) : gb282 ≠ gb288)); have n7_ := Aside0.mk ((by rw [hg]; exact Nat.ne_of_gt (blk_lt (g := gb282) (o := .cells #[.int .i64 0, .string (⟨#[]⟩ : ByteArray), .string (⟨#[]⟩ : ByteArray), .string (⟨#[]⟩ : ByteArray), .int .u64 0] 74 (0, 0)) (by exact BK282.out)) : gb288 ≠ gb282)); clear HO285; clear BK282; clear HB; have HO285 := n0_; have BK282 := n1_; have HB := n2_; have BK288 := n3_; have GW288 := n4_; have GE288 := n5_; have NB282_288 := n6_; have NB288_282 := n7_; clear n0_ n1_ n2_ n3_ n4_ n5_ n6_ n7_; clear hb hbox hg; have hnb10 := NB288_282.out; have hnc10 := NB282_288.out; have hcz11_0 : w9.cell? ⟨gb288, 0, none⟩ = some (.int .i64 0) := (blk_cell BK288.out 0).trans rfl; have hcz11_1 : w9.cell? ⟨gb288, 1, none⟩ = some (.string (⟨#[]⟩ : ByteArray)) := (blk_cell BK288.out 1).trans rfl; have hcz11_2 : w9.cell? ⟨gb288, 2, none⟩ = some (.string (⟨#[]⟩ : ByteArray)) := (blk_cell BK288.out 2).trans rfl; have hcz11_3 : w9.cell? ⟨gb288, 3, none⟩ = some (.string (⟨#[]⟩ : ByteArray)) := (blk_cell BK288.out 3).trans rfl; have hcz11_4 : w9.cell? ⟨gb288, 4, none⟩ = some (.int .u64 0) := (blk_cell BK288.out 4).trans rfl; have hfz11_0 := blk_frozen BK288.out 0; have hfz11_1 := blk_frozen BK288.out 1; have hfz11_2 := blk_frozen BK288.out 2; have hfz11_3 := blk_frozen BK288.out 3; have hfz11_4 := blk_frozen BK288.out 4))
  (try simp only [Act.put, List.setIfInBounds_toArray, List.set_cons_zero, List.set_cons_succ])
  go_cut [8] (fun v8 wc => ∃ (kq : Nat) (x8_3 : Int) (x283000_3 : Int) (x283001_3 : ByteArray) (x283002_3 : ByteArray) (x283003_3 : ByteArray) (x283004_3 : Int) (x289001_3 : ByteArray) (x289002_3 : ByteArray) (x289003_3 : ByteArray), v8 = .int .i64 x8_3 ∧ Aside0 (waybillref7_KeyOf.j2 kq a0 y283 x8_3 (wrap64 (t286)) x289001_3 x289002_3 x289003_3 0 = some (r1, r2, r3, r4, r5, r6)) ∧ Aside0 (kq ≤ k) ∧ Aside0 (Kd.V (Kd.int .u8) 5 wc w.heap.size (fun k_ => k_ ≠ gb282 ∧ k_ ≠ gb288) (.slice Ao8 y283.length co8) y283) ∧ Aside0 (wc.heap[gb282]? = some (.cells #[.int .i64 x283000_3, .string x283001_3, .string x283002_3, .string x283003_3, .int .u64 x283004_3] 74 (0, 0))) ∧ Aside0 (wc.heap[gb288]? = some (.cells #[.int .i64 (wrap64 (t286)), .string x289001_3, .string x289002_3, .string x289003_3, .int .u64 0] 74 (0, 0))) ∧ Aside0 (Below w.heap.size w wc))
  case first =>
   have H := HC4.out
   clear HC4
   have H' := Aside0.mk H
   clear H
   go_wp2
   go_loopg [8, 9] k (fun kq v8 v9 w' => ∃ (x8_1 : Int) (x9_1 : Int) (x283000_1 : Int) (x283001_1 : ByteArray) (x283002_1 : ByteArray) (x283003_1 : ByteArray) (x283004_1 : Int) (x289001_1 : ByteArray) (x289002_1 : ByteArray) (x289003_1 : ByteArray), v8 = .int .i64 x8_1 ∧ v9 = .int .i64 x9_1 ∧ Aside0 (waybillref7_KeyOf.l0 kq a0 y283 x8_1 x9_1 (wrap64 (t286)) x289001_1 x289002_1 x289003_1 0 = some (r1, r2, r3, r4, r5, r6)) ∧ Aside0 (kq ≤ k) ∧ Aside0 (Kd.V (Kd.int .u8) 5 w' w.heap.size (fun k_ => k_ ≠ gb282 ∧ k_ ≠ gb288) (.slice Ao8 y283.length co8) y283) ∧ Aside0 (w'.heap[gb282]? = some (.cells #[.int .i64 x283000_1, .string x283001_1, .string x283002_1, .string x283003_1, .int .u64 x283004_1] 74 (0, 0))) ∧ Aside0 (w'.heap[gb288]? = some (.cells #[.int .i64 (wrap64 (t286)), .string x289001_1, .string x289002_1, .string x289003_1, .int .u64 0] 74 (0, 0))) ∧ Aside0 (Below w.heap.size w w'))
   case atStart => exact ⟨(1), (0), (0), ((⟨#[]⟩ : ByteArray)), ((⟨#[]⟩ : ByteArray)), ((⟨#[]⟩ : ByteArray)), (0), ((⟨#[]⟩ : ByteArray)), ((⟨#[]⟩ : ByteArray)), ((⟨#[]⟩ : ByteArray)), (by first | rfl | (simp; done) | (simp [*]; done)), (by first | rfl | (simp; done) | (simp [*]; done)), H', ⟨Nat.le_refl _⟩, ⟨by exact Kd.V_mono (Kd.V_far (p := ⟨gb288, 4, none⟩) (Kd.V_far (p := ⟨gb288, 3, none⟩) (Kd.V_far (p := ⟨gb288, 2, none⟩) (Kd.V_far (p := ⟨gb288, 1, none⟩) (Kd.V_far (p := ⟨gb288, 0, none⟩) (Kd.V_mono HO285.out (fun k_ hk => (⟨hk, hk.2⟩ : _ ∧ k_ ≠ gb288))) (fun _ hk => hk.2) (.int .i64 (wrap64 (t286)))) (fun _ hk => hk.2) (.string (⟨#[]⟩ : ByteArray))) (fun _ hk => hk.2) (.string (⟨#[]⟩ : ByteArray))) (fun _ hk => hk.2) (.string (⟨#[]⟩ : ByteArray))) (fun _ hk => hk.2) (.int .u64 0)) (fun _ hk => ⟨hk.1.1, hk.1.2⟩)⟩, ⟨by refine blk_far ?_ NB282_288.out _; refine blk_far ?_ NB282_288.out _; refine blk_far ?_ NB282_288.out _; refine blk_far ?_ NB282_288.out _; refine blk_far ?_ NB282_288.out _; exact BK282.out⟩, ⟨by refine blk_put (cs := #[.int .i64 (wrap64 (t286)), .string (⟨#[]⟩ : ByteArray), .string (⟨#[]⟩ : ByteArray), .string (⟨#[]⟩ : ByteArray), .int .u64 0]) ?_ 4 _ rfl; refine blk_put (cs := #[.int .i64 (wrap64 (t286)), .string (⟨#[]⟩ : ByteArray), .string (⟨#[]⟩ : ByteArray), .string (⟨#[]⟩ : ByteArray), .int .u64 0]) ?_ 3 _ rfl; refine blk_put (cs := #[.int .i64 (wrap64 (t286)), .string (⟨#[]⟩ : ByteArray), .string (⟨#[]⟩ : ByteArray), .string (⟨#[]⟩ : ByteArray), .int .u64 0]) ?_ 2 _ rfl; refine blk_put (cs := #[.int .i64 (wrap64 (t286)), .string (⟨#[]⟩ : ByteArray), .string (⟨#[]⟩ : ByteArray), .string (⟨#[]⟩ : ByteArray), .int .u64 0]) ?_ 1 _ rfl; refine blk_put (cs := #[.int .i64 0, .string (⟨#[]⟩ : ByteArray), .string (⟨#[]⟩ : ByteArray), .string (⟨#[]⟩ : ByteArray), .int .u64 0]) ?_ 0 _ rfl; exact BK288.out⟩, ⟨by repeat (with_reducible first | exact HB.out | apply below_alloc | apply pw_below_drewN | apply below_drew1 | refine below_set ?_ GE282.out | refine below_set ?_ GE288.out)⟩⟩
   case round =>
    clear H'
    (try clear c1); (try clear c2); (try clear c2b0); (try clear c2b1); (try clear c2b2); (try clear p2); (try clear c4); (try clear p6); (try clear c10); (try clear hcz11_0); (try clear hcz11_1); (try clear hcz11_2); (try clear hcz11_3); (try clear hcz11_4); (try clear hfz11_0); (try clear hfz11_1); (try clear hfz11_2); (try clear hfz11_3); (try clear hfz11_4)
    obtain ⟨x8_1, x9_1, x283000_1, x283001_1, x283002_1, x283003_1, x283004_1, x289001_1, x289002_1, x289003_1, rfl, rfl, HA, HK1, HO_4, BK282, BK288, HB⟩ := hrel
    cases gk with
    | zero => exact absurd HA.out (by simp [waybillref7_KeyOf.l0])
    | succ k1 =>
     have H := HA.out
     clear HA
     simp only [waybillref7_KeyOf.l0] at H
     by_cases c12 : x9_1 < 3
     ·
      rw [if_pos c12] at H
      have c12b0 : decide (x9_1 < 3) = true := decide_eq_true c12
      clear c12
      (first | rw [c12b0] | rw [c12b2] | rw [c12b1] | (simp only [i64_w, i32_w]; rw [c12b0]) | skip)
      have HC13 := Aside0.mk H
      clear H
      go_upto_region 8 with (fail)
      go_cut [44] (fun v44 wc => ∃ (kq : Nat) (x44_12 : Bool), v44 = .bool x44_12 ∧ Aside0 (waybillref7_KeyOf.j1 kq a0 y283 x8_1 x9_1 x44_12 (wrap64 (t286)) x289001_1 x289002_1 x289003_1 0 = some (r1, r2, r3, r4, r5, r6)) ∧ Aside0 (kq ≤ k1) ∧ Aside0 (Kd.V (Kd.int .u8) 5 wc w.heap.size (fun k_ => k_ ≠ gb282 ∧ k_ ≠ gb288) (.slice Ao8 y283.length co8) y283) ∧ Aside0 (wc.heap[gb282]? = some (.cells #[.int .i64 x283000_1, .string x283001_1, .string x283002_1, .string x283003_1, .int .u64 x283004_1] 74 (0, 0))) ∧ Aside0 (wc.heap[gb288]? = some (.cells #[.int .i64 (wrap64 (t286)), .string x289001_1, .string x289002_1, .string x289003_1, .int .u64 0] 74 (0, 0))) ∧ Aside0 (Below w.heap.size w wc))
      case first =>
       have H := HC13.out
       clear HC13
       by_cases c14 : x9_1 = 0
       ·
        rw [if_pos c14] at H
        have c14b0 : (x9_1 == 0) = true := beq_iff_eq.mpr c14
        have c14b1 : (x9_1 != 0) = false := bne_eq_false_iff_eq.mpr c14
        clear c14
        (first | rw [c14b0] | rw [c14b2] | rw [c14b1] | (simp only [i64_w, i32_w]; rw [c14b0]) | skip)
        by_cases c15 : (wrap64 (t286)) = 4
        ·
         rw [if_pos c15] at H
         have c15b0 : ((wrap64 (t286)) == 4) = true := beq_iff_eq.mpr c15
         have c15b1 : ((wrap64 (t286)) != 4) = false := bne_eq_false_iff_eq.mpr c15
         clear c15
         have H' := Aside0.mk H
         clear H
         have hnb16 := NB288_282.out
         have hnc16 := NB282_288.out
         have hcz17_0 : wr.cell? ⟨gb288, 0, none⟩ = some (.int .i64 (wrap64 (t286))) := (blk_cell BK288.out 0).trans rfl
         have hcz17_1 : wr.cell? ⟨gb288, 1, none⟩ = some (.string x289001_1) := (blk_cell BK288.out 1).trans rfl
         have hcz17_2 : wr.cell? ⟨gb288, 2, none⟩ = some (.string x289002_1) := (blk_cell BK288.out 2).trans rfl
         have hcz17_3 : wr.cell? ⟨gb288, 3, none⟩ = some (.string x289003_1) := (blk_cell BK288.out 3).trans rfl
         have hcz17_4 : wr.cell? ⟨gb288, 4, none⟩ = some (.int .u64 0) := (blk_cell BK288.out 4).trans rfl
         have hfz17_0 := blk_frozen BK288.out 0
         have hfz17_1 := blk_frozen BK288.out 1
         have hfz17_2 := blk_frozen BK288.out 2
         have hfz17_3 := blk_frozen BK288.out 3
         have hfz17_4 := blk_frozen BK288.out 4
         go_wp2
         go_meet
         case rel => exact ⟨_, (true), (by first | rfl | (simp; done) | (simp [*]; done)), H', ⟨by have := HK1.out; first | omega | exact Nat.le_refl _⟩, ⟨by exact HO_4.out⟩, ⟨by exact BK282.out⟩, ⟨by exact BK288.out⟩, ⟨by repeat (with_reducible first | exact HB.out | apply below_alloc | apply pw_below_drewN | apply below_drew1 | refine below_set ?_ GE282.out | refine below_set ?_ GE288.out)⟩⟩
        ·
         rw [if_neg c15] at H
         have c15b0 : ((wrap64 (t286)) == 4) = false := beq_eq_false_iff_ne.mpr c15
         have c15b1 : ((wrap64 (t286)) != 4) = true := bne_iff_ne.mpr c15
         by_cases c18 : x9_1 > 0
         ·
          rw [if_pos c18] at H
          have c18b0 : decide (0 < x9_1) = true := decide_eq_true c18
          clear c18
          have H' := Aside0.mk H
          clear H
          have hnb19 := NB288_282.out
          have hnc19 := NB282_288.out
          have hcz20_0 : wr.cell? ⟨gb288, 0, none⟩ = some (.int .i64 (wrap64 (t286))) := (blk_cell BK288.out 0).trans rfl
          have hcz20_1 : wr.cell? ⟨gb288, 1, none⟩ = some (.string x289001_1) := (blk_cell BK288.out 1).trans rfl
          have hcz20_2 : wr.cell? ⟨gb288, 2, none⟩ = some (.string x289002_1) := (blk_cell BK288.out 2).trans rfl
          have hcz20_3 : wr.cell? ⟨gb288, 3, none⟩ = some (.string x289003_1) := (blk_cell BK288.out 3).trans rfl
          have hcz20_4 : wr.cell? ⟨gb288, 4, none⟩ = some (.int .u64 0) := (blk_cell BK288.out 4).trans rfl
          have hfz20_0 := blk_frozen BK288.out 0
          have hfz20_1 := blk_frozen BK288.out 1
          have hfz20_2 := blk_frozen BK288.out 2
          have hfz20_3 := blk_frozen BK288.out 3
          have hfz20_4 := blk_frozen BK288.out 4
          go_wp2
          go_meet
          case rel => exact ⟨_, (((wrap64 (t286)) != 3)), (by first | rfl | (simp; done) | (simp [*]; done)), H', ⟨by have := HK1.out; first | omega | exact Nat.le_refl _⟩, ⟨by exact HO_4.out⟩, ⟨by exact BK282.out⟩, ⟨by exact BK288.out⟩, ⟨by repeat (with_reducible first | exact HB.out | apply below_alloc | apply pw_below_drewN | apply below_drew1 | refine below_set ?_ GE282.out | refine below_set ?_ GE288.out)⟩⟩
         ·
          rw [if_neg c18] at H
          have c18b0 : decide (0 < x9_1) = false := decide_eq_false c18
          clear c18
          have H' := Aside0.mk H
          clear H
          have hnb21 := NB288_282.out
          have hnc21 := NB282_288.out
          have hcz22_0 : wr.cell? ⟨gb288, 0, none⟩ = some (.int .i64 (wrap64 (t286))) := (blk_cell BK288.out 0).trans rfl
          have hcz22_1 : wr.cell? ⟨gb288, 1, none⟩ = some (.string x289001_1) := (blk_cell BK288.out 1).trans rfl
          have hcz22_2 : wr.cell? ⟨gb288, 2, none⟩ = some (.string x289002_1) := (blk_cell BK288.out 2).trans rfl
          have hcz22_3 : wr.cell? ⟨gb288, 3, none⟩ = some (.string x289003_1) := (blk_cell BK288.out 3).trans rfl
          have hcz22_4 : wr.cell? ⟨gb288, 4, none⟩ = some (.int .u64 0) := (blk_cell BK288.out 4).trans rfl
          have hfz22_0 := blk_frozen BK288.out 0
          have hfz22_1 := blk_frozen BK288.out 1
          have hfz22_2 := blk_frozen BK288.out 2
          have hfz22_3 := blk_frozen BK288.out 3
          have hfz22_4 := blk_frozen BK288.out 4
          go_wp2
          go_meet
          case rel => exact ⟨_, (false), (by first | rfl | (simp; done) | (simp [*]; done)), H', ⟨by have := HK1.out; first | omega | exact Nat.le_refl _⟩, ⟨by exact HO_4.out⟩, ⟨by exact BK282.out⟩, ⟨by exact BK288.out⟩, ⟨by repeat (with_reducible first | exact HB.out | apply below_alloc | apply pw_below_drewN | apply below_drew1 | refine below_set ?_ GE282.out | refine below_set ?_ GE288.out)⟩⟩
       ·
        rw [if_neg c14] at H
        have c14b0 : (x9_1 == 0) = false := beq_eq_false_iff_ne.mpr c14
        have c14b1 : (x9_1 != 0) = true := bne_iff_ne.mpr c14
        (first | rw [c14b0] | rw [c14b2] | rw [c14b1] | (simp only [i64_w, i32_w]; rw [c14b0]) | skip)
        by_cases c23 : x9_1 > 0
        ·
         rw [if_pos c23] at H
         have c23b0 : decide (0 < x9_1) = true := decide_eq_true c23
         clear c23
         have H' := Aside0.mk H
         clear H
         have hnb24 := NB288_282.out
         have hnc24 := NB282_288.out
         have hcz25_0 : wr.cell? ⟨gb288, 0, none⟩ = some (.int .i64 (wrap64 (t286))) := (blk_cell BK288.out 0).trans rfl
         have hcz25_1 : wr.cell? ⟨gb288, 1, none⟩ = some (.string x289001_1) := (blk_cell BK288.out 1).trans rfl
         have hcz25_2 : wr.cell? ⟨gb288, 2, none⟩ = some (.string x289002_1) := (blk_cell BK288.out 2).trans rfl
         have hcz25_3 : wr.cell? ⟨gb288, 3, none⟩ = some (.string x289003_1) := (blk_cell BK288.out 3).trans rfl
         have hcz25_4 : wr.cell? ⟨gb288, 4, none⟩ = some (.int .u64 0) := (blk_cell BK288.out 4).trans rfl
         have hfz25_0 := blk_frozen BK288.out 0
         have hfz25_1 := blk_frozen BK288.out 1
         have hfz25_2 := blk_frozen BK288.out 2
         have hfz25_3 := blk_frozen BK288.out 3
         have hfz25_4 := blk_frozen BK288.out 4
         go_wp2
         go_meet
         case rel => exact ⟨_, (((wrap64 (t286)) != 3)), (by first | rfl | (simp; done) | (simp [*]; done)), H', ⟨by have := HK1.out; first | omega | exact Nat.le_refl _⟩, ⟨by exact HO_4.out⟩, ⟨by exact BK282.out⟩, ⟨by exact BK288.out⟩, ⟨by repeat (with_reducible first | exact HB.out | apply below_alloc | apply pw_below_drewN | apply below_drew1 | refine below_set ?_ GE282.out | refine below_set ?_ GE288.out)⟩⟩
        ·
         rw [if_neg c23] at H
         have c23b0 : decide (0 < x9_1) = false := decide_eq_false c23
         clear c23
         have H' := Aside0.mk H
         clear H
         go_wp2
         go_meet
         case rel => exact ⟨_, (false), (by first | rfl | (simp; done) | (simp [*]; done)), H', ⟨by have := HK1.out; first | omega | exact Nat.le_refl _⟩, ⟨by exact HO_4.out⟩, ⟨by exact BK282.out⟩, ⟨by exact BK288.out⟩, ⟨by repeat (with_reducible first | exact HB.out | apply below_alloc | apply pw_below_drewN | apply below_drew1 | refine below_set ?_ GE282.out | refine below_set ?_ GE288.out)⟩⟩
      case rest =>
       clear HC13
       (try clear c1); (try clear c2); (try clear c2b0); (try clear c2b1); (try clear c2b2); (try clear p2); (try clear c4); (try clear p6); (try clear c10); (try clear c12); (try clear c12b0); (try clear c14); (try clear c14b0); (try clear c14b1); (try clear c15); (try clear c15b0); (try clear c15b1); (try clear c16); (try clear c18); (try clear c18b0); (try clear c19); (try clear c21); (try clear c23); (try clear c23b0); (try clear c24); (try clear hcz11_0); (try clear hcz11_1); (try clear hcz11_2); (try clear hcz11_3); (try clear hcz11_4); (try clear hcz17_0); (try clear hcz17_1); (try clear hcz17_2); (try clear hcz17_3); (try clear hcz17_4); (try clear hcz20_0); (try clear hcz20_1); (try clear hcz20_2); (try clear hcz20_3); (try clear hcz20_4); (try clear hcz22_0); (try clear hcz22_1); (try clear hcz22_2); (try clear hcz22_3); (try clear hcz22_4); (try clear hcz25_0); (try clear hcz25_1); (try clear hcz25_2); (try clear hcz25_3); (try clear hcz25_4); (try clear hfz11_0); (try clear hfz11_1); (try clear hfz11_2); (try clear hfz11_3); (try clear hfz11_4); (try clear hfz17_0); (try clear hfz17_1); (try clear hfz17_2); (try clear hfz17_3); (try clear hfz17_4); (try clear hfz20_0); (try clear hfz20_1); (try clear hfz20_2); (try clear hfz20_3); (try clear hfz20_4); (try clear hfz22_0); (try clear hfz22_1); (try clear hfz22_2); (try clear hfz22_3); (try clear hfz22_4); (try clear hfz25_0); (try clear hfz25_1); (try clear hfz25_2); (try clear hfz25_3); (try clear hfz25_4); (try clear p2); (try clear p6)
       obtain ⟨kq, x44_12, rfl, HA, HJ12, HO_4, BK282, BK288, HB⟩ := hcut
       cases kq with
       | zero => exact absurd HA.out (by simp [waybillref7_KeyOf.j1])
       | succ kj12 =>
        have H := HA.out
        clear HA
        simp only [waybillref7_KeyOf.j1] at H
        by_cases c26 : x44_12 = true
        ·
         subst c26
         have H1 : (waybillref7_KeyOf.j2 kj12 a0 y283 x8_1 (wrap64 (t286)) x289001_1 x289002_1 x289003_1 0) = some (r1, r2, r3, r4, r5, r6) := by rw [if_pos rfl] at H; exact H
         clear H
         have H := H1
         clear H1
         have H' := Aside0.mk H
         clear H
         go_wp2
         go_meet
         case rel => exact ⟨_, (x8_1), (x283000_1), (x283001_1), (x283002_1), (x283003_1), (x283004_1), (x289001_1), (x289002_1), (x289003_1), (by first | rfl | (simp; done) | (simp [*]; done)), H', ⟨by have := HK1.out; have := HJ12.out; first | omega | exact Nat.le_refl _⟩, ⟨by exact HO_4.out⟩, ⟨by exact BK282.out⟩, ⟨by exact BK288.out⟩, ⟨by repeat (with_reducible first | exact HB.out | apply below_alloc | apply pw_below_drewN | apply below_drew1 | refine below_set ?_ GE282.out | refine below_set ?_ GE288.out)⟩⟩
        ·
         replace c26 := Bool.eq_false_iff.mpr c26
         subst c26
         have H1 : ((waybillref1_Text.f kj12 y283 x8_1 1).bind fun bt289 => (if bt289.2.2 = true then (if x9_1 = 0 then (waybillref7_KeyOf.l0 kj12 a0 y283 bt289.2.1 (wrap64 (x9_1 + 1)) (wrap64 (t286)) (strOfNums bt289.1) x289002_1 x289003_1 0) else (if x9_1 = 1 then (waybillref7_KeyOf.l0 kj12 a0 y283 bt289.2.1 (wrap64 (x9_1 + 1)) (wrap64 (t286)) x289001_1 (strOfNums bt289.1) x289003_1 0) else (waybillref7_KeyOf.l0 kj12 a0 y283 bt289.2.1 (wrap64 (x9_1 + 1)) (wrap64 (t286)) x289001_1 x289002_1 (strOfNums bt289.1) 0))) else (some (0, (⟨#[]⟩ : ByteArray), (⟨#[]⟩ : ByteArray), (⟨#[]⟩ : ByteArray), 0, false)))) = some (r1, r2, r3, r4, r5, r6) := by rw [if_neg (show ¬ (false = true) by decide)] at H; exact H
         clear H
         have H := H1
         clear H1
         replace H := Option.bind_eq_some_iff.mp H
         obtain ⟨⟨t289, t292, t293⟩, A270, H⟩ := H
         replace H : (if t293 = true then (if x9_1 = 0 then (waybillref7_KeyOf.l0 kj12 a0 y283 t292 (wrap64 (x9_1 + 1)) (wrap64 (t286)) (strOfNums t289) x289002_1 x289003_1 0) else (if x9_1 = 1 then (waybillref7_KeyOf.l0 kj12 a0 y283 t292 (wrap64 (x9_1 + 1)) (wrap64 (t286)) x289001_1 (strOfNums t289) x289003_1 0) else (waybillref7_KeyOf.l0 kj12 a0 y283 t292 (wrap64 (x9_1 + 1)) (wrap64 (t286)) x289001_1 x289002_1 (strOfNums t289) 0))) else (some (0, (⟨#[]⟩ : ByteArray), (⟨#[]⟩ : ByteArray), (⟨#[]⟩ : ByteArray), 0, false))) = some (r1, r2, r3, r4, r5, r6) := H
         have A27 := Aside0.mk A270
         clear A270
         by_cases c28 : t293 = true
         ·
          subst c28
          have H1 : (if x9_1 = 0 then (waybillref7_KeyOf.l0 kj12 a0 y283 t292 (wrap64 (x9_1 + 1)) (wrap64 (t286)) (strOfNums t289) x289002_1 x289003_1 0) else (if x9_1 = 1 then (waybillref7_KeyOf.l0 kj12 a0 y283 t292 (wrap64 (x9_1 + 1)) (wrap64 (t286)) x289001_1 (strOfNums t289) x289003_1 0) else (waybillref7_KeyOf.l0 kj12 a0 y283 t292 (wrap64 (x9_1 + 1)) (wrap64 (t286)) x289001_1 x289002_1 (strOfNums t289) 0))) = some (r1, r2, r3, r4, r5, r6) := by rw [if_pos rfl] at H; exact H
          clear H
          have H := H1
          clear H1
          by_cases c29 : x9_1 = 0
          ·
           rw [if_pos c29] at H
           have c29b0 : (x9_1 == 0) = true := beq_iff_eq.mpr c29
           have c29b1 : (x9_1 != 0) = false := bne_eq_false_iff_eq.mpr c29
           clear c29
           have H' := Aside0.mk H
           clear H
           go_wp2_with (first | ((with_reducible refine gate_callee (f := 62) rfl ?_); refine goesL_ (some 48) rfl rfl Try.func62 (by kernel_rfl) rfl #[.slice Ao8 y283.length co8, .int .i64 x8_1, .int .i64 1] rfl (by (try simp only [List.map_toArray, List.map_cons, List.map_nil]); first | done | rfl | (simp only [List.length_drop, List.length_take]; rfl)) ?_; (with_reducible refine (waybillref1_Text.calls kj12 (fun k_ => (k_ ≠ gb282 ∧ k_ ≠ gb288)) _ _ y283 x8_1 1 t289 t292 true _ ?side1 A27.out).mono ?_); (case side1 => exact HO_4.out); rintro e w30 ⟨v290, rfl, ho0, hb⟩; refine ⟨_, rfl, ?_⟩; have n0_ := Aside0.mk (Kd.V_below (by exact HO_4.out) hb); have n1_ := Aside0.mk (Kd.V_lower (Kd.V_mono (ok' := fun k_ => k_ ≠ gb282 ∧ k_ ≠ gb288) ho0 (fun k_ hk_ => ⟨Or.elim hk_ (fun hs_ => hs_.1) (fun hn_ => (Kd.freshB (g := gb282) (o := .cells #[.int .i64 x283000_1, .string x283001_1, .string x283002_1, .string x283003_1, .int .u64 x283004_1] 74 (0, 0)) (by exact BK282.out) k_ hn_)), Or.elim hk_ (fun hs_ => hs_.2) (fun hn_ => (Kd.freshB (g := gb288) (o := .cells #[.int .i64 (wrap64 (t286)), .string x289001_1, .string x289002_1, .string x289003_1, .int .u64 0] 74 (0, 0)) (by exact BK288.out) k_ hn_))⟩)) (below_size (by repeat (with_reducible first | exact HB.out | apply below_alloc | apply pw_below_drewN | apply below_drew1 | refine below_set ?_ GE282.out | refine below_set ?_ GE288.out)))); have n2_ := Aside0.mk (blk_below (g := gb282) (o := .cells #[.int .i64 x283000_1, .string x283001_1, .string x283002_1, .string x283003_1, .int .u64 x283004_1] 74 (0, 0)) (by exact BK282.out) hb); have n3_ := Aside0.mk (blk_below (g := gb288) (o := .cells #[.int .i64 (wrap64 (t286)), .string x289001_1, .string x289002_1, .string x289003_1, .int .u64 0] 74 (0, 0)) (by exact BK288.out) hb); have n4_ := Aside0.mk (below_step (by repeat (with_reducible first | exact HB.out | apply below_alloc | apply pw_below_drewN | apply below_drew1 | refine below_set ?_ GE282.out | refine below_set ?_ GE288.out)) hb); clear HO_4; clear BK282; clear BK288; clear HB; have HO_4 := n0_; have HO291 := n1_; have BK282 := n2_; have BK288 := n3_; have HB := n4_; clear n0_ n1_ n2_ n3_ n4_; (try clear hb); (try clear hb2); (try clear hk); (try clear hi); (try clear hge); (try clear ho0); obtain ⟨Ao31, co31, eo31⟩ := Kd.V_slice HO291.out; subst eo31; have hcv32 := Kd.C_string (P := Try.prog) (A := Ao31) (c := co31) Try.underlying26 Try.underlying5 Try.underlying9 ((Kd.V_reads' (by exact HO291.out)).2.2); have hnb33 := NB288_282.out; have hnc33 := NB282_288.out; have hcz34_0 : w30.cell? ⟨gb288, 0, none⟩ = some (.int .i64 (wrap64 (t286))) := (blk_cell BK288.out 0).trans rfl; have hcz34_1 : w30.cell? ⟨gb288, 1, none⟩ = some (.string x289001_1) := (blk_cell BK288.out 1).trans rfl; have hcz34_2 : w30.cell? ⟨gb288, 2, none⟩ = some (.string x289002_1) := (blk_cell BK288.out 2).trans rfl; have hcz34_3 : w30.cell? ⟨gb288, 3, none⟩ = some (.string x289003_1) := (blk_cell BK288.out 3).trans rfl; have hcz34_4 : w30.cell? ⟨gb288, 4, none⟩ = some (.int .u64 0) := (blk_cell BK288.out 4).trans rfl; have hfz34_0 := blk_frozen BK288.out 0; have hfz34_1 := blk_frozen BK288.out 1; have hfz34_2 := blk_frozen BK288.out 2; have hfz34_3 := blk_frozen BK288.out 3; have hfz34_4 := blk_frozen BK288.out 4))
           go_roundg kj12
           case measure => have := HK1.out; have := HJ12.out; omega
           case rel => exact ⟨(t292), (wrap64 (x9_1 + 1)), (x283000_1), (x283001_1), (x283002_1), (x283003_1), (x283004_1), (strOfNums t289), (x289002_1), (x289003_1), (by first | rfl | (simp; done) | (simp [*]; done)), (by first | rfl | (simp; done) | (simp [*]; done)), H', ⟨by have := HK1.out; have := HJ12.out; omega⟩, ⟨by exact Kd.V_mono (Kd.V_far (p := ⟨gb288, 1, none⟩) (Kd.V_mono HO_4.out (fun k_ hk => (⟨hk, hk.2⟩ : _ ∧ k_ ≠ gb288))) (fun _ hk => hk.2) (.string (strOfNums t289))) (fun _ hk => ⟨hk.1.1, hk.1.2⟩)⟩, ⟨by refine blk_far ?_ NB282_288.out _; exact BK282.out⟩, ⟨by refine blk_put (cs := #[.int .i64 (wrap64 (t286)), .string x289001_1, .string x289002_1, .string x289003_1, .int .u64 0]) ?_ 1 _ rfl; exact BK288.out⟩, ⟨by repeat (with_reducible first | exact HB.out | apply below_alloc | apply pw_below_drewN | apply below_drew1 | refine below_set ?_ GE282.out | refine below_set ?_ GE288.out)⟩⟩
          ·
           rw [if_neg c29] at H
           have c29b0 : (x9_1 == 0) = false := beq_eq_false_iff_ne.mpr c29
           have c29b1 : (x9_1 != 0) = true := bne_iff_ne.mpr c29
           by_cases c35 : x9_1 = 1
           ·
            rw [if_pos c35] at H
            have c35b0 : (x9_1 == 1) = true := beq_iff_eq.mpr c35
            have c35b1 : (x9_1 != 1) = false := bne_eq_false_iff_eq.mpr c35
            clear c35
            have H' := Aside0.mk H
            clear H
            go_wp2_with (first | ((with_reducible refine gate_callee (f := 62) rfl ?_); refine goesL_ (some 48) rfl rfl Try.func62 (by kernel_rfl) rfl #[.slice Ao8 y283.length co8, .int .i64 x8_1, .int .i64 1] rfl (by (try simp only [List.map_toArray, List.map_cons, List.map_nil]); first | done | rfl | (simp only [List.length_drop, List.length_take]; rfl)) ?_; (with_reducible refine (waybillref1_Text.calls kj12 (fun k_ => (k_ ≠ gb282 ∧ k_ ≠ gb288)) _ _ y283 x8_1 1 t289 t292 true _ ?side1 A27.out).mono ?_); (case side1 => exact HO_4.out); rintro e w36 ⟨v290, rfl, ho0, hb⟩; refine ⟨_, rfl, ?_⟩; have n0_ := Aside0.mk (Kd.V_below (by exact HO_4.out) hb); have n1_ := Aside0.mk (Kd.V_lower (Kd.V_mono (ok' := fun k_ => k_ ≠ gb282 ∧ k_ ≠ gb288) ho0 (fun k_ hk_ => ⟨Or.elim hk_ (fun hs_ => hs_.1) (fun hn_ => (Kd.freshB (g := gb282) (o := .cells #[.int .i64 x283000_1, .string x283001_1, .string x283002_1, .string x283003_1, .int .u64 x283004_1] 74 (0, 0)) (by exact BK282.out) k_ hn_)), Or.elim hk_ (fun hs_ => hs_.2) (fun hn_ => (Kd.freshB (g := gb288) (o := .cells #[.int .i64 (wrap64 (t286)), .string x289001_1, .string x289002_1, .string x289003_1, .int .u64 0] 74 (0, 0)) (by exact BK288.out) k_ hn_))⟩)) (below_size (by repeat (with_reducible first | exact HB.out | apply below_alloc | apply pw_below_drewN | apply below_drew1 | refine below_set ?_ GE282.out | refine below_set ?_ GE288.out)))); have n2_ := Aside0.mk (blk_below (g := gb282) (o := .cells #[.int .i64 x283000_1, .string x283001_1, .string x283002_1, .string x283003_1, .int .u64 x283004_1] 74 (0, 0)) (by exact BK282.out) hb); have n3_ := Aside0.mk (blk_below (g := gb288) (o := .cells #[.int .i64 (wrap64 (t286)), .string x289001_1, .string x289002_1, .string x289003_1, .int .u64 0] 74 (0, 0)) (by exact BK288.out) hb); have n4_ := Aside0.mk (below_step (by repeat (with_reducible first | exact HB.out | apply below_alloc | apply pw_below_drewN | apply below_drew1 | refine below_set ?_ GE282.out | refine below_set ?_ GE288.out)) hb); clear HO_4; clear BK282; clear BK288; clear HB; have HO_4 := n0_; have HO291 := n1_; have BK282 := n2_; have BK288 := n3_; have HB := n4_; clear n0_ n1_ n2_ n3_ n4_; (try clear hb); (try clear hb2); (try clear hk); (try clear hi); (try clear hge); (try clear ho0); obtain ⟨Ao37, co37, eo37⟩ := Kd.V_slice HO291.out; subst eo37; have hcv38 := Kd.C_string (P := Try.prog) (A := Ao37) (c := co37) Try.underlying26 Try.underlying5 Try.underlying9 ((Kd.V_reads' (by exact HO291.out)).2.2); have hnb39 := NB288_282.out; have hnc39 := NB282_288.out; have hcz40_0 : w36.cell? ⟨gb288, 0, none⟩ = some (.int .i64 (wrap64 (t286))) := (blk_cell BK288.out 0).trans rfl; have hcz40_1 : w36.cell? ⟨gb288, 1, none⟩ = some (.string x289001_1) := (blk_cell BK288.out 1).trans rfl; have hcz40_2 : w36.cell? ⟨gb288, 2, none⟩ = some (.string x289002_1) := (blk_cell BK288.out 2).trans rfl; have hcz40_3 : w36.cell? ⟨gb288, 3, none⟩ = some (.string x289003_1) := (blk_cell BK288.out 3).trans rfl; have hcz40_4 : w36.cell? ⟨gb288, 4, none⟩ = some (.int .u64 0) := (blk_cell BK288.out 4).trans rfl; have hfz40_0 := blk_frozen BK288.out 0; have hfz40_1 := blk_frozen BK288.out 1; have hfz40_2 := blk_frozen BK288.out 2; have hfz40_3 := blk_frozen BK288.out 3; have hfz40_4 := blk_frozen BK288.out 4))
            go_roundg kj12
            case measure => have := HK1.out; have := HJ12.out; omega
            case rel => exact ⟨(t292), (wrap64 (x9_1 + 1)), (x283000_1), (x283001_1), (x283002_1), (x283003_1), (x283004_1), (x289001_1), (strOfNums t289), (x289003_1), (by first | rfl | (simp; done) | (simp [*]; done)), (by first | rfl | (simp; done) | (simp [*]; done)), H', ⟨by have := HK1.out; have := HJ12.out; omega⟩, ⟨by exact Kd.V_mono (Kd.V_far (p := ⟨gb288, 2, none⟩) (Kd.V_mono HO_4.out (fun k_ hk => (⟨hk, hk.2⟩ : _ ∧ k_ ≠ gb288))) (fun _ hk => hk.2) (.string (strOfNums t289))) (fun _ hk => ⟨hk.1.1, hk.1.2⟩)⟩, ⟨by refine blk_far ?_ NB282_288.out _; exact BK282.out⟩, ⟨by refine blk_put (cs := #[.int .i64 (wrap64 (t286)), .string x289001_1, .string x289002_1, .string x289003_1, .int .u64 0]) ?_ 2 _ rfl; exact BK288.out⟩, ⟨by repeat (with_reducible first | exact HB.out | apply below_alloc | apply pw_below_drewN | apply below_drew1 | refine below_set ?_ GE282.out | refine below_set ?_ GE288.out)⟩⟩
           ·
            rw [if_neg c35] at H
            have c35b0 : (x9_1 == 1) = false := beq_eq_false_iff_ne.mpr c35
            have c35b1 : (x9_1 != 1) = true := bne_iff_ne.mpr c35
            have H' := Aside0.mk H
            clear H
            go_wp2_with (first | ((with_reducible refine gate_callee (f := 62) rfl ?_); refine goesL_ (some 48) rfl rfl Try.func62 (by kernel_rfl) rfl #[.slice Ao8 y283.length co8, .int .i64 x8_1, .int .i64 1] rfl (by (try simp only [List.map_toArray, List.map_cons, List.map_nil]); first | done | rfl | (simp only [List.length_drop, List.length_take]; rfl)) ?_; (with_reducible refine (waybillref1_Text.calls kj12 (fun k_ => (k_ ≠ gb282 ∧ k_ ≠ gb288)) _ _ y283 x8_1 1 t289 t292 true _ ?side1 A27.out).mono ?_); (case side1 => exact HO_4.out); rintro e w41 ⟨v290, rfl, ho0, hb⟩; refine ⟨_, rfl, ?_⟩; have n0_ := Aside0.mk (Kd.V_below (by exact HO_4.out) hb); have n1_ := Aside0.mk (Kd.V_lower (Kd.V_mono (ok' := fun k_ => k_ ≠ gb282 ∧ k_ ≠ gb288) ho0 (fun k_ hk_ => ⟨Or.elim hk_ (fun hs_ => hs_.1) (fun hn_ => (Kd.freshB (g := gb282) (o := .cells #[.int .i64 x283000_1, .string x283001_1, .string x283002_1, .string x283003_1, .int .u64 x283004_1] 74 (0, 0)) (by exact BK282.out) k_ hn_)), Or.elim hk_ (fun hs_ => hs_.2) (fun hn_ => (Kd.freshB (g := gb288) (o := .cells #[.int .i64 (wrap64 (t286)), .string x289001_1, .string x289002_1, .string x289003_1, .int .u64 0] 74 (0, 0)) (by exact BK288.out) k_ hn_))⟩)) (below_size (by repeat (with_reducible first | exact HB.out | apply below_alloc | apply pw_below_drewN | apply below_drew1 | refine below_set ?_ GE282.out | refine below_set ?_ GE288.out)))); have n2_ := Aside0.mk (blk_below (g := gb282) (o := .cells #[.int .i64 x283000_1, .string x283001_1, .string x283002_1, .string x283003_1, .int .u64 x283004_1] 74 (0, 0)) (by exact BK282.out) hb); have n3_ := Aside0.mk (blk_below (g := gb288) (o := .cells #[.int .i64 (wrap64 (t286)), .string x289001_1, .string x289002_1, .string x289003_1, .int .u64 0] 74 (0, 0)) (by exact BK288.out) hb); have n4_ := Aside0.mk (below_step (by repeat (with_reducible first | exact HB.out | apply below_alloc | apply pw_below_drewN | apply below_drew1 | refine below_set ?_ GE282.out | refine below_set ?_ GE288.out)) hb); clear HO_4; clear BK282; clear BK288; clear HB; have HO_4 := n0_; have HO291 := n1_; have BK282 := n2_; have BK288 := n3_; have HB := n4_; clear n0_ n1_ n2_ n3_ n4_; (try clear hb); (try clear hb2); (try clear hk); (try clear hi); (try clear hge); (try clear ho0); obtain ⟨Ao42, co42, eo42⟩ := Kd.V_slice HO291.out; subst eo42; have hcv43 := Kd.C_string (P := Try.prog) (A := Ao42) (c := co42) Try.underlying26 Try.underlying5 Try.underlying9 ((Kd.V_reads' (by exact HO291.out)).2.2); have hnb44 := NB288_282.out; have hnc44 := NB282_288.out; have hcz45_0 : w41.cell? ⟨gb288, 0, none⟩ = some (.int .i64 (wrap64 (t286))) := (blk_cell BK288.out 0).trans rfl; have hcz45_1 : w41.cell? ⟨gb288, 1, none⟩ = some (.string x289001_1) := (blk_cell BK288.out 1).trans rfl; have hcz45_2 : w41.cell? ⟨gb288, 2, none⟩ = some (.string x289002_1) := (blk_cell BK288.out 2).trans rfl; have hcz45_3 : w41.cell? ⟨gb288, 3, none⟩ = some (.string x289003_1) := (blk_cell BK288.out 3).trans rfl; have hcz45_4 : w41.cell? ⟨gb288, 4, none⟩ = some (.int .u64 0) := (blk_cell BK288.out 4).trans rfl; have hfz45_0 := blk_frozen BK288.out 0; have hfz45_1 := blk_frozen BK288.out 1; have hfz45_2 := blk_frozen BK288.out 2; have hfz45_3 := blk_frozen BK288.out 3; have hfz45_4 := blk_frozen BK288.out 4))
            go_roundg kj12
            case measure => have := HK1.out; have := HJ12.out; omega
            case rel => exact ⟨(t292), (wrap64 (x9_1 + 1)), (x283000_1), (x283001_1), (x283002_1), (x283003_1), (x283004_1), (x289001_1), (x289002_1), (strOfNums t289), (by first | rfl | (simp; done) | (simp [*]; done)), (by first | rfl | (simp; done) | (simp [*]; done)), H', ⟨by have := HK1.out; have := HJ12.out; omega⟩, ⟨by exact Kd.V_mono (Kd.V_far (p := ⟨gb288, 3, none⟩) (Kd.V_mono HO_4.out (fun k_ hk => (⟨hk, hk.2⟩ : _ ∧ k_ ≠ gb288))) (fun _ hk => hk.2) (.string (strOfNums t289))) (fun _ hk => ⟨hk.1.1, hk.1.2⟩)⟩, ⟨by refine blk_far ?_ NB282_288.out _; exact BK282.out⟩, ⟨by refine blk_put (cs := #[.int .i64 (wrap64 (t286)), .string x289001_1, .string x289002_1, .string x289003_1, .int .u64 0]) ?_ 3 _ rfl; exact BK288.out⟩, ⟨by repeat (with_reducible first | exact HB.out | apply below_alloc | apply pw_below_drewN | apply below_drew1 | refine below_set ?_ GE282.out | refine below_set ?_ GE288.out)⟩⟩
         ·
          replace c28 := Bool.eq_false_iff.mpr c28
          subst c28
          have H1 : (some (0, (⟨#[]⟩ : ByteArray), (⟨#[]⟩ : ByteArray), (⟨#[]⟩ : ByteArray), 0, false)) = some (r1, r2, r3, r4, r5, r6) := by rw [if_neg (show ¬ (false = true) by decide)] at H; exact H
          clear H
          have H := H1
          clear H1
          simp only [Option.some.injEq, Prod.mk.injEq] at H
          obtain ⟨rfl, rfl, rfl, rfl, rfl, rfl⟩ := H
          go_wp2_with (first | ((with_reducible refine gate_callee (f := 62) rfl ?_); refine goesL_ (some 48) rfl rfl Try.func62 (by kernel_rfl) rfl #[.slice Ao8 y283.length co8, .int .i64 x8_1, .int .i64 1] rfl (by (try simp only [List.map_toArray, List.map_cons, List.map_nil]); first | done | rfl | (simp only [List.length_drop, List.length_take]; rfl)) ?_; (with_reducible refine (waybillref1_Text.calls kj12 (fun k_ => (k_ ≠ gb282 ∧ k_ ≠ gb288)) _ _ y283 x8_1 1 t289 t292 false _ ?side1 A27.out).mono ?_); (case side1 => exact HO_4.out); rintro e w46 ⟨v290, rfl, ho0, hb⟩; refine ⟨_, rfl, ?_⟩; have n0_ := Aside0.mk (Kd.V_below (by exact HO_4.out) hb); have n1_ := Aside0.mk (Kd.V_lower (Kd.V_mono (ok' := fun k_ => k_ ≠ gb282 ∧ k_ ≠ gb288) ho0 (fun k_ hk_ => ⟨Or.elim hk_ (fun hs_ => hs_.1) (fun hn_ => (Kd.freshB (g := gb282) (o := .cells #[.int .i64 x283000_1, .string x283001_1, .string x283002_1, .string x283003_1, .int .u64 x283004_1] 74 (0, 0)) (by exact BK282.out) k_ hn_)), Or.elim hk_ (fun hs_ => hs_.2) (fun hn_ => (Kd.freshB (g := gb288) (o := .cells #[.int .i64 (wrap64 (t286)), .string x289001_1, .string x289002_1, .string x289003_1, .int .u64 0] 74 (0, 0)) (by exact BK288.out) k_ hn_))⟩)) (below_size (by repeat (with_reducible first | exact HB.out | apply below_alloc | apply pw_below_drewN | apply below_drew1 | refine below_set ?_ GE282.out | refine below_set ?_ GE288.out)))); have n2_ := Aside0.mk (blk_below (g := gb282) (o := .cells #[.int .i64 x283000_1, .string x283001_1, .string x283002_1, .string x283003_1, .int .u64 x283004_1] 74 (0, 0)) (by exact BK282.out) hb); have n3_ := Aside0.mk (blk_below (g := gb288) (o := .cells #[.int .i64 (wrap64 (t286)), .string x289001_1, .string x289002_1, .string x289003_1, .int .u64 0] 74 (0, 0)) (by exact BK288.out) hb); have n4_ := Aside0.mk (below_step (by repeat (with_reducible first | exact HB.out | apply below_alloc | apply pw_below_drewN | apply below_drew1 | refine below_set ?_ GE282.out | refine below_set ?_ GE288.out)) hb); clear HO_4; clear BK282; clear BK288; clear HB; have HO_4 := n0_; have HO291 := n1_; have BK282 := n2_; have BK288 := n3_; have HB := n4_; clear n0_ n1_ n2_ n3_ n4_; (try clear hb); (try clear hb2); (try clear hk); (try clear hi); (try clear hge); (try clear ho0); have hnb47 := NB282_288.out; have hnc47 := NB288_282.out; have hcz48_0 : w46.cell? ⟨gb282, 0, none⟩ = some (.int .i64 x283000_1) := (blk_cell BK282.out 0).trans rfl; have hcz48_1 : w46.cell? ⟨gb282, 1, none⟩ = some (.string x283001_1) := (blk_cell BK282.out 1).trans rfl; have hcz48_2 : w46.cell? ⟨gb282, 2, none⟩ = some (.string x283002_1) := (blk_cell BK282.out 2).trans rfl; have hcz48_3 : w46.cell? ⟨gb282, 3, none⟩ = some (.string x283003_1) := (blk_cell BK282.out 3).trans rfl; have hcz48_4 : w46.cell? ⟨gb282, 4, none⟩ = some (.int .u64 x283004_1) := (blk_cell BK282.out 4).trans rfl; have hfz48_0 := blk_frozen BK282.out 0; have hfz48_1 := blk_frozen BK282.out 1; have hfz48_2 := blk_frozen BK282.out 2; have hfz48_3 := blk_frozen BK282.out 3; have hfz48_4 := blk_frozen BK282.out 4))
          refine bodyPost_ret (results_ct rfl _ _ gb282 74 #[.int .i64 0, .string (⟨#[]⟩ : ByteArray), .string (⟨#[]⟩ : ByteArray), .string (⟨#[]⟩ : ByteArray), .int .u64 0] (0, 0) _ rfl (by refine blk_put (cs := #[.int .i64 0, .string (⟨#[]⟩ : ByteArray), .string (⟨#[]⟩ : ByteArray), .string (⟨#[]⟩ : ByteArray), .int .u64 x283004_1]) ?_ 4 _ rfl; refine blk_put (cs := #[.int .i64 0, .string (⟨#[]⟩ : ByteArray), .string (⟨#[]⟩ : ByteArray), .string x283003_1, .int .u64 x283004_1]) ?_ 3 _ rfl; refine blk_put (cs := #[.int .i64 0, .string (⟨#[]⟩ : ByteArray), .string x283002_1, .string x283003_1, .int .u64 x283004_1]) ?_ 2 _ rfl; refine blk_put (cs := #[.int .i64 0, .string x283001_1, .string x283002_1, .string x283003_1, .int .u64 x283004_1]) ?_ 1 _ rfl; refine blk_put (cs := #[.int .i64 x283000_1, .string x283001_1, .string x283002_1, .string x283003_1, .int .u64 x283004_1]) ?_ 0 _ rfl; exact BK282.out) Try.underlying74 rfl (by kernel_rfl)) rfl ?_
          exact ⟨by first | rfl | (simp [errW_none, errW_some]; done) | (simp [errW_none, errW_some]; rfl) | (simp [*, errW_none, errW_some]; done) | (simp [*, errW_none, errW_some]; rfl), by repeat (with_reducible first | exact HB.out | apply below_alloc | apply pw_below_drewN | apply below_drew1 | refine below_set ?_ GE282.out | refine below_set ?_ GE288.out)⟩
     ·
      rw [if_neg c12] at H
      have c12b0 : decide (x9_1 < 3) = false := decide_eq_false c12
      clear c12
      (first | rw [c12b0] | rw [c12b2] | rw [c12b1] | (simp only [i64_w, i32_w]; rw [c12b0]) | skip)
      have H' := Aside0.mk H
      clear H
      go_wp2
      go_meet
      case rel => exact ⟨_, (x8_1), (x283000_1), (x283001_1), (x283002_1), (x283003_1), (x283004_1), (x289001_1), (x289002_1), (x289003_1), (by first | rfl | (simp; done) | (simp [*]; done)), H', ⟨by have := HK1.out; first | omega | exact Nat.le_refl _⟩, ⟨by exact HO_4.out⟩, ⟨by exact BK282.out⟩, ⟨by exact BK288.out⟩, ⟨by repeat (with_reducible first | exact HB.out | apply below_alloc | apply pw_below_drewN | apply below_drew1 | refine below_set ?_ GE282.out | refine below_set ?_ GE288.out)⟩⟩
  case rest =>
   clear HC4
   (try clear c1); (try clear c2); (try clear c2b0); (try clear c2b1); (try clear c2b2); (try clear p2); (try clear c3); (try clear hcv3); (try clear c4); (try clear hcv4); (try clear c6); (try clear p6); (try clear c10); (try clear c12); (try clear c12b0); (try clear c14); (try clear c14b0); (try clear c14b1); (try clear c15); (try clear c15b0); (try clear c15b1); (try clear c16); (try clear c18); (try clear c18b0); (try clear c19); (try clear c21); (try clear c23); (try clear c23b0); (try clear c24); (try clear c26); (try clear c28); (try clear c29); (try clear c29b0); (try clear c29b1); (try clear hcv32); (try clear c33); (try clear c35); (try clear c35b0); (try clear c35b1); (try clear hcv38); (try clear c39); (try clear c42); (try clear hcv43); (try clear c44); (try clear c47); (try clear hcz11_0); (try clear hcz11_1); (try clear hcz11_2); (try clear hcz11_3); (try clear hcz11_4); (try clear hcz17_0); (try clear hcz17_1); (try clear hcz17_2); (try clear hcz17_3); (try clear hcz17_4); (try clear hcz20_0); (try clear hcz20_1); (try clear hcz20_2); (try clear hcz20_3); (try clear hcz20_4); (try clear hcz22_0); (try clear hcz22_1); (try clear hcz22_2); (try clear hcz22_3); (try clear hcz22_4); (try clear hcz25_0); (try clear hcz25_1); (try clear hcz25_2); (try clear hcz25_3); (try clear hcz25_4); (try clear hcz34_0); (try clear hcz34_1); (try clear hcz34_2); (try clear hcz34_3); (try clear hcz34_4); (try clear hcz40_0); (try clear hcz40_1); (try clear hcz40_2); (try clear hcz40_3); (try clear hcz40_4); (try clear hcz45_0); (try clear hcz45_1); (try clear hcz45_2); (try clear hcz45_3); (try clear hcz45_4); (try clear hcz48_0); (try clear hcz48_1); (try clear hcz48_2); (try clear hcz48_3); (try clear hcz48_4); (try clear hfz11_0); (try clear hfz11_1); (try clear hfz11_2); (try clear hfz11_3); (try clear hfz11_4); (try clear hfz17_0); (try clear hfz17_1); (try clear hfz17_2); (try clear hfz17_3); (try clear hfz17_4); (try clear hfz20_0); (try clear hfz20_1); (try clear hfz20_2); (try clear hfz20_3); (try clear hfz20_4); (try clear hfz22_0); (try clear hfz22_1); (try clear hfz22_2); (try clear hfz22_3); (try clear hfz22_4); (try clear hfz25_0); (try clear hfz25_1); (try clear hfz25_2); (try clear hfz25_3); (try clear hfz25_4); (try clear hfz34_0); (try clear hfz34_1); (try clear hfz34_2); (try clear hfz34_3); (try clear hfz34_4); (try clear hfz40_0); (try clear hfz40_1); (try clear hfz40_2); (try clear hfz40_3); (try clear hfz40_4); (try clear hfz45_0); (try clear hfz45_1); (try clear hfz45_2); (try clear hfz45_3); (try clear hfz45_4); (try clear hfz48_0); (try clear hfz48_1); (try clear hfz48_2); (try clear hfz48_3); (try clear hfz48_4); (try clear p2); (try clear p6)
   obtain ⟨kq, x8_3, x283000_3, x283001_3, x283002_3, x283003_3, x283004_3, x289001_3, x289002_3, x289003_3, rfl, HA, HJ3, HO_4, BK282, BK288, HB⟩ := hcut
   cases kq with
   | zero => exact absurd HA.out (by simp [waybillref7_KeyOf.j2])
   | succ kj3 =>
    have H := HA.out
    clear HA
    simp only [waybillref7_KeyOf.j2] at H
    have HC49 := Aside0.mk H
    clear H
    go_upto_region 19 with (fail)
    go_cut [77] (fun v77 wc => ∃ (kq : Nat) (x77_48 : Bool), v77 = .bool x77_48 ∧ Aside0 (waybillref7_KeyOf.j3 kq a0 y283 x8_3 x77_48 (wrap64 (t286)) x289001_3 x289002_3 x289003_3 0 = some (r1, r2, r3, r4, r5, r6)) ∧ Aside0 (kq ≤ kj3) ∧ Aside0 (Kd.V (Kd.int .u8) 5 wc w.heap.size (fun k_ => k_ ≠ gb282 ∧ k_ ≠ gb288) (.slice Ao8 y283.length co8) y283) ∧ Aside0 (wc.heap[gb282]? = some (.cells #[.int .i64 x283000_3, .string x283001_3, .string x283002_3, .string x283003_3, .int .u64 x283004_3] 74 (0, 0))) ∧ Aside0 (wc.heap[gb288]? = some (.cells #[.int .i64 (wrap64 (t286)), .string x289001_3, .string x289002_3, .string x289003_3, .int .u64 0] 74 (0, 0))) ∧ Aside0 (Below w.heap.size w wc))
    case first =>
     have H := HC49.out
     clear HC49
     by_cases c50 : (wrap64 (t286)) = 4
     ·
      rw [if_pos c50] at H
      have c50b0 : ((wrap64 (t286)) == 4) = true := beq_iff_eq.mpr c50
      have c50b1 : ((wrap64 (t286)) != 4) = false := bne_eq_false_iff_eq.mpr c50
      clear c50
      (first | rw [c50b0] | rw [c50b2] | rw [c50b1] | (simp only [i64_w, i32_w]; rw [c50b0]) | skip)
      have H' := Aside0.mk H
      clear H
      have hnb51 := NB288_282.out
      have hnc51 := NB282_288.out
      have hcz52_0 : wc.cell? ⟨gb288, 0, none⟩ = some (.int .i64 (wrap64 (t286))) := (blk_cell BK288.out 0).trans rfl
      have hcz52_1 : wc.cell? ⟨gb288, 1, none⟩ = some (.string x289001_3) := (blk_cell BK288.out 1).trans rfl
      have hcz52_2 : wc.cell? ⟨gb288, 2, none⟩ = some (.string x289002_3) := (blk_cell BK288.out 2).trans rfl
      have hcz52_3 : wc.cell? ⟨gb288, 3, none⟩ = some (.string x289003_3) := (blk_cell BK288.out 3).trans rfl
      have hcz52_4 : wc.cell? ⟨gb288, 4, none⟩ = some (.int .u64 0) := (blk_cell BK288.out 4).trans rfl
      have hfz52_0 := blk_frozen BK288.out 0
      have hfz52_1 := blk_frozen BK288.out 1
      have hfz52_2 := blk_frozen BK288.out 2
      have hfz52_3 := blk_frozen BK288.out 3
      have hfz52_4 := blk_frozen BK288.out 4
      go_wp2
      go_meet
      case rel => exact ⟨_, (true), (by first | rfl | (simp; done) | (simp [*]; done)), H', ⟨by have := HJ3.out; first | omega | exact Nat.le_refl _⟩, ⟨by exact HO_4.out⟩, ⟨by exact BK282.out⟩, ⟨by exact BK288.out⟩, ⟨by repeat (with_reducible first | exact HB.out | apply below_alloc | apply pw_below_drewN | apply below_drew1 | refine below_set ?_ GE282.out | refine below_set ?_ GE288.out)⟩⟩
     ·
      rw [if_neg c50] at H
      have c50b0 : ((wrap64 (t286)) == 4) = false := beq_eq_false_iff_ne.mpr c50
      have c50b1 : ((wrap64 (t286)) != 4) = true := bne_iff_ne.mpr c50
      (first | rw [c50b0] | rw [c50b2] | rw [c50b1] | (simp only [i64_w, i32_w]; rw [c50b0]) | skip)
      have H' := Aside0.mk H
      clear H
      have hnb53 := NB288_282.out
      have hnc53 := NB282_288.out
      have hcz54_0 : wc.cell? ⟨gb288, 0, none⟩ = some (.int .i64 (wrap64 (t286))) := (blk_cell BK288.out 0).trans rfl
      have hcz54_1 : wc.cell? ⟨gb288, 1, none⟩ = some (.string x289001_3) := (blk_cell BK288.out 1).trans rfl
      have hcz54_2 : wc.cell? ⟨gb288, 2, none⟩ = some (.string x289002_3) := (blk_cell BK288.out 2).trans rfl
      have hcz54_3 : wc.cell? ⟨gb288, 3, none⟩ = some (.string x289003_3) := (blk_cell BK288.out 3).trans rfl
      have hcz54_4 : wc.cell? ⟨gb288, 4, none⟩ = some (.int .u64 0) := (blk_cell BK288.out 4).trans rfl
      have hfz54_0 := blk_frozen BK288.out 0
      have hfz54_1 := blk_frozen BK288.out 1
      have hfz54_2 := blk_frozen BK288.out 2
      have hfz54_3 := blk_frozen BK288.out 3
      have hfz54_4 := blk_frozen BK288.out 4
      go_wp2
      go_meet
      case rel => exact ⟨_, (((wrap64 (t286)) == 5)), (by first | rfl | (simp; done) | (simp [*]; done)), H', ⟨by have := HJ3.out; first | omega | exact Nat.le_refl _⟩, ⟨by exact HO_4.out⟩, ⟨by exact BK282.out⟩, ⟨by exact BK288.out⟩, ⟨by repeat (with_reducible first | exact HB.out | apply below_alloc | apply pw_below_drewN | apply below_drew1 | refine below_set ?_ GE282.out | refine below_set ?_ GE288.out)⟩⟩
    case rest =>
     clear HC49
     (try clear c1); (try clear c2); (try clear c2b0); (try clear c2b1); (try clear c2b2); (try clear p2); (try clear c3); (try clear hcv3); (try clear c4); (try clear hcv4); (try clear c5); (try clear c6); (try clear p6); (try clear c10); (try clear c12); (try clear c12b0); (try clear c14); (try clear c14b0); (try clear c14b1); (try clear c15); (try clear c15b0); (try clear c15b1); (try clear c16); (try clear c18); (try clear c18b0); (try clear c19); (try clear c21); (try clear c23); (try clear c23b0); (try clear c24); (try clear c26); (try clear c28); (try clear c29); (try clear c29b0); (try clear c29b1); (try clear hcv32); (try clear c33); (try clear c35); (try clear c35b0); (try clear c35b1); (try clear hcv38); (try clear c39); (try clear c42); (try clear hcv43); (try clear c44); (try clear c47); (try clear c50); (try clear c50b0); (try clear c50b1); (try clear c51); (try clear c53); (try clear hcz11_0); (try clear hcz11_1); (try clear hcz11_2); (try clear hcz11_3); (try clear hcz11_4); (try clear hcz17_0); (try clear hcz17_1); (try clear hcz17_2); (try clear hcz17_3); (try clear hcz17_4); (try clear hcz20_0); (try clear hcz20_1); (try clear hcz20_2); (try clear hcz20_3); (try clear hcz20_4); (try clear hcz22_0); (try clear hcz22_1); (try clear hcz22_2); (try clear hcz22_3); (try clear hcz22_4); (try clear hcz25_0); (try clear hcz25_1); (try clear hcz25_2); (try clear hcz25_3); (try clear hcz25_4); (try clear hcz34_0); (try clear hcz34_1); (try clear hcz34_2); (try clear hcz34_3); (try clear hcz34_4); (try clear hcz40_0); (try clear hcz40_1); (try clear hcz40_2); (try clear hcz40_3); (try clear hcz40_4); (try clear hcz45_0); (try clear hcz45_1); (try clear hcz45_2); (try clear hcz45_3); (try clear hcz45_4); (try clear hcz48_0); (try clear hcz48_1); (try clear hcz48_2); (try clear hcz48_3); (try clear hcz48_4); (try clear hcz52_0); (try clear hcz52_1); (try clear hcz52_2); (try clear hcz52_3); (try clear hcz52_4); (try clear hcz54_0); (try clear hcz54_1); (try clear hcz54_2); (try clear hcz54_3); (try clear hcz54_4); (try clear hfz11_0); (try clear hfz11_1); (try clear hfz11_2); (try clear hfz11_3); (try clear hfz11_4); (try clear hfz17_0); (try clear hfz17_1); (try clear hfz17_2); (try clear hfz17_3); (try clear hfz17_4); (try clear hfz20_0); (try clear hfz20_1); (try clear hfz20_2); (try clear hfz20_3); (try clear hfz20_4); (try clear hfz22_0); (try clear hfz22_1); (try clear hfz22_2); (try clear hfz22_3); (try clear hfz22_4); (try clear hfz25_0); (try clear hfz25_1); (try clear hfz25_2); (try clear hfz25_3); (try clear hfz25_4); (try clear hfz34_0); (try clear hfz34_1); (try clear hfz34_2); (try clear hfz34_3); (try clear hfz34_4); (try clear hfz40_0); (try clear hfz40_1); (try clear hfz40_2); (try clear hfz40_3); (try clear hfz40_4); (try clear hfz45_0); (try clear hfz45_1); (try clear hfz45_2); (try clear hfz45_3); (try clear hfz45_4); (try clear hfz48_0); (try clear hfz48_1); (try clear hfz48_2); (try clear hfz48_3); (try clear hfz48_4); (try clear hfz52_0); (try clear hfz52_1); (try clear hfz52_2); (try clear hfz52_3); (try clear hfz52_4); (try clear hfz54_0); (try clear hfz54_1); (try clear hfz54_2); (try clear hfz54_3); (try clear hfz54_4); (try clear p2); (try clear p6)
     obtain ⟨kq, x77_48, rfl, HA, HJ48, HO_4, BK282, BK288, HB⟩ := hcut
     cases kq with
     | zero => exact absurd HA.out (by simp [waybillref7_KeyOf.j3])
     | succ kj48 =>
      have H := HA.out
      clear HA
      simp only [waybillref7_KeyOf.j3] at H
      by_cases c55 : x77_48 = true
      ·
       subst c55
       have H1 : ((waybillref1_Num.f kj48 y283 x8_3 8).bind fun bt294 => ((waybillref7_Key.f kj48 (wrap64 (t286)) x289001_3 x289002_3 x289003_3 bt294.1).bind fun bt296 => (if bt296.2 = true then (if bt296.1.toList = a0.toList then (some ((wrap64 (t286)), x289001_3, x289002_3, x289003_3, bt294.1, true)) else (some (0, (⟨#[]⟩ : ByteArray), (⟨#[]⟩ : ByteArray), (⟨#[]⟩ : ByteArray), 0, false))) else (some (0, (⟨#[]⟩ : ByteArray), (⟨#[]⟩ : ByteArray), (⟨#[]⟩ : ByteArray), 0, false))))) = some (r1, r2, r3, r4, r5, r6) := by rw [if_pos rfl] at H; exact H
       clear H
       have H := H1
       clear H1
       replace H := Option.bind_eq_some_iff.mp H
       obtain ⟨⟨t294, t295⟩, A560, H⟩ := H
       replace H : ((waybillref7_Key.f kj48 (wrap64 (t286)) x289001_3 x289002_3 x289003_3 t294).bind fun bt296 => (if bt296.2 = true then (if bt296.1.toList = a0.toList then (some ((wrap64 (t286)), x289001_3, x289002_3, x289003_3, t294, true)) else (some (0, (⟨#[]⟩ : ByteArray), (⟨#[]⟩ : ByteArray), (⟨#[]⟩ : ByteArray), 0, false))) else (some (0, (⟨#[]⟩ : ByteArray), (⟨#[]⟩ : ByteArray), (⟨#[]⟩ : ByteArray), 0, false)))) = some (r1, r2, r3, r4, r5, r6) := H
       have A56 := Aside0.mk A560
       clear A560
       replace H := Option.bind_eq_some_iff.mp H
       obtain ⟨⟨t296, t297⟩, A570, H⟩ := H
       replace H : (if t297 = true then (if t296.toList = a0.toList then (some ((wrap64 (t286)), x289001_3, x289002_3, x289003_3, t294, true)) else (some (0, (⟨#[]⟩ : ByteArray), (⟨#[]⟩ : ByteArray), (⟨#[]⟩ : ByteArray), 0, false))) else (some (0, (⟨#[]⟩ : ByteArray), (⟨#[]⟩ : ByteArray), (⟨#[]⟩ : ByteArray), 0, false))) = some (r1, r2, r3, r4, r5, r6) := H
       have A57 := Aside0.mk A570
       clear A570
       by_cases c58 : t297 = true
       ·
        subst c58
        have H1 : (if t296.toList = a0.toList then (some ((wrap64 (t286)), x289001_3, x289002_3, x289003_3, t294, true)) else (some (0, (⟨#[]⟩ : ByteArray), (⟨#[]⟩ : ByteArray), (⟨#[]⟩ : ByteArray), 0, false))) = some (r1, r2, r3, r4, r5, r6) := by rw [if_pos rfl] at H; exact H
        clear H
        have H := H1
        clear H1
        by_cases c59 : t296.toList = a0.toList
        ·
         rw [if_pos c59] at H
         have c59b0 : (t296.toList == a0.toList) = true := beq_iff_eq.mpr c59
         have c59b1 : (t296.toList != a0.toList) = false := bne_eq_false_iff_eq.mpr c59
         clear c59
         simp only [Option.some.injEq, Prod.mk.injEq] at H
         obtain ⟨rfl, rfl, rfl, rfl, rfl, rfl⟩ := H
         go_wp2_with (first | ((with_reducible refine gate_callee (f := 18) rfl ?_); refine goesL_ (some 81) rfl rfl Try.func18 (by kernel_rfl) rfl #[.slice Ao8 y283.length co8, .int .i64 x8_3, .int .i64 8] rfl (by (try simp only [List.map_toArray, List.map_cons, List.map_nil]); first | done | rfl | (simp only [List.length_drop, List.length_take]; rfl)) ?_; (with_reducible refine (waybillref1_Num.calls kj48 _ _ y283 x8_3 8 t294 t295 _ ?side1 ?side2 A56.out).mono ?_); (case side1 => repeat (first | exact (Kd.V_reads' HO_4.out).2.2 | (with_reducible refine Kd.C_alloc ?_ _) | (with_reducible refine Kd.C_drewN ?_ _) | (with_reducible refine Kd.C_drew ?_))); (case side2 => exact (Kd.V_reads' HO_4.out).2.1); rintro e w' ⟨rfl, ⟨nd, rfl⟩⟩; refine ⟨_, rfl, ?_⟩; (try (rw [drewN_self wc]; generalize hq_ : World.drewN wc _ = wc; have n0_ : Aside0 (Kd.V (Kd.int .u8) 5 wc w.heap.size (fun k_ => k_ ≠ gb282 ∧ k_ ≠ gb288) (.slice Ao8 y283.length co8) y283) := ⟨by rw [← hq_]; exact (by exact HO_4.out)⟩; have n1_ : Aside0 (wc.heap[gb282]? = some (.cells #[.int .i64 x283000_3, .string x283001_3, .string x283002_3, .string x283003_3, .int .u64 x283004_3] 74 (0, 0))) := ⟨by rw [← hq_]; exact (by exact BK282.out)⟩; have n2_ : Aside0 (wc.heap[gb288]? = some (.cells #[.int .i64 (wrap64 (t286)), .string x289001_3, .string x289002_3, .string x289003_3, .int .u64 0] 74 (0, 0))) := ⟨by rw [← hq_]; exact (by exact BK288.out)⟩; have n3_ : Aside0 (Below w.heap.size w wc) := ⟨by rw [← hq_]; exact (by repeat (with_reducible first | exact HB.out | apply below_alloc | apply pw_below_drewN | apply below_drew1 | refine below_set ?_ GE282.out | refine below_set ?_ GE288.out))⟩; clear HO_4 BK282 BK288 HB hq_; have HO_4 := n0_; have BK282 := n1_; have BK288 := n2_; have HB := n3_; clear n0_ n1_ n2_ n3_)); have hnb60 := NB288_282.out; have hnc60 := NB282_288.out; have hcz61_0 : wc.cell? ⟨gb288, 0, none⟩ = some (.int .i64 (wrap64 (t286))) := (blk_cell BK288.out 0).trans rfl; have hcz61_1 : wc.cell? ⟨gb288, 1, none⟩ = some (.string x289001_3) := (blk_cell BK288.out 1).trans rfl; have hcz61_2 : wc.cell? ⟨gb288, 2, none⟩ = some (.string x289002_3) := (blk_cell BK288.out 2).trans rfl; have hcz61_3 : wc.cell? ⟨gb288, 3, none⟩ = some (.string x289003_3) := (blk_cell BK288.out 3).trans rfl; have hcz61_4 : wc.cell? ⟨gb288, 4, none⟩ = some (.int .u64 0) := (blk_cell BK288.out 4).trans rfl; have hfz61_0 := blk_frozen BK288.out 0; have hfz61_1 := blk_frozen BK288.out 1; have hfz61_2 := blk_frozen BK288.out 2; have hfz61_3 := blk_frozen BK288.out 3; have hfz61_4 := blk_frozen BK288.out 4) | ((with_reducible refine gate_callee (f := 40) rfl ?_); refine goesL_ (some 87) rfl rfl Try.func40 (by kernel_rfl) rfl #[.agg #[.int .i64 (wrap64 (t286)), .string x289001_3, .string x289002_3, .string x289003_3, .int .u64 t294]] rfl (by (try simp only [List.map_toArray, List.map_cons, List.map_nil]); first | done | rfl | (simp only [List.length_drop, List.length_take]; rfl)) ?_; (with_reducible refine (waybillref7_Key.calls kj48 (wrap64 (t286)) x289001_3 x289002_3 x289003_3 t294 t296 true _ A57.out).mono ?_); rintro e w62 ⟨rfl, hb⟩; refine ⟨_, rfl, ?_⟩; have n0_ := Aside0.mk (Kd.V_below (by exact (Kd.V_mono (Kd.V_far (p := ⟨gb288, 4, none⟩) (Kd.V_mono HO_4.out (fun k_ hk => (⟨hk, hk.2⟩ : _ ∧ k_ ≠ gb288))) (fun _ hk => hk.2) (.int .u64 t294)) (fun _ h_ => h_.1))) hb); have n1_ := Aside0.mk (blk_below (g := gb282) (o := .cells #[.int .i64 x283000_3, .string x283001_3, .string x283002_3, .string x283003_3, .int .u64 x283004_3] 74 (0, 0)) (by refine blk_far ?_ NB282_288.out _; exact BK282.out) hb); have n2_ := Aside0.mk (blk_below (g := gb288) (o := .cells #[.int .i64 (wrap64 (t286)), .string x289001_3, .string x289002_3, .string x289003_3, .int .u64 t294] 74 (0, 0)) (by refine blk_put (cs := #[.int .i64 (wrap64 (t286)), .string x289001_3, .string x289002_3, .string x289003_3, .int .u64 0]) ?_ 4 _ rfl; exact BK288.out) hb); have n3_ := Aside0.mk (below_step (by repeat (with_reducible first | exact HB.out | apply below_alloc | apply pw_below_drewN | apply below_drew1 | refine below_set ?_ GE282.out | refine below_set ?_ GE288.out)) hb); clear HO_4; clear BK282; clear BK288; clear HB; have HO_4 := n0_; have BK282 := n1_; have BK288 := n2_; have HB := n3_; clear n0_ n1_ n2_ n3_; (try clear hb); (try clear hb2); (try clear hk); (try clear hi); (try clear hge); have hcz63_0 : w62.cell? ⟨gb288, 0, none⟩ = some (.int .i64 (wrap64 (t286))) := (blk_cell BK288.out 0).trans rfl; have hcz63_1 : w62.cell? ⟨gb288, 1, none⟩ = some (.string x289001_3) := (blk_cell BK288.out 1).trans rfl; have hcz63_2 : w62.cell? ⟨gb288, 2, none⟩ = some (.string x289002_3) := (blk_cell BK288.out 2).trans rfl; have hcz63_3 : w62.cell? ⟨gb288, 3, none⟩ = some (.string x289003_3) := (blk_cell BK288.out 3).trans rfl; have hcz63_4 : w62.cell? ⟨gb288, 4, none⟩ = some (.int .u64 t294) := (blk_cell BK288.out 4).trans rfl; have hfz63_0 := blk_frozen BK288.out 0; have hfz63_1 := blk_frozen BK288.out 1; have hfz63_2 := blk_frozen BK288.out 2; have hfz63_3 := blk_frozen BK288.out 3; have hfz63_4 := blk_frozen BK288.out 4; have hcz64_0 : w62.cell? ⟨gb282, 0, none⟩ = some (.int .i64 x283000_3) := (blk_cell BK282.out 0).trans rfl; have hcz64_1 : w62.cell? ⟨gb282, 1, none⟩ = some (.string x283001_3) := (blk_cell BK282.out 1).trans rfl; have hcz64_2 : w62.cell? ⟨gb282, 2, none⟩ = some (.string x283002_3) := (blk_cell BK282.out 2).trans rfl; have hcz64_3 : w62.cell? ⟨gb282, 3, none⟩ = some (.string x283003_3) := (blk_cell BK282.out 3).trans rfl; have hcz64_4 : w62.cell? ⟨gb282, 4, none⟩ = some (.int .u64 x283004_3) := (blk_cell BK282.out 4).trans rfl; have hfz64_0 := blk_frozen BK282.out 0; have hfz64_1 := blk_frozen BK282.out 1; have hfz64_2 := blk_frozen BK282.out 2; have hfz64_3 := blk_frozen BK282.out 3; have hfz64_4 := blk_frozen BK282.out 4))
         refine bodyPost_ret (results_ct rfl _ _ gb282 74 #[.int .i64 (wrap64 (t286)), .string x289001_3, .string x289002_3, .string x289003_3, .int .u64 t294] (0, 0) _ rfl (by refine blk_put (cs := #[.int .i64 (wrap64 (t286)), .string x289001_3, .string x289002_3, .string x289003_3, .int .u64 x283004_3]) ?_ 4 _ rfl; refine blk_put (cs := #[.int .i64 (wrap64 (t286)), .string x289001_3, .string x289002_3, .string x283003_3, .int .u64 x283004_3]) ?_ 3 _ rfl; refine blk_put (cs := #[.int .i64 (wrap64 (t286)), .string x289001_3, .string x283002_3, .string x283003_3, .int .u64 x283004_3]) ?_ 2 _ rfl; refine blk_put (cs := #[.int .i64 (wrap64 (t286)), .string x283001_3, .string x283002_3, .string x283003_3, .int .u64 x283004_3]) ?_ 1 _ rfl; refine blk_put (cs := #[.int .i64 x283000_3, .string x283001_3, .string x283002_3, .string x283003_3, .int .u64 x283004_3]) ?_ 0 _ rfl; exact BK282.out) Try.underlying74 rfl (by kernel_rfl)) rfl ?_
         exact ⟨by first | rfl | (simp [errW_none, errW_some]; done) | (simp [errW_none, errW_some]; rfl) | (simp [*, errW_none, errW_some]; done) | (simp [*, errW_none, errW_some]; rfl), by repeat (with_reducible first | exact HB.out | apply below_alloc | apply pw_below_drewN | apply below_drew1 | refine below_set ?_ GE282.out | refine below_set ?_ GE288.out)⟩
        ·
         rw [if_neg c59] at H
         have c59b0 : (t296.toList == a0.toList) = false := beq_eq_false_iff_ne.mpr c59
         have c59b1 : (t296.toList != a0.toList) = true := bne_iff_ne.mpr c59
         simp only [Option.some.injEq, Prod.mk.injEq] at H
         obtain ⟨rfl, rfl, rfl, rfl, rfl, rfl⟩ := H
         go_wp2_with (first | ((with_reducible refine gate_callee (f := 18) rfl ?_); refine goesL_ (some 81) rfl rfl Try.func18 (by kernel_rfl) rfl #[.slice Ao8 y283.length co8, .int .i64 x8_3, .int .i64 8] rfl (by (try simp only [List.map_toArray, List.map_cons, List.map_nil]); first | done | rfl | (simp only [List.length_drop, List.length_take]; rfl)) ?_; (with_reducible refine (waybillref1_Num.calls kj48 _ _ y283 x8_3 8 t294 t295 _ ?side1 ?side2 A56.out).mono ?_); (case side1 => repeat (first | exact (Kd.V_reads' HO_4.out).2.2 | (with_reducible refine Kd.C_alloc ?_ _) | (with_reducible refine Kd.C_drewN ?_ _) | (with_reducible refine Kd.C_drew ?_))); (case side2 => exact (Kd.V_reads' HO_4.out).2.1); rintro e w' ⟨rfl, ⟨nd, rfl⟩⟩; refine ⟨_, rfl, ?_⟩; (try (rw [drewN_self wc]; generalize hq_ : World.drewN wc _ = wc; have n0_ : Aside0 (Kd.V (Kd.int .u8) 5 wc w.heap.size (fun k_ => k_ ≠ gb282 ∧ k_ ≠ gb288) (.slice Ao8 y283.length co8) y283) := ⟨by rw [← hq_]; exact (by exact HO_4.out)⟩; have n1_ : Aside0 (wc.heap[gb282]? = some (.cells #[.int .i64 x283000_3, .string x283001_3, .string x283002_3, .string x283003_3, .int .u64 x283004_3] 74 (0, 0))) := ⟨by rw [← hq_]; exact (by exact BK282.out)⟩; have n2_ : Aside0 (wc.heap[gb288]? = some (.cells #[.int .i64 (wrap64 (t286)), .string x289001_3, .string x289002_3, .string x289003_3, .int .u64 0] 74 (0, 0))) := ⟨by rw [← hq_]; exact (by exact BK288.out)⟩; have n3_ : Aside0 (Below w.heap.size w wc) := ⟨by rw [← hq_]; exact (by repeat (with_reducible first | exact HB.out | apply below_alloc | apply pw_below_drewN | apply below_drew1 | refine below_set ?_ GE282.out | refine below_set ?_ GE288.out))⟩; clear HO_4 BK282 BK288 HB hq_; have HO_4 := n0_; have BK282 := n1_; have BK288 := n2_; have HB := n3_; clear n0_ n1_ n2_ n3_)); have hnb65 := NB288_282.out; have hnc65 := NB282_288.out; have hcz66_0 : wc.cell? ⟨gb288, 0, none⟩ = some (.int .i64 (wrap64 (t286))) := (blk_cell BK288.out 0).trans rfl; have hcz66_1 : wc.cell? ⟨gb288, 1, none⟩ = some (.string x289001_3) := (blk_cell BK288.out 1).trans rfl; have hcz66_2 : wc.cell? ⟨gb288, 2, none⟩ = some (.string x289002_3) := (blk_cell BK288.out 2).trans rfl; have hcz66_3 : wc.cell? ⟨gb288, 3, none⟩ = some (.string x289003_3) := (blk_cell BK288.out 3).trans rfl; have hcz66_4 : wc.cell? ⟨gb288, 4, none⟩ = some (.int .u64 0) := (blk_cell BK288.out 4).trans rfl; have hfz66_0 := blk_frozen BK288.out 0; have hfz66_1 := blk_frozen BK288.out 1; have hfz66_2 := blk_frozen BK288.out 2; have hfz66_3 := blk_frozen BK288.out 3; have hfz66_4 := blk_frozen BK288.out 4) | ((with_reducible refine gate_callee (f := 40) rfl ?_); refine goesL_ (some 87) rfl rfl Try.func40 (by kernel_rfl) rfl #[.agg #[.int .i64 (wrap64 (t286)), .string x289001_3, .string x289002_3, .string x289003_3, .int .u64 t294]] rfl (by (try simp only [List.map_toArray, List.map_cons, List.map_nil]); first | done | rfl | (simp only [List.length_drop, List.length_take]; rfl)) ?_; (with_reducible refine (waybillref7_Key.calls kj48 (wrap64 (t286)) x289001_3 x289002_3 x289003_3 t294 t296 true _ A57.out).mono ?_); rintro e w67 ⟨rfl, hb⟩; refine ⟨_, rfl, ?_⟩; have n0_ := Aside0.mk (Kd.V_below (by exact (Kd.V_mono (Kd.V_far (p := ⟨gb288, 4, none⟩) (Kd.V_mono HO_4.out (fun k_ hk => (⟨hk, hk.2⟩ : _ ∧ k_ ≠ gb288))) (fun _ hk => hk.2) (.int .u64 t294)) (fun _ h_ => h_.1))) hb); have n1_ := Aside0.mk (blk_below (g := gb282) (o := .cells #[.int .i64 x283000_3, .string x283001_3, .string x283002_3, .string x283003_3, .int .u64 x283004_3] 74 (0, 0)) (by refine blk_far ?_ NB282_288.out _; exact BK282.out) hb); have n2_ := Aside0.mk (blk_below (g := gb288) (o := .cells #[.int .i64 (wrap64 (t286)), .string x289001_3, .string x289002_3, .string x289003_3, .int .u64 t294] 74 (0, 0)) (by refine blk_put (cs := #[.int .i64 (wrap64 (t286)), .string x289001_3, .string x289002_3, .string x289003_3, .int .u64 0]) ?_ 4 _ rfl; exact BK288.out) hb); have n3_ := Aside0.mk (below_step (by repeat (with_reducible first | exact HB.out | apply below_alloc | apply pw_below_drewN | apply below_drew1 | refine below_set ?_ GE282.out | refine below_set ?_ GE288.out)) hb); clear HO_4; clear BK282; clear BK288; clear HB; have HO_4 := n0_; have BK282 := n1_; have BK288 := n2_; have HB := n3_; clear n0_ n1_ n2_ n3_; (try clear hb); (try clear hb2); (try clear hk); (try clear hi); (try clear hge); have hcz68_0 : w67.cell? ⟨gb282, 0, none⟩ = some (.int .i64 x283000_3) := (blk_cell BK282.out 0).trans rfl; have hcz68_1 : w67.cell? ⟨gb282, 1, none⟩ = some (.string x283001_3) := (blk_cell BK282.out 1).trans rfl; have hcz68_2 : w67.cell? ⟨gb282, 2, none⟩ = some (.string x283002_3) := (blk_cell BK282.out 2).trans rfl; have hcz68_3 : w67.cell? ⟨gb282, 3, none⟩ = some (.string x283003_3) := (blk_cell BK282.out 3).trans rfl; have hcz68_4 : w67.cell? ⟨gb282, 4, none⟩ = some (.int .u64 x283004_3) := (blk_cell BK282.out 4).trans rfl; have hfz68_0 := blk_frozen BK282.out 0; have hfz68_1 := blk_frozen BK282.out 1; have hfz68_2 := blk_frozen BK282.out 2; have hfz68_3 := blk_frozen BK282.out 3; have hfz68_4 := blk_frozen BK282.out 4))
         refine bodyPost_ret (results_ct rfl _ _ gb282 74 #[.int .i64 0, .string (⟨#[]⟩ : ByteArray), .string (⟨#[]⟩ : ByteArray), .string (⟨#[]⟩ : ByteArray), .int .u64 0] (0, 0) _ rfl (by refine blk_put (cs := #[.int .i64 0, .string (⟨#[]⟩ : ByteArray), .string (⟨#[]⟩ : ByteArray), .string (⟨#[]⟩ : ByteArray), .int .u64 x283004_3]) ?_ 4 _ rfl; refine blk_put (cs := #[.int .i64 0, .string (⟨#[]⟩ : ByteArray), .string (⟨#[]⟩ : ByteArray), .string x283003_3, .int .u64 x283004_3]) ?_ 3 _ rfl; refine blk_put (cs := #[.int .i64 0, .string (⟨#[]⟩ : ByteArray), .string x283002_3, .string x283003_3, .int .u64 x283004_3]) ?_ 2 _ rfl; refine blk_put (cs := #[.int .i64 0, .string x283001_3, .string x283002_3, .string x283003_3, .int .u64 x283004_3]) ?_ 1 _ rfl; refine blk_put (cs := #[.int .i64 x283000_3, .string x283001_3, .string x283002_3, .string x283003_3, .int .u64 x283004_3]) ?_ 0 _ rfl; exact BK282.out) Try.underlying74 rfl (by kernel_rfl)) rfl ?_
         exact ⟨by first | rfl | (simp [errW_none, errW_some]; done) | (simp [errW_none, errW_some]; rfl) | (simp [*, errW_none, errW_some]; done) | (simp [*, errW_none, errW_some]; rfl), by repeat (with_reducible first | exact HB.out | apply below_alloc | apply pw_below_drewN | apply below_drew1 | refine below_set ?_ GE282.out | refine below_set ?_ GE288.out)⟩
       ·
        replace c58 := Bool.eq_false_iff.mpr c58
        subst c58
        have H1 : (some (0, (⟨#[]⟩ : ByteArray), (⟨#[]⟩ : ByteArray), (⟨#[]⟩ : ByteArray), 0, false)) = some (r1, r2, r3, r4, r5, r6) := by rw [if_neg (show ¬ (false = true) by decide)] at H; exact H
        clear H
        have H := H1
        clear H1
        simp only [Option.some.injEq, Prod.mk.injEq] at H
        obtain ⟨rfl, rfl, rfl, rfl, rfl, rfl⟩ := H
        go_wp2_with (first | ((with_reducible refine gate_callee (f := 18) rfl ?_); refine goesL_ (some 81) rfl rfl Try.func18 (by kernel_rfl) rfl #[.slice Ao8 y283.length co8, .int .i64 x8_3, .int .i64 8] rfl (by (try simp only [List.map_toArray, List.map_cons, List.map_nil]); first | done | rfl | (simp only [List.length_drop, List.length_take]; rfl)) ?_; (with_reducible refine (waybillref1_Num.calls kj48 _ _ y283 x8_3 8 t294 t295 _ ?side1 ?side2 A56.out).mono ?_); (case side1 => repeat (first | exact (Kd.V_reads' HO_4.out).2.2 | (with_reducible refine Kd.C_alloc ?_ _) | (with_reducible refine Kd.C_drewN ?_ _) | (with_reducible refine Kd.C_drew ?_))); (case side2 => exact (Kd.V_reads' HO_4.out).2.1); rintro e w' ⟨rfl, ⟨nd, rfl⟩⟩; refine ⟨_, rfl, ?_⟩; (try (rw [drewN_self wc]; generalize hq_ : World.drewN wc _ = wc; have n0_ : Aside0 (Kd.V (Kd.int .u8) 5 wc w.heap.size (fun k_ => k_ ≠ gb282 ∧ k_ ≠ gb288) (.slice Ao8 y283.length co8) y283) := ⟨by rw [← hq_]; exact (by exact HO_4.out)⟩; have n1_ : Aside0 (wc.heap[gb282]? = some (.cells #[.int .i64 x283000_3, .string x283001_3, .string x283002_3, .string x283003_3, .int .u64 x283004_3] 74 (0, 0))) := ⟨by rw [← hq_]; exact (by exact BK282.out)⟩; have n2_ : Aside0 (wc.heap[gb288]? = some (.cells #[.int .i64 (wrap64 (t286)), .string x289001_3, .string x289002_3, .string x289003_3, .int .u64 0] 74 (0, 0))) := ⟨by rw [← hq_]; exact (by exact BK288.out)⟩; have n3_ : Aside0 (Below w.heap.size w wc) := ⟨by rw [← hq_]; exact (by repeat (with_reducible first | exact HB.out | apply below_alloc | apply pw_below_drewN | apply below_drew1 | refine below_set ?_ GE282.out | refine below_set ?_ GE288.out))⟩; clear HO_4 BK282 BK288 HB hq_; have HO_4 := n0_; have BK282 := n1_; have BK288 := n2_; have HB := n3_; clear n0_ n1_ n2_ n3_)); have hnb69 := NB288_282.out; have hnc69 := NB282_288.out; have hcz70_0 : wc.cell? ⟨gb288, 0, none⟩ = some (.int .i64 (wrap64 (t286))) := (blk_cell BK288.out 0).trans rfl; have hcz70_1 : wc.cell? ⟨gb288, 1, none⟩ = some (.string x289001_3) := (blk_cell BK288.out 1).trans rfl; have hcz70_2 : wc.cell? ⟨gb288, 2, none⟩ = some (.string x289002_3) := (blk_cell BK288.out 2).trans rfl; have hcz70_3 : wc.cell? ⟨gb288, 3, none⟩ = some (.string x289003_3) := (blk_cell BK288.out 3).trans rfl; have hcz70_4 : wc.cell? ⟨gb288, 4, none⟩ = some (.int .u64 0) := (blk_cell BK288.out 4).trans rfl; have hfz70_0 := blk_frozen BK288.out 0; have hfz70_1 := blk_frozen BK288.out 1; have hfz70_2 := blk_frozen BK288.out 2; have hfz70_3 := blk_frozen BK288.out 3; have hfz70_4 := blk_frozen BK288.out 4) | ((with_reducible refine gate_callee (f := 40) rfl ?_); refine goesL_ (some 87) rfl rfl Try.func40 (by kernel_rfl) rfl #[.agg #[.int .i64 (wrap64 (t286)), .string x289001_3, .string x289002_3, .string x289003_3, .int .u64 t294]] rfl (by (try simp only [List.map_toArray, List.map_cons, List.map_nil]); first | done | rfl | (simp only [List.length_drop, List.length_take]; rfl)) ?_; (with_reducible refine (waybillref7_Key.calls kj48 (wrap64 (t286)) x289001_3 x289002_3 x289003_3 t294 t296 false _ A57.out).mono ?_); rintro e w71 ⟨rfl, hb⟩; refine ⟨_, rfl, ?_⟩; have n0_ := Aside0.mk (Kd.V_below (by exact (Kd.V_mono (Kd.V_far (p := ⟨gb288, 4, none⟩) (Kd.V_mono HO_4.out (fun k_ hk => (⟨hk, hk.2⟩ : _ ∧ k_ ≠ gb288))) (fun _ hk => hk.2) (.int .u64 t294)) (fun _ h_ => h_.1))) hb); have n1_ := Aside0.mk (blk_below (g := gb282) (o := .cells #[.int .i64 x283000_3, .string x283001_3, .string x283002_3, .string x283003_3, .int .u64 x283004_3] 74 (0, 0)) (by refine blk_far ?_ NB282_288.out _; exact BK282.out) hb); have n2_ := Aside0.mk (blk_below (g := gb288) (o := .cells #[.int .i64 (wrap64 (t286)), .string x289001_3, .string x289002_3, .string x289003_3, .int .u64 t294] 74 (0, 0)) (by refine blk_put (cs := #[.int .i64 (wrap64 (t286)), .string x289001_3, .string x289002_3, .string x289003_3, .int .u64 0]) ?_ 4 _ rfl; exact BK288.out) hb); have n3_ := Aside0.mk (below_step (by repeat (with_reducible first | exact HB.out | apply below_alloc | apply pw_below_drewN | apply below_drew1 | refine below_set ?_ GE282.out | refine below_set ?_ GE288.out)) hb); clear HO_4; clear BK282; clear BK288; clear HB; have HO_4 := n0_; have BK282 := n1_; have BK288 := n2_; have HB := n3_; clear n0_ n1_ n2_ n3_; (try clear hb); (try clear hb2); (try clear hk); (try clear hi); (try clear hge); have hcz72_0 : w71.cell? ⟨gb282, 0, none⟩ = some (.int .i64 x283000_3) := (blk_cell BK282.out 0).trans rfl; have hcz72_1 : w71.cell? ⟨gb282, 1, none⟩ = some (.string x283001_3) := (blk_cell BK282.out 1).trans rfl; have hcz72_2 : w71.cell? ⟨gb282, 2, none⟩ = some (.string x283002_3) := (blk_cell BK282.out 2).trans rfl; have hcz72_3 : w71.cell? ⟨gb282, 3, none⟩ = some (.string x283003_3) := (blk_cell BK282.out 3).trans rfl; have hcz72_4 : w71.cell? ⟨gb282, 4, none⟩ = some (.int .u64 x283004_3) := (blk_cell BK282.out 4).trans rfl; have hfz72_0 := blk_frozen BK282.out 0; have hfz72_1 := blk_frozen BK282.out 1; have hfz72_2 := blk_frozen BK282.out 2; have hfz72_3 := blk_frozen BK282.out 3; have hfz72_4 := blk_frozen BK282.out 4))
        refine bodyPost_ret (results_ct rfl _ _ gb282 74 #[.int .i64 0, .string (⟨#[]⟩ : ByteArray), .string (⟨#[]⟩ : ByteArray), .string (⟨#[]⟩ : ByteArray), .int .u64 0] (0, 0) _ rfl (by refine blk_put (cs := #[.int .i64 0, .string (⟨#[]⟩ : ByteArray), .string (⟨#[]⟩ : ByteArray), .string (⟨#[]⟩ : ByteArray), .int .u64 x283004_3]) ?_ 4 _ rfl; refine blk_put (cs := #[.int .i64 0, .string (⟨#[]⟩ : ByteArray), .string (⟨#[]⟩ : ByteArray), .string x283003_3, .int .u64 x283004_3]) ?_ 3 _ rfl; refine blk_put (cs := #[.int .i64 0, .string (⟨#[]⟩ : ByteArray), .string x283002_3, .string x283003_3, .int .u64 x283004_3]) ?_ 2 _ rfl; refine blk_put (cs := #[.int .i64 0, .string x283001_3, .string x283002_3, .string x283003_3, .int .u64 x283004_3]) ?_ 1 _ rfl; refine blk_put (cs := #[.int .i64 x283000_3, .string x283001_3, .string x283002_3, .string x283003_3, .int .u64 x283004_3]) ?_ 0 _ rfl; exact BK282.out) Try.underlying74 rfl (by kernel_rfl)) rfl ?_
        exact ⟨by first | rfl | (simp [errW_none, errW_some]; done) | (simp [errW_none, errW_some]; rfl) | (simp [*, errW_none, errW_some]; done) | (simp [*, errW_none, errW_some]; rfl), by repeat (with_reducible first | exact HB.out | apply below_alloc | apply pw_below_drewN | apply below_drew1 | refine below_set ?_ GE282.out | refine below_set ?_ GE288.out)⟩
      ·
       replace c55 := Bool.eq_false_iff.mpr c55
       subst c55
       have H1 : ((waybillref7_Key.f kj48 (wrap64 (t286)) x289001_3 x289002_3 x289003_3 0).bind fun bt298 => (if bt298.2 = true then (if bt298.1.toList = a0.toList then (some ((wrap64 (t286)), x289001_3, x289002_3, x289003_3, 0, true)) else (some (0, (⟨#[]⟩ : ByteArray), (⟨#[]⟩ : ByteArray), (⟨#[]⟩ : ByteArray), 0, false))) else (some (0, (⟨#[]⟩ : ByteArray), (⟨#[]⟩ : ByteArray), (⟨#[]⟩ : ByteArray), 0, false)))) = some (r1, r2, r3, r4, r5, r6) := by rw [if_neg (show ¬ (false = true) by decide)] at H; exact H
       clear H
       have H := H1
       clear H1
       replace H := Option.bind_eq_some_iff.mp H
       obtain ⟨⟨t298, t299⟩, A730, H⟩ := H
       replace H : (if t299 = true then (if t298.toList = a0.toList then (some ((wrap64 (t286)), x289001_3, x289002_3, x289003_3, 0, true)) else (some (0, (⟨#[]⟩ : ByteArray), (⟨#[]⟩ : ByteArray), (⟨#[]⟩ : ByteArray), 0, false))) else (some (0, (⟨#[]⟩ : ByteArray), (⟨#[]⟩ : ByteArray), (⟨#[]⟩ : ByteArray), 0, false))) = some (r1, r2, r3, r4, r5, r6) := H
       have A73 := Aside0.mk A730
       clear A730
       by_cases c74 : t299 = true
       ·
        subst c74
        have H1 : (if t298.toList = a0.toList then (some ((wrap64 (t286)), x289001_3, x289002_3, x289003_3, 0, true)) else (some (0, (⟨#[]⟩ : ByteArray), (⟨#[]⟩ : ByteArray), (⟨#[]⟩ : ByteArray), 0, false))) = some (r1, r2, r3, r4, r5, r6) := by rw [if_pos rfl] at H; exact H
        clear H
        have H := H1
        clear H1
        by_cases c75 : t298.toList = a0.toList
        ·
         rw [if_pos c75] at H
         have c75b0 : (t298.toList == a0.toList) = true := beq_iff_eq.mpr c75
         have c75b1 : (t298.toList != a0.toList) = false := bne_eq_false_iff_eq.mpr c75
         clear c75
         simp only [Option.some.injEq, Prod.mk.injEq] at H
         obtain ⟨rfl, rfl, rfl, rfl, rfl, rfl⟩ := H
         have hnb76 := NB288_282.out
         have hnc76 := NB282_288.out
         have hcz77_0 : wc.cell? ⟨gb288, 0, none⟩ = some (.int .i64 (wrap64 (t286))) := (blk_cell BK288.out 0).trans rfl
         have hcz77_1 : wc.cell? ⟨gb288, 1, none⟩ = some (.string x289001_3) := (blk_cell BK288.out 1).trans rfl
         have hcz77_2 : wc.cell? ⟨gb288, 2, none⟩ = some (.string x289002_3) := (blk_cell BK288.out 2).trans rfl
         have hcz77_3 : wc.cell? ⟨gb288, 3, none⟩ = some (.string x289003_3) := (blk_cell BK288.out 3).trans rfl
         have hcz77_4 : wc.cell? ⟨gb288, 4, none⟩ = some (.int .u64 0) := (blk_cell BK288.out 4).trans rfl
         have hfz77_0 := blk_frozen BK288.out 0
         have hfz77_1 := blk_frozen BK288.out 1
         have hfz77_2 := blk_frozen BK288.out 2
         have hfz77_3 := blk_frozen BK288.out 3
         have hfz77_4 := blk_frozen BK288.out 4
         go_wp2_with (first | ((with_reducible refine gate_callee (f := 40) rfl ?_); refine goesL_ (some 87) rfl rfl Try.func40 (by kernel_rfl) rfl #[.agg #[.int .i64 (wrap64 (t286)), .string x289001_3, .string x289002_3, .string x289003_3, .int .u64 0]] rfl (by (try simp only [List.map_toArray, List.map_cons, List.map_nil]); first | done | rfl | (simp only [List.length_drop, List.length_take]; rfl)) ?_; (with_reducible refine (waybillref7_Key.calls kj48 (wrap64 (t286)) x289001_3 x289002_3 x289003_3 0 t298 true _ A73.out).mono ?_); rintro e w78 ⟨rfl, hb⟩; refine ⟨_, rfl, ?_⟩; have n0_ := Aside0.mk (Kd.V_below (by exact HO_4.out) hb); have n1_ := Aside0.mk (blk_below (g := gb282) (o := .cells #[.int .i64 x283000_3, .string x283001_3, .string x283002_3, .string x283003_3, .int .u64 x283004_3] 74 (0, 0)) (by exact BK282.out) hb); have n2_ := Aside0.mk (blk_below (g := gb288) (o := .cells #[.int .i64 (wrap64 (t286)), .string x289001_3, .string x289002_3, .string x289003_3, .int .u64 0] 74 (0, 0)) (by exact BK288.out) hb); have n3_ := Aside0.mk (below_step (by repeat (with_reducible first | exact HB.out | apply below_alloc | apply pw_below_drewN | apply below_drew1 | refine below_set ?_ GE282.out | refine below_set ?_ GE288.out)) hb); clear HO_4; clear BK282; clear BK288; clear HB; have HO_4 := n0_; have BK282 := n1_; have BK288 := n2_; have HB := n3_; clear n0_ n1_ n2_ n3_; (try clear hb); (try clear hb2); (try clear hk); (try clear hi); (try clear hge); have hcz79_0 : w78.cell? ⟨gb288, 0, none⟩ = some (.int .i64 (wrap64 (t286))) := (blk_cell BK288.out 0).trans rfl; have hcz79_1 : w78.cell? ⟨gb288, 1, none⟩ = some (.string x289001_3) := (blk_cell BK288.out 1).trans rfl; have hcz79_2 : w78.cell? ⟨gb288, 2, none⟩ = some (.string x289002_3) := (blk_cell BK288.out 2).trans rfl; have hcz79_3 : w78.cell? ⟨gb288, 3, none⟩ = some (.string x289003_3) := (blk_cell BK288.out 3).trans rfl; have hcz79_4 : w78.cell? ⟨gb288, 4, none⟩ = some (.int .u64 0) := (blk_cell BK288.out 4).trans rfl; have hfz79_0 := blk_frozen BK288.out 0; have hfz79_1 := blk_frozen BK288.out 1; have hfz79_2 := blk_frozen BK288.out 2; have hfz79_3 := blk_frozen BK288.out 3; have hfz79_4 := blk_frozen BK288.out 4; have hcz80_0 : w78.cell? ⟨gb282, 0, none⟩ = some (.int .i64 x283000_3) := (blk_cell BK282.out 0).trans rfl; have hcz80_1 : w78.cell? ⟨gb282, 1, none⟩ = some (.string x283001_3) := (blk_cell BK282.out 1).trans rfl; have hcz80_2 : w78.cell? ⟨gb282, 2, none⟩ = some (.string x283002_3) := (blk_cell BK282.out 2).trans rfl; have hcz80_3 : w78.cell? ⟨gb282, 3, none⟩ = some (.string x283003_3) := (blk_cell BK282.out 3).trans rfl; have hcz80_4 : w78.cell? ⟨gb282, 4, none⟩ = some (.int .u64 x283004_3) := (blk_cell BK282.out 4).trans rfl; have hfz80_0 := blk_frozen BK282.out 0; have hfz80_1 := blk_frozen BK282.out 1; have hfz80_2 := blk_frozen BK282.out 2; have hfz80_3 := blk_frozen BK282.out 3; have hfz80_4 := blk_frozen BK282.out 4))
         refine bodyPost_ret (results_ct rfl _ _ gb282 74 #[.int .i64 (wrap64 (t286)), .string x289001_3, .string x289002_3, .string x289003_3, .int .u64 0] (0, 0) _ rfl (by refine blk_put (cs := #[.int .i64 (wrap64 (t286)), .string x289001_3, .string x289002_3, .string x289003_3, .int .u64 x283004_3]) ?_ 4 _ rfl; refine blk_put (cs := #[.int .i64 (wrap64 (t286)), .string x289001_3, .string x289002_3, .string x283003_3, .int .u64 x283004_3]) ?_ 3 _ rfl; refine blk_put (cs := #[.int .i64 (wrap64 (t286)), .string x289001_3, .string x283002_3, .string x283003_3, .int .u64 x283004_3]) ?_ 2 _ rfl; refine blk_put (cs := #[.int .i64 (wrap64 (t286)), .string x283001_3, .string x283002_3, .string x283003_3, .int .u64 x283004_3]) ?_ 1 _ rfl; refine blk_put (cs := #[.int .i64 x283000_3, .string x283001_3, .string x283002_3, .string x283003_3, .int .u64 x283004_3]) ?_ 0 _ rfl; exact BK282.out) Try.underlying74 rfl (by kernel_rfl)) rfl ?_
         exact ⟨by first | rfl | (simp [errW_none, errW_some]; done) | (simp [errW_none, errW_some]; rfl) | (simp [*, errW_none, errW_some]; done) | (simp [*, errW_none, errW_some]; rfl), by repeat (with_reducible first | exact HB.out | apply below_alloc | apply pw_below_drewN | apply below_drew1 | refine below_set ?_ GE282.out | refine below_set ?_ GE288.out)⟩
        ·
         rw [if_neg c75] at H
         have c75b0 : (t298.toList == a0.toList) = false := beq_eq_false_iff_ne.mpr c75
         have c75b1 : (t298.toList != a0.toList) = true := bne_iff_ne.mpr c75
         simp only [Option.some.injEq, Prod.mk.injEq] at H
         obtain ⟨rfl, rfl, rfl, rfl, rfl, rfl⟩ := H
         have hnb81 := NB288_282.out
         have hnc81 := NB282_288.out
         have hcz82_0 : wc.cell? ⟨gb288, 0, none⟩ = some (.int .i64 (wrap64 (t286))) := (blk_cell BK288.out 0).trans rfl
         have hcz82_1 : wc.cell? ⟨gb288, 1, none⟩ = some (.string x289001_3) := (blk_cell BK288.out 1).trans rfl
         have hcz82_2 : wc.cell? ⟨gb288, 2, none⟩ = some (.string x289002_3) := (blk_cell BK288.out 2).trans rfl
         have hcz82_3 : wc.cell? ⟨gb288, 3, none⟩ = some (.string x289003_3) := (blk_cell BK288.out 3).trans rfl
         have hcz82_4 : wc.cell? ⟨gb288, 4, none⟩ = some (.int .u64 0) := (blk_cell BK288.out 4).trans rfl
         have hfz82_0 := blk_frozen BK288.out 0
         have hfz82_1 := blk_frozen BK288.out 1
         have hfz82_2 := blk_frozen BK288.out 2
         have hfz82_3 := blk_frozen BK288.out 3
         have hfz82_4 := blk_frozen BK288.out 4
         go_wp2_with (first | ((with_reducible refine gate_callee (f := 40) rfl ?_); refine goesL_ (some 87) rfl rfl Try.func40 (by kernel_rfl) rfl #[.agg #[.int .i64 (wrap64 (t286)), .string x289001_3, .string x289002_3, .string x289003_3, .int .u64 0]] rfl (by (try simp only [List.map_toArray, List.map_cons, List.map_nil]); first | done | rfl | (simp only [List.length_drop, List.length_take]; rfl)) ?_; (with_reducible refine (waybillref7_Key.calls kj48 (wrap64 (t286)) x289001_3 x289002_3 x289003_3 0 t298 true _ A73.out).mono ?_); rintro e w83 ⟨rfl, hb⟩; refine ⟨_, rfl, ?_⟩; have n0_ := Aside0.mk (Kd.V_below (by exact HO_4.out) hb); have n1_ := Aside0.mk (blk_below (g := gb282) (o := .cells #[.int .i64 x283000_3, .string x283001_3, .string x283002_3, .string x283003_3, .int .u64 x283004_3] 74 (0, 0)) (by exact BK282.out) hb); have n2_ := Aside0.mk (blk_below (g := gb288) (o := .cells #[.int .i64 (wrap64 (t286)), .string x289001_3, .string x289002_3, .string x289003_3, .int .u64 0] 74 (0, 0)) (by exact BK288.out) hb); have n3_ := Aside0.mk (below_step (by repeat (with_reducible first | exact HB.out | apply below_alloc | apply pw_below_drewN | apply below_drew1 | refine below_set ?_ GE282.out | refine below_set ?_ GE288.out)) hb); clear HO_4; clear BK282; clear BK288; clear HB; have HO_4 := n0_; have BK282 := n1_; have BK288 := n2_; have HB := n3_; clear n0_ n1_ n2_ n3_; (try clear hb); (try clear hb2); (try clear hk); (try clear hi); (try clear hge); have hcz84_0 : w83.cell? ⟨gb282, 0, none⟩ = some (.int .i64 x283000_3) := (blk_cell BK282.out 0).trans rfl; have hcz84_1 : w83.cell? ⟨gb282, 1, none⟩ = some (.string x283001_3) := (blk_cell BK282.out 1).trans rfl; have hcz84_2 : w83.cell? ⟨gb282, 2, none⟩ = some (.string x283002_3) := (blk_cell BK282.out 2).trans rfl; have hcz84_3 : w83.cell? ⟨gb282, 3, none⟩ = some (.string x283003_3) := (blk_cell BK282.out 3).trans rfl; have hcz84_4 : w83.cell? ⟨gb282, 4, none⟩ = some (.int .u64 x283004_3) := (blk_cell BK282.out 4).trans rfl; have hfz84_0 := blk_frozen BK282.out 0; have hfz84_1 := blk_frozen BK282.out 1; have hfz84_2 := blk_frozen BK282.out 2; have hfz84_3 := blk_frozen BK282.out 3; have hfz84_4 := blk_frozen BK282.out 4))
         refine bodyPost_ret (results_ct rfl _ _ gb282 74 #[.int .i64 0, .string (⟨#[]⟩ : ByteArray), .string (⟨#[]⟩ : ByteArray), .string (⟨#[]⟩ : ByteArray), .int .u64 0] (0, 0) _ rfl (by refine blk_put (cs := #[.int .i64 0, .string (⟨#[]⟩ : ByteArray), .string (⟨#[]⟩ : ByteArray), .string (⟨#[]⟩ : ByteArray), .int .u64 x283004_3]) ?_ 4 _ rfl; refine blk_put (cs := #[.int .i64 0, .string (⟨#[]⟩ : ByteArray), .string (⟨#[]⟩ : ByteArray), .string x283003_3, .int .u64 x283004_3]) ?_ 3 _ rfl; refine blk_put (cs := #[.int .i64 0, .string (⟨#[]⟩ : ByteArray), .string x283002_3, .string x283003_3, .int .u64 x283004_3]) ?_ 2 _ rfl; refine blk_put (cs := #[.int .i64 0, .string x283001_3, .string x283002_3, .string x283003_3, .int .u64 x283004_3]) ?_ 1 _ rfl; refine blk_put (cs := #[.int .i64 x283000_3, .string x283001_3, .string x283002_3, .string x283003_3, .int .u64 x283004_3]) ?_ 0 _ rfl; exact BK282.out) Try.underlying74 rfl (by kernel_rfl)) rfl ?_
         exact ⟨by first | rfl | (simp [errW_none, errW_some]; done) | (simp [errW_none, errW_some]; rfl) | (simp [*, errW_none, errW_some]; done) | (simp [*, errW_none, errW_some]; rfl), by repeat (with_reducible first | exact HB.out | apply below_alloc | apply pw_below_drewN | apply below_drew1 | refine below_set ?_ GE282.out | refine below_set ?_ GE288.out)⟩
       ·
        replace c74 := Bool.eq_false_iff.mpr c74
        subst c74
        have H1 : (some (0, (⟨#[]⟩ : ByteArray), (⟨#[]⟩ : ByteArray), (⟨#[]⟩ : ByteArray), 0, false)) = some (r1, r2, r3, r4, r5, r6) := by rw [if_neg (show ¬ (false = true) by decide)] at H; exact H
        clear H
        have H := H1
        clear H1
        simp only [Option.some.injEq, Prod.mk.injEq] at H
        obtain ⟨rfl, rfl, rfl, rfl, rfl, rfl⟩ := H
        have hnb85 := NB288_282.out
        have hnc85 := NB282_288.out
        have hcz86_0 : wc.cell? ⟨gb288, 0, none⟩ = some (.int .i64 (wrap64 (t286))) := (blk_cell BK288.out 0).trans rfl
        have hcz86_1 : wc.cell? ⟨gb288, 1, none⟩ = some (.string x289001_3) := (blk_cell BK288.out 1).trans rfl
        have hcz86_2 : wc.cell? ⟨gb288, 2, none⟩ = some (.string x289002_3) := (blk_cell BK288.out 2).trans rfl
        have hcz86_3 : wc.cell? ⟨gb288, 3, none⟩ = some (.string x289003_3) := (blk_cell BK288.out 3).trans rfl
        have hcz86_4 : wc.cell? ⟨gb288, 4, none⟩ = some (.int .u64 0) := (blk_cell BK288.out 4).trans rfl
        have hfz86_0 := blk_frozen BK288.out 0
        have hfz86_1 := blk_frozen BK288.out 1
        have hfz86_2 := blk_frozen BK288.out 2
        have hfz86_3 := blk_frozen BK288.out 3
        have hfz86_4 := blk_frozen BK288.out 4
        go_wp2_with (first | ((with_reducible refine gate_callee (f := 40) rfl ?_); refine goesL_ (some 87) rfl rfl Try.func40 (by kernel_rfl) rfl #[.agg #[.int .i64 (wrap64 (t286)), .string x289001_3, .string x289002_3, .string x289003_3, .int .u64 0]] rfl (by (try simp only [List.map_toArray, List.map_cons, List.map_nil]); first | done | rfl | (simp only [List.length_drop, List.length_take]; rfl)) ?_; (with_reducible refine (waybillref7_Key.calls kj48 (wrap64 (t286)) x289001_3 x289002_3 x289003_3 0 t298 false _ A73.out).mono ?_); rintro e w87 ⟨rfl, hb⟩; refine ⟨_, rfl, ?_⟩; have n0_ := Aside0.mk (Kd.V_below (by exact HO_4.out) hb); have n1_ := Aside0.mk (blk_below (g := gb282) (o := .cells #[.int .i64 x283000_3, .string x283001_3, .string x283002_3, .string x283003_3, .int .u64 x283004_3] 74 (0, 0)) (by exact BK282.out) hb); have n2_ := Aside0.mk (blk_below (g := gb288) (o := .cells #[.int .i64 (wrap64 (t286)), .string x289001_3, .string x289002_3, .string x289003_3, .int .u64 0] 74 (0, 0)) (by exact BK288.out) hb); have n3_ := Aside0.mk (below_step (by repeat (with_reducible first | exact HB.out | apply below_alloc | apply pw_below_drewN | apply below_drew1 | refine below_set ?_ GE282.out | refine below_set ?_ GE288.out)) hb); clear HO_4; clear BK282; clear BK288; clear HB; have HO_4 := n0_; have BK282 := n1_; have BK288 := n2_; have HB := n3_; clear n0_ n1_ n2_ n3_; (try clear hb); (try clear hb2); (try clear hk); (try clear hi); (try clear hge); have hcz88_0 : w87.cell? ⟨gb282, 0, none⟩ = some (.int .i64 x283000_3) := (blk_cell BK282.out 0).trans rfl; have hcz88_1 : w87.cell? ⟨gb282, 1, none⟩ = some (.string x283001_3) := (blk_cell BK282.out 1).trans rfl; have hcz88_2 : w87.cell? ⟨gb282, 2, none⟩ = some (.string x283002_3) := (blk_cell BK282.out 2).trans rfl; have hcz88_3 : w87.cell? ⟨gb282, 3, none⟩ = some (.string x283003_3) := (blk_cell BK282.out 3).trans rfl; have hcz88_4 : w87.cell? ⟨gb282, 4, none⟩ = some (.int .u64 x283004_3) := (blk_cell BK282.out 4).trans rfl; have hfz88_0 := blk_frozen BK282.out 0; have hfz88_1 := blk_frozen BK282.out 1; have hfz88_2 := blk_frozen BK282.out 2; have hfz88_3 := blk_frozen BK282.out 3; have hfz88_4 := blk_frozen BK282.out 4))
        refine bodyPost_ret (results_ct rfl _ _ gb282 74 #[.int .i64 0, .string (⟨#[]⟩ : ByteArray), .string (⟨#[]⟩ : ByteArray), .string (⟨#[]⟩ : ByteArray), .int .u64 0] (0, 0) _ rfl (by refine blk_put (cs := #[.int .i64 0, .string (⟨#[]⟩ : ByteArray), .string (⟨#[]⟩ : ByteArray), .string (⟨#[]⟩ : ByteArray), .int .u64 x283004_3]) ?_ 4 _ rfl; refine blk_put (cs := #[.int .i64 0, .string (⟨#[]⟩ : ByteArray), .string (⟨#[]⟩ : ByteArray), .string x283003_3, .int .u64 x283004_3]) ?_ 3 _ rfl; refine blk_put (cs := #[.int .i64 0, .string (⟨#[]⟩ : ByteArray), .string x283002_3, .string x283003_3, .int .u64 x283004_3]) ?_ 2 _ rfl; refine blk_put (cs := #[.int .i64 0, .string x283001_3, .string x283002_3, .string x283003_3, .int .u64 x283004_3]) ?_ 1 _ rfl; refine blk_put (cs := #[.int .i64 x283000_3, .string x283001_3, .string x283002_3, .string x283003_3, .int .u64 x283004_3]) ?_ 0 _ rfl; exact BK282.out) Try.underlying74 rfl (by kernel_rfl)) rfl ?_
        exact ⟨by first | rfl | (simp [errW_none, errW_some]; done) | (simp [errW_none, errW_some]; rfl) | (simp [*, errW_none, errW_some]; done) | (simp [*, errW_none, errW_some]; rfl), by repeat (with_reducible first | exact HB.out | apply below_alloc | apply pw_below_drewN | apply below_drew1 | refine below_set ?_ GE282.out | refine below_set ?_ GE288.out)⟩
 ·
  rw [if_neg c2] at H
  exact absurd H (by simp)

end Go.Proofs.Ytpjkaodbcclecaa.PK
