/- What functions of the given program come to, and that they do: written out of the translation by a program of this session; Lean checks it. -/
import Derived.Test.YtpjkaodbcclecaaQWords
import Derived.Test.YtpjkaodbcclecaaPAx0
import Derived.Test.YtpjkaodbcclecaaPAx20
import Derived.Test.YtpjkaodbcclecaaPAx22
import Derived.Test.YtpjkaodbcclecaaPAx24
import Derived.Test.YtpjkaodbcclecaaPAx26
import Derived.Test.YtpjkaodbcclecaaPAx30
namespace Go.Proofs.Ytpjkaodbcclecaa.PA
open Go.RowKit Go.Proofs.YtpjkaodbcclecaaW.PrintWords Go.Proofs.YtpjkaodbcclecaaW.PrintLast Go.Proofs.YtpjkaodbcclecaaW.PrintMore
attribute [local go_sem] max2_int min2_int max_two min_two max_three min_three max_four min_four   -- for this text's walks alone
set_option linter.unusedVariables false
set_option linter.unusedSimpArgs false

/-! ### waybilllaw13_UnitPlaces: function 7 -/
mutual
def waybilllaw13_UnitPlaces.j0 : Nat → List (S38) → List Int → List (S51) → Bool → Option (Bool)
  | 0, _, _, _, _ => none
  | k + 1, x0, x3, x5, x36 => if x36 = true then (none) else (waybilllaw13_UnitPlaces.l0 k x0 x3 x5 0)
def waybilllaw13_UnitPlaces.l0 : Nat → List (S38) → List Int → List (S51) → Int → Option (Bool)
  | 0, _, _, _, _ => none
  | k + 1, x0, x3, x5, x7 => if x7 < (x0.length : Int) then (if 0 ≤ x7 then (if x7 < (x5.length : Int) then (if ((rd_T51 x5 x7).f0).toList = ((rd_T38 x0 x7).f0).toList then (if (((rd_T51 x5 x7).f1) != ((rd_T38 x0 x7).f1)) = true then (none) else (if ((rd_T51 x5 x7).f3) = (((rd_T38 x0 x7).f2).length : Int) then (if ((rd_T51 x5 x7).f2) < 0 then (none) else (if ((rd_T51 x5 x7).f2) > (x3.length : Int) then (none) else (if ((rd_T51 x5 x7).f3) > (wrap64 ((x3.length : Int) - ((rd_T51 x5 x7).f2))) then (none) else (if 0 ≤ ((rd_T51 x5 x7).f2) then (if ((rd_T51 x5 x7).f2) ≤ (wrap64 (((rd_T51 x5 x7).f2) + ((rd_T51 x5 x7).f3))) then (if (wrap64 (((rd_T51 x5 x7).f2) + ((rd_T51 x5 x7).f3))) ≤ (x3.length : Int) then (if (strOfNums ((x3.take ((wrap64 (((rd_T51 x5 x7).f2) + ((rd_T51 x5 x7).f3))) : Int).toNat).drop (((rd_T51 x5 x7).f2) : Int).toNat)).toList = (strOfNums ((rd_T38 x0 x7).f2)).toList then (waybilllaw13_UnitPlaces.l0 k x0 x3 x5 (wrap64 (x7 + 1))) else (none)) else (none)) else (none)) else (none))))) else (none))) else (none)) else (none)) else (none)) else ((waybilllaw13_awake.f k).bind fun t843 => (some t843))
end
def waybilllaw13_UnitPlaces.f (k : Nat) (l0 : List (S38)) : Option (Bool) := (waybilllaw13_Small.f k l0).bind fun t811 => (if t811 = true then ((waybilllaw13_Tame.f k l0).bind fun t813 => ((unit_Append.f k t813).bind fun bt816 => ((unit_Places.f k bt816.1).bind fun bt820 => (if bt816.2 = true then (if bt820.2 = true then (waybilllaw13_UnitPlaces.j0 k t813 bt816.1 bt820.1 ((bt820.1.length : Int) != (t813.length : Int))) else (waybilllaw13_UnitPlaces.j0 k t813 bt816.1 bt820.1 true)) else (waybilllaw13_UnitPlaces.j0 k t813 bt816.1 bt820.1 true))))) else ((waybilllaw13_awake.f k).bind fun t812 => (some t812)))
theorem waybilllaw13_UnitPlaces.mono_l : ∀ k, (∀ y0 y1 y2 y3, LeO (waybilllaw13_UnitPlaces.j0 k y0 y1 y2 y3) (waybilllaw13_UnitPlaces.j0 (k + 1) y0 y1 y2 y3)) ∧ (∀ y0 y1 y2 y3, LeO (waybilllaw13_UnitPlaces.l0 k y0 y1 y2 y3) (waybilllaw13_UnitPlaces.l0 (k + 1) y0 y1 y2 y3))
  | 0 => ⟨fun _ _ _ _ r h => by simp [waybilllaw13_UnitPlaces.j0] at h, fun _ _ _ _ r h => by simp [waybilllaw13_UnitPlaces.l0] at h⟩
  | k + 1 => by
    obtain ⟨ih0, ih1⟩ := waybilllaw13_UnitPlaces.mono_l k
    refine ⟨?_, ?_⟩
    · intro y0 y1 y2 y3
      unfold waybilllaw13_UnitPlaces.j0
      repeat' first
      | (with_reducible exact ih0 _ _ _ _)
      | (with_reducible exact ih1 _ _ _ _)
      | (with_reducible exact unit_Append.mono _ _)
      | (with_reducible exact unit_Places.mono _ _)
      | (with_reducible exact waybilllaw13_Small.mono _ _)
      | (with_reducible exact waybilllaw13_Tame.mono _ _)
      | (with_reducible exact waybilllaw13_awake.mono _)
      | (with_reducible exact LeO.refl _)
      | (with_reducible exact LeO.none _)
      | (with_reducible refine LeO.ite ?_ ?_)
      | (with_reducible refine LeO.bind ?_ (fun _ => ?_))
      | exact ih0 _ _ _ _
      | exact ih1 _ _ _ _
      | exact unit_Append.mono _ _
      | exact unit_Places.mono _ _
      | exact waybilllaw13_Small.mono _ _
      | exact waybilllaw13_Tame.mono _ _
      | exact waybilllaw13_awake.mono _
      | exact LeO.none _
      | refine LeO.ite ?_ ?_
      | refine LeO.bind ?_ (fun _ => ?_)
    · intro y0 y1 y2 y3
      unfold waybilllaw13_UnitPlaces.l0
      repeat' first
      | (with_reducible exact ih0 _ _ _ _)
      | (with_reducible exact ih1 _ _ _ _)
      | (with_reducible exact unit_Append.mono _ _)
      | (with_reducible exact unit_Places.mono _ _)
      | (with_reducible exact waybilllaw13_Small.mono _ _)
      | (with_reducible exact waybilllaw13_Tame.mono _ _)
      | (with_reducible exact waybilllaw13_awake.mono _)
      | (with_reducible exact LeO.refl _)
      | (with_reducible exact LeO.none _)
      | (with_reducible refine LeO.ite ?_ ?_)
      | (with_reducible refine LeO.bind ?_ (fun _ => ?_))
      | exact ih0 _ _ _ _
      | exact ih1 _ _ _ _
      | exact unit_Append.mono _ _
      | exact unit_Places.mono _ _
      | exact waybilllaw13_Small.mono _ _
      | exact waybilllaw13_Tame.mono _ _
      | exact waybilllaw13_awake.mono _
      | exact LeO.none _
      | refine LeO.ite ?_ ?_
      | refine LeO.bind ?_ (fun _ => ?_)
theorem waybilllaw13_UnitPlaces.mono : ∀ a0 k, LeO (waybilllaw13_UnitPlaces.f k a0) (waybilllaw13_UnitPlaces.f (k + 1) a0) := by
  intro a0 k
  obtain ⟨ih0, ih1⟩ := waybilllaw13_UnitPlaces.mono_l k
  unfold waybilllaw13_UnitPlaces.f
  repeat' first
      | (with_reducible exact ih0 _ _ _ _)
      | (with_reducible exact ih1 _ _ _ _)
      | (with_reducible exact unit_Append.mono _ _)
      | (with_reducible exact unit_Places.mono _ _)
      | (with_reducible exact waybilllaw13_Small.mono _ _)
      | (with_reducible exact waybilllaw13_Tame.mono _ _)
      | (with_reducible exact waybilllaw13_awake.mono _)
      | (with_reducible exact LeO.refl _)
      | (with_reducible exact LeO.none _)
      | (with_reducible refine LeO.ite ?_ ?_)
      | (with_reducible refine LeO.bind ?_ (fun _ => ?_))
      | exact ih0 _ _ _ _
      | exact ih1 _ _ _ _
      | exact unit_Append.mono _ _
      | exact unit_Places.mono _ _
      | exact waybilllaw13_Small.mono _ _
      | exact waybilllaw13_Tame.mono _ _
      | exact waybilllaw13_awake.mono _
      | exact LeO.none _
      | refine LeO.ite ?_ ?_
      | refine LeO.bind ?_ (fun _ => ?_)
set_option maxHeartbeats 8000000 in
set_option maxRecDepth 100000 in
theorem waybilllaw13_UnitPlaces.calls (k : Nat) (A0 : Option Addr) (c0 : Nat) (l0 : List (S38)) (r : Bool) (w : World) (hr0 : Kd.C k38 w A0 l0.length l0) (hc0 : l0.length ≤ c0) (h : waybilllaw13_UnitPlaces.f k l0 = some r) :
    Calls Try.prog 7 #[.slice A0 l0.length c0] w fun e w' => e = .returned (.bool r) ∧ Below w.heap.size w w' := by
  have HR0 := Aside0.mk hr0
  have HC0 := Aside0.mk hc0
  clear hr0 hc0
  have HB := Aside0.mk (Below.refl w.heap.size w)
  have H : ((waybilllaw13_Small.f k l0).bind fun t811 => (if t811 = true then ((waybilllaw13_Tame.f k l0).bind fun t813 => ((unit_Append.f k t813).bind fun bt816 => ((unit_Places.f k bt816.1).bind fun bt820 => (if bt816.2 = true then (if bt820.2 = true then (waybilllaw13_UnitPlaces.j0 k t813 bt816.1 bt820.1 ((bt820.1.length : Int) != (t813.length : Int))) else (waybilllaw13_UnitPlaces.j0 k t813 bt816.1 bt820.1 true)) else (waybilllaw13_UnitPlaces.j0 k t813 bt816.1 bt820.1 true))))) else ((waybilllaw13_awake.f k).bind fun t812 => (some t812)))) = some r := h
  clear h
  replace H := Option.bind_eq_some_iff.mp H
  obtain ⟨t811, A20, H⟩ := H
  replace H : (if t811 = true then ((waybilllaw13_Tame.f k l0).bind fun t813 => ((unit_Append.f k t813).bind fun bt816 => ((unit_Places.f k bt816.1).bind fun bt820 => (if bt816.2 = true then (if bt820.2 = true then (waybilllaw13_UnitPlaces.j0 k t813 bt816.1 bt820.1 ((bt820.1.length : Int) != (t813.length : Int))) else (waybilllaw13_UnitPlaces.j0 k t813 bt816.1 bt820.1 true)) else (waybilllaw13_UnitPlaces.j0 k t813 bt816.1 bt820.1 true))))) else ((waybilllaw13_awake.f k).bind fun t812 => (some t812))) = some r := H
  have A2 := Aside0.mk A20
  clear A20
  by_cases c3 : t811 = true
  · subst c3
    have H1 : ((waybilllaw13_Tame.f k l0).bind fun t813 => ((unit_Append.f k t813).bind fun bt816 => ((unit_Places.f k bt816.1).bind fun bt820 => (if bt816.2 = true then (if bt820.2 = true then (waybilllaw13_UnitPlaces.j0 k t813 bt816.1 bt820.1 ((bt820.1.length : Int) != (t813.length : Int))) else (waybilllaw13_UnitPlaces.j0 k t813 bt816.1 bt820.1 true)) else (waybilllaw13_UnitPlaces.j0 k t813 bt816.1 bt820.1 true))))) = some r := by rw [if_pos rfl] at H; exact H
    clear H
    have H := H1
    clear H1
    replace H := Option.bind_eq_some_iff.mp H
    obtain ⟨t813, A40, H⟩ := H
    replace H : ((unit_Append.f k t813).bind fun bt816 => ((unit_Places.f k bt816.1).bind fun bt820 => (if bt816.2 = true then (if bt820.2 = true then (waybilllaw13_UnitPlaces.j0 k t813 bt816.1 bt820.1 ((bt820.1.length : Int) != (t813.length : Int))) else (waybilllaw13_UnitPlaces.j0 k t813 bt816.1 bt820.1 true)) else (waybilllaw13_UnitPlaces.j0 k t813 bt816.1 bt820.1 true)))) = some r := H
    have A4 := Aside0.mk A40
    clear A40
    replace H := Option.bind_eq_some_iff.mp H
    obtain ⟨⟨t816, t817⟩, A50, H⟩ := H
    replace H : ((unit_Places.f k t816).bind fun bt820 => (if t817 = true then (if bt820.2 = true then (waybilllaw13_UnitPlaces.j0 k t813 t816 bt820.1 ((bt820.1.length : Int) != (t813.length : Int))) else (waybilllaw13_UnitPlaces.j0 k t813 t816 bt820.1 true)) else (waybilllaw13_UnitPlaces.j0 k t813 t816 bt820.1 true))) = some r := H
    have A5 := Aside0.mk A50
    clear A50
    replace H := Option.bind_eq_some_iff.mp H
    obtain ⟨⟨t820, t821⟩, A60, H⟩ := H
    replace H : (if t817 = true then (if t821 = true then (waybilllaw13_UnitPlaces.j0 k t813 t816 t820 ((t820.length : Int) != (t813.length : Int))) else (waybilllaw13_UnitPlaces.j0 k t813 t816 t820 true)) else (waybilllaw13_UnitPlaces.j0 k t813 t816 t820 true)) = some r := H
    have A6 := Aside0.mk A60
    clear A60
    have HC7 := Aside0.mk H
    clear H
    go_enter Try.func7, Try.ntmps7
    go_upto_region 6 with (first | (go_at_call 22; (with_reducible refine (waybilllaw13_Small.calls k _ _ l0 true _ ?side1 ?side2 A2.out).mono ?_); (case side1 => repeat (first | exact HR0.out | (with_reducible refine Kd.C_alloc ?_ _) | (with_reducible refine Kd.C_drewN ?_ _) | (with_reducible refine Kd.C_drew ?_))); (case side2 => exact HC0.out); rintro e w' ⟨rfl, ⟨nd, rfl⟩⟩; (try first | exact ⟨rfl, _, World.drewN_drewN _ _ _⟩ | exact ⟨rfl, _, Eq.trans (World.drewN_drewN _ _ _) (congrArg (World.drewN _) (Nat.add_assoc _ _ _))⟩)) | (go_at_call 29; (with_reducible refine (waybilllaw13_Tame.calls k (fun k_ => k_ < w.heap.size) _ _ l0 t813 _ ?side1 A4.out).mono ?_); (case side1 => exact Kd.V_mk HC0.out (Kd.F_below (Kd.C_F k38_heap HR0.out) (by repeat (first | (with_reducible first | exact HB.out | apply below_alloc | apply pw_below_drewN | apply below_drew1) | exact HB.out)))); rintro e w8 ⟨v814, rfl, ho0, hb⟩; have n0_ := Aside0.mk (Kd.N_lower (Kd.N_mono (ok' := fun k_ => True) ho0 (fun k_ hk_ => trivial)) (below_size (by repeat (first | (with_reducible first | exact HB.out | apply below_alloc | apply pw_below_drewN | apply below_drew1) | exact HB.out)))); have n1_ := Aside0.mk (below_step (by repeat (first | (with_reducible first | exact HB.out | apply below_alloc | apply pw_below_drewN | apply below_drew1) | exact HB.out)) hb); clear HB; have HO815 := n0_; have HB := n1_; clear n0_ n1_; (try clear hb); (try clear hb2); (try clear hk); (try clear hi); (try clear hge); (try clear ho0); obtain ⟨Ao9, co9, eo9⟩ := Kd.N_slice HO815.out; subst eo9) | (go_at_call 20; (with_reducible refine (unit_Append.calls k _ _ t813 t816 t817 _ ?side1 ?side2 A5.out).mono ?_); (case side1 => repeat (first | exact (Kd.N_reads' HO815.out).2.2 | (with_reducible refine Kd.C_alloc ?_ _) | (with_reducible refine Kd.C_drewN ?_ _) | (with_reducible refine Kd.C_drew ?_))); (case side2 => exact (Kd.N_reads' HO815.out).2.1); rintro e w10 ⟨v818, rfl, ho0, hb⟩; have n0_ := Aside0.mk (Kd.N_elder' (by (with_reducible repeat (first | apply Kd.N_alloc | apply Kd.N_drewN | apply Kd.N_drew)); exact HO815.out) (Kd.R_base ho0) hb); have n1_ := Aside0.mk (Kd.R_lower ho0 (below_size (by repeat (first | (with_reducible first | exact HB.out | apply below_alloc | apply pw_below_drewN | apply below_drew1) | exact HB.out)))); have n2_ := Aside0.mk (below_step (by repeat (first | (with_reducible first | exact HB.out | apply below_alloc | apply pw_below_drewN | apply below_drew1) | exact HB.out)) hb); clear HO815; clear HB; have HO815 := n0_; have HO819 := n1_; have HB := n2_; clear n0_ n1_ n2_; (try clear hb); (try clear hb2); (try clear hk); (try clear hi); (try clear hge); (try clear ho0); obtain ⟨Ao11, co11, eo11⟩ := Kd.R_slice HO819.out; subst eo11) | (go_at_call 26; (with_reducible refine (unit_Places.calls k _ _ t816 t820 t821 _ ?side1 ?side2 A6.out).mono ?_); (case side1 => repeat (first | exact (Kd.R_reads' HO819.out).2.2 | (with_reducible refine Kd.C_alloc ?_ _) | (with_reducible refine Kd.C_drewN ?_ _) | (with_reducible refine Kd.C_drew ?_))); (case side2 => exact (Kd.R_reads' HO819.out).2.1); rintro e w12 ⟨v822, rfl, ho0, hb⟩; have n0_ := Aside0.mk (Kd.N_elder' (by (with_reducible repeat (first | apply Kd.N_alloc | apply Kd.N_drewN | apply Kd.N_drew)); exact HO815.out) (Kd.R_base ho0) hb); have n1_ := Aside0.mk (Kd.R_below (by (with_reducible repeat (first | apply Kd.R_alloc | apply Kd.R_drewN | apply Kd.R_drew)); exact HO819.out) hb); have n2_ := Aside0.mk (Kd.R_lower ho0 (below_size (by repeat (first | (with_reducible first | exact HB.out | apply below_alloc | apply pw_below_drewN | apply below_drew1) | exact HB.out)))); have n3_ := Aside0.mk (below_step (by repeat (first | (with_reducible first | exact HB.out | apply below_alloc | apply pw_below_drewN | apply below_drew1) | exact HB.out)) hb); clear HO815; clear HO819; clear HB; have HO815 := n0_; have HO819 := n1_; have HO823 := n2_; have HB := n3_; clear n0_ n1_ n2_ n3_; (try clear hb); (try clear hb2); (try clear hk); (try clear hi); (try clear hge); (try clear ho0)))
    repeat (go_quiet (first | (go_at_call 22; (with_reducible refine (waybilllaw13_Small.calls k _ _ l0 true _ ?side1 ?side2 A2.out).mono ?_); (case side1 => repeat (first | exact HR0.out | (with_reducible refine Kd.C_alloc ?_ _) | (with_reducible refine Kd.C_drewN ?_ _) | (with_reducible refine Kd.C_drew ?_))); (case side2 => exact HC0.out); rintro e w' ⟨rfl, ⟨nd, rfl⟩⟩; (try first | exact ⟨rfl, _, World.drewN_drewN _ _ _⟩ | exact ⟨rfl, _, Eq.trans (World.drewN_drewN _ _ _) (congrArg (World.drewN _) (Nat.add_assoc _ _ _))⟩)) | (go_at_call 29; (with_reducible refine (waybilllaw13_Tame.calls k (fun k_ => k_ < w.heap.size) _ _ l0 t813 _ ?side1 A4.out).mono ?_); (case side1 => exact Kd.V_mk HC0.out (Kd.F_below (Kd.C_F k38_heap HR0.out) (by repeat (first | (with_reducible first | exact HB.out | apply below_alloc | apply pw_below_drewN | apply below_drew1) | exact HB.out)))); rintro e w8 ⟨v814, rfl, ho0, hb⟩; have n0_ := Aside0.mk (Kd.N_lower (Kd.N_mono (ok' := fun k_ => True) ho0 (fun k_ hk_ => trivial)) (below_size (by repeat (first | (with_reducible first | exact HB.out | apply below_alloc | apply pw_below_drewN | apply below_drew1) | exact HB.out)))); have n1_ := Aside0.mk (below_step (by repeat (first | (with_reducible first | exact HB.out | apply below_alloc | apply pw_below_drewN | apply below_drew1) | exact HB.out)) hb); clear HB; have HO815 := n0_; have HB := n1_; clear n0_ n1_; (try clear hb); (try clear hb2); (try clear hk); (try clear hi); (try clear hge); (try clear ho0); obtain ⟨Ao9, co9, eo9⟩ := Kd.N_slice HO815.out; subst eo9) | (go_at_call 20; (with_reducible refine (unit_Append.calls k _ _ t813 t816 t817 _ ?side1 ?side2 A5.out).mono ?_); (case side1 => repeat (first | exact (Kd.N_reads' HO815.out).2.2 | (with_reducible refine Kd.C_alloc ?_ _) | (with_reducible refine Kd.C_drewN ?_ _) | (with_reducible refine Kd.C_drew ?_))); (case side2 => exact (Kd.N_reads' HO815.out).2.1); rintro e w10 ⟨v818, rfl, ho0, hb⟩; have n0_ := Aside0.mk (Kd.N_elder' (by (with_reducible repeat (first | apply Kd.N_alloc | apply Kd.N_drewN | apply Kd.N_drew)); exact HO815.out) (Kd.R_base ho0) hb); have n1_ := Aside0.mk (Kd.R_lower ho0 (below_size (by repeat (first | (with_reducible first | exact HB.out | apply below_alloc | apply pw_below_drewN | apply below_drew1) | exact HB.out)))); have n2_ := Aside0.mk (below_step (by repeat (first | (with_reducible first | exact HB.out | apply below_alloc | apply pw_below_drewN | apply below_drew1) | exact HB.out)) hb); clear HO815; clear HB; have HO815 := n0_; have HO819 := n1_; have HB := n2_; clear n0_ n1_ n2_; (try clear hb); (try clear hb2); (try clear hk); (try clear hi); (try clear hge); (try clear ho0); obtain ⟨Ao11, co11, eo11⟩ := Kd.R_slice HO819.out; subst eo11) | (go_at_call 26; (with_reducible refine (unit_Places.calls k _ _ t816 t820 t821 _ ?side1 ?side2 A6.out).mono ?_); (case side1 => repeat (first | exact (Kd.R_reads' HO819.out).2.2 | (with_reducible refine Kd.C_alloc ?_ _) | (with_reducible refine Kd.C_drewN ?_ _) | (with_reducible refine Kd.C_drew ?_))); (case side2 => exact (Kd.R_reads' HO819.out).2.1); rintro e w12 ⟨v822, rfl, ho0, hb⟩; have n0_ := Aside0.mk (Kd.N_elder' (by (with_reducible repeat (first | apply Kd.N_alloc | apply Kd.N_drewN | apply Kd.N_drew)); exact HO815.out) (Kd.R_base ho0) hb); have n1_ := Aside0.mk (Kd.R_below (by (with_reducible repeat (first | apply Kd.R_alloc | apply Kd.R_drewN | apply Kd.R_drew)); exact HO819.out) hb); have n2_ := Aside0.mk (Kd.R_lower ho0 (below_size (by repeat (first | (with_reducible first | exact HB.out | apply below_alloc | apply pw_below_drewN | apply below_drew1) | exact HB.out)))); have n3_ := Aside0.mk (below_step (by repeat (first | (with_reducible first | exact HB.out | apply below_alloc | apply pw_below_drewN | apply below_drew1) | exact HB.out)) hb); clear HO815; clear HO819; clear HB; have HO815 := n0_; have HO819 := n1_; have HO823 := n2_; have HB := n3_; clear n0_ n1_ n2_ n3_; (try clear hb); (try clear hb2); (try clear hk); (try clear hi); (try clear hge); (try clear ho0))); go_upto_region 6 with (first | (go_at_call 22; (with_reducible refine (waybilllaw13_Small.calls k _ _ l0 true _ ?side1 ?side2 A2.out).mono ?_); (case side1 => repeat (first | exact HR0.out | (with_reducible refine Kd.C_alloc ?_ _) | (with_reducible refine Kd.C_drewN ?_ _) | (with_reducible refine Kd.C_drew ?_))); (case side2 => exact HC0.out); rintro e w' ⟨rfl, ⟨nd, rfl⟩⟩; (try first | exact ⟨rfl, _, World.drewN_drewN _ _ _⟩ | exact ⟨rfl, _, Eq.trans (World.drewN_drewN _ _ _) (congrArg (World.drewN _) (Nat.add_assoc _ _ _))⟩)) | (go_at_call 29; (with_reducible refine (waybilllaw13_Tame.calls k (fun k_ => k_ < w.heap.size) _ _ l0 t813 _ ?side1 A4.out).mono ?_); (case side1 => exact Kd.V_mk HC0.out (Kd.F_below (Kd.C_F k38_heap HR0.out) (by repeat (first | (with_reducible first | exact HB.out | apply below_alloc | apply pw_below_drewN | apply below_drew1) | exact HB.out)))); rintro e w8 ⟨v814, rfl, ho0, hb⟩; have n0_ := Aside0.mk (Kd.N_lower (Kd.N_mono (ok' := fun k_ => True) ho0 (fun k_ hk_ => trivial)) (below_size (by repeat (first | (with_reducible first | exact HB.out | apply below_alloc | apply pw_below_drewN | apply below_drew1) | exact HB.out)))); have n1_ := Aside0.mk (below_step (by repeat (first | (with_reducible first | exact HB.out | apply below_alloc | apply pw_below_drewN | apply below_drew1) | exact HB.out)) hb); clear HB; have HO815 := n0_; have HB := n1_; clear n0_ n1_; (try clear hb); (try clear hb2); (try clear hk); (try clear hi); (try clear hge); (try clear ho0); obtain ⟨Ao9, co9, eo9⟩ := Kd.N_slice HO815.out; subst eo9) | (go_at_call 20; (with_reducible refine (unit_Append.calls k _ _ t813 t816 t817 _ ?side1 ?side2 A5.out).mono ?_); (case side1 => repeat (first | exact (Kd.N_reads' HO815.out).2.2 | (with_reducible refine Kd.C_alloc ?_ _) | (with_reducible refine Kd.C_drewN ?_ _) | (with_reducible refine Kd.C_drew ?_))); (case side2 => exact (Kd.N_reads' HO815.out).2.1); rintro e w10 ⟨v818, rfl, ho0, hb⟩; have n0_ := Aside0.mk (Kd.N_elder' (by (with_reducible repeat (first | apply Kd.N_alloc | apply Kd.N_drewN | apply Kd.N_drew)); exact HO815.out) (Kd.R_base ho0) hb); have n1_ := Aside0.mk (Kd.R_lower ho0 (below_size (by repeat (first | (with_reducible first | exact HB.out | apply below_alloc | apply pw_below_drewN | apply below_drew1) | exact HB.out)))); have n2_ := Aside0.mk (below_step (by repeat (first | (with_reducible first | exact HB.out | apply below_alloc | apply pw_below_drewN | apply below_drew1) | exact HB.out)) hb); clear HO815; clear HB; have HO815 := n0_; have HO819 := n1_; have HB := n2_; clear n0_ n1_ n2_; (try clear hb); (try clear hb2); (try clear hk); (try clear hi); (try clear hge); (try clear ho0); obtain ⟨Ao11, co11, eo11⟩ := Kd.R_slice HO819.out; subst eo11) | (go_at_call 26; (with_reducible refine (unit_Places.calls k _ _ t816 t820 t821 _ ?side1 ?side2 A6.out).mono ?_); (case side1 => repeat (first | exact (Kd.R_reads' HO819.out).2.2 | (with_reducible refine Kd.C_alloc ?_ _) | (with_reducible refine Kd.C_drewN ?_ _) | (with_reducible refine Kd.C_drew ?_))); (case side2 => exact (Kd.R_reads' HO819.out).2.1); rintro e w12 ⟨v822, rfl, ho0, hb⟩; have n0_ := Aside0.mk (Kd.N_elder' (by (with_reducible repeat (first | apply Kd.N_alloc | apply Kd.N_drewN | apply Kd.N_drew)); exact HO815.out) (Kd.R_base ho0) hb); have n1_ := Aside0.mk (Kd.R_below (by (with_reducible repeat (first | apply Kd.R_alloc | apply Kd.R_drewN | apply Kd.R_drew)); exact HO819.out) hb); have n2_ := Aside0.mk (Kd.R_lower ho0 (below_size (by repeat (first | (with_reducible first | exact HB.out | apply below_alloc | apply pw_below_drewN | apply below_drew1) | exact HB.out)))); have n3_ := Aside0.mk (below_step (by repeat (first | (with_reducible first | exact HB.out | apply below_alloc | apply pw_below_drewN | apply below_drew1) | exact HB.out)) hb); clear HO815; clear HO819; clear HB; have HO815 := n0_; have HO819 := n1_; have HO823 := n2_; have HB := n3_; clear n0_ n1_ n2_ n3_; (try clear hb); (try clear hb2); (try clear hk); (try clear hi); (try clear hge); (try clear ho0))))
    (try simp only [Act.put, List.setIfInBounds_toArray, List.set_cons_zero, List.set_cons_succ])
    go_cut [36] (fun v36 wc => ∃ (kq : Nat) (x36_6 : Bool), v36 = .bool x36_6 ∧ Aside0 (waybilllaw13_UnitPlaces.j0 kq t813 t816 t820 x36_6 = some r) ∧ Aside0 (kq ≤ k) ∧ Aside0 (Kd.N k38 38 wc w.heap.size (fun k_ => some k_ ≠ ((.slice Ao11 t816.length co11) : Value).ownBlock ∧ some k_ ≠ (v822 : Value).ownBlock) (.slice Ao9 t813.length co9) t813) ∧ Aside0 (Kd.R (Kd.int .u8) 5 wc w.heap.size (fun _ => True) (.slice Ao11 t816.length co11) t816) ∧ Aside0 (Kd.R k51 51 wc w.heap.size (fun _ => True) v822 t820) ∧ Aside0 (Below w.heap.size w wc))
    case first => as_aux_lemma =>
      have H := HC7.out
      clear HC7
      by_cases c13 : t817 = true
      · subst c13
        have H1 : (if t821 = true then (waybilllaw13_UnitPlaces.j0 k t813 t816 t820 ((t820.length : Int) != (t813.length : Int))) else (waybilllaw13_UnitPlaces.j0 k t813 t816 t820 true)) = some r := by rw [if_pos rfl] at H; exact H
        clear H
        have H := H1
        clear H1
        by_cases c14 : t821 = true
        · subst c14
          have H1 : (waybilllaw13_UnitPlaces.j0 k t813 t816 t820 ((t820.length : Int) != (t813.length : Int))) = some r := by rw [if_pos rfl] at H; exact H
          clear H
          have H := H1
          clear H1
          have H' := Aside0.mk H
          clear H
          obtain ⟨Ao15, co15, eo15⟩ := Kd.R_slice HO823.out
          subst eo15
          go_wp2
          repeat (go_quiet (fail); try go_wp2)
          go_meet
          case rel => exact ⟨_, (((t820.length : Int) != (t813.length : Int))), (by first | rfl | (simp; done) | (simp [*]; done)), H', ⟨by first | omega | exact Nat.le_refl _⟩, ⟨by (with_reducible repeat (first | apply Kd.N_alloc | apply Kd.N_drewN | apply Kd.N_drew)); exact Kd.N_mono HO815.out (fun _ hk => ⟨hk.1.2, hk.2⟩)⟩, ⟨by (with_reducible repeat (first | apply Kd.R_alloc | apply Kd.R_drewN | apply Kd.R_drew)); exact HO819.out⟩, ⟨by (with_reducible repeat (first | apply Kd.R_alloc | apply Kd.R_drewN | apply Kd.R_drew)); exact HO823.out⟩, ⟨by repeat (first | (with_reducible first | exact HB.out | apply below_alloc | apply pw_below_drewN | apply below_drew1) | exact HB.out)⟩⟩
        · replace c14 := Bool.eq_false_iff.mpr c14
          subst c14
          have H1 : (waybilllaw13_UnitPlaces.j0 k t813 t816 t820 true) = some r := by rw [if_neg (show ¬ (false = true) by decide)] at H; exact H
          clear H
          have H := H1
          clear H1
          have H' := Aside0.mk H
          clear H
          go_wp2
          repeat (go_quiet (fail); try go_wp2)
          go_meet
          case rel => exact ⟨_, (true), (by first | rfl | (simp; done) | (simp [*]; done)), H', ⟨by first | omega | exact Nat.le_refl _⟩, ⟨by (with_reducible repeat (first | apply Kd.N_alloc | apply Kd.N_drewN | apply Kd.N_drew)); exact Kd.N_mono HO815.out (fun _ hk => ⟨hk.1.2, hk.2⟩)⟩, ⟨by (with_reducible repeat (first | apply Kd.R_alloc | apply Kd.R_drewN | apply Kd.R_drew)); exact HO819.out⟩, ⟨by (with_reducible repeat (first | apply Kd.R_alloc | apply Kd.R_drewN | apply Kd.R_drew)); exact HO823.out⟩, ⟨by repeat (first | (with_reducible first | exact HB.out | apply below_alloc | apply pw_below_drewN | apply below_drew1) | exact HB.out)⟩⟩
      · replace c13 := Bool.eq_false_iff.mpr c13
        subst c13
        have H1 : (waybilllaw13_UnitPlaces.j0 k t813 t816 t820 true) = some r := by rw [if_neg (show ¬ (false = true) by decide)] at H; exact H
        clear H
        have H := H1
        clear H1
        have H' := Aside0.mk H
        clear H
        go_wp2
        repeat (go_quiet (fail); try go_wp2)
        go_meet
        case rel => exact ⟨_, (true), (by first | rfl | (simp; done) | (simp [*]; done)), H', ⟨by first | omega | exact Nat.le_refl _⟩, ⟨by (with_reducible repeat (first | apply Kd.N_alloc | apply Kd.N_drewN | apply Kd.N_drew)); exact Kd.N_mono HO815.out (fun _ hk => ⟨hk.1.2, hk.2⟩)⟩, ⟨by (with_reducible repeat (first | apply Kd.R_alloc | apply Kd.R_drewN | apply Kd.R_drew)); exact HO819.out⟩, ⟨by (with_reducible repeat (first | apply Kd.R_alloc | apply Kd.R_drewN | apply Kd.R_drew)); exact HO823.out⟩, ⟨by repeat (first | (with_reducible first | exact HB.out | apply below_alloc | apply pw_below_drewN | apply below_drew1) | exact HB.out)⟩⟩
    case rest => as_aux_lemma =>
      clear HC7
      try clear c1
      try clear p2
      try clear c3
      try clear c7
      try clear c13
      try clear c14
      obtain ⟨kq, x36_6, rfl, HA, HJ6, HO_0, HO_3, HO_5, HB⟩ := hcut
      cases kq with
      | zero => exact absurd HA.out (by simp [waybilllaw13_UnitPlaces.j0])
      | succ kj6 =>
        have H := HA.out
        clear HA
        simp only [waybilllaw13_UnitPlaces.j0] at H
        by_cases c16 : x36_6 = true
        · subst c16
          have H1 : (none) = some r := by rw [if_pos rfl] at H; exact H
          clear H
          have H := H1
          clear H1
          exact absurd H (by simp)
        · replace c16 := Bool.eq_false_iff.mpr c16
          subst c16
          have H1 : (waybilllaw13_UnitPlaces.l0 kj6 t813 t816 t820 0) = some r := by rw [if_neg (show ¬ (false = true) by decide)] at H; exact H
          clear H
          have H := H1
          clear H1
          have H' := Aside0.mk H
          clear H
          go_wp2
          repeat (go_quiet (fail); try go_wp2)
          go_loopg [7] kj6 (fun kq v7 w' => ∃ (x7_2 : Int), v7 = .int .i64 x7_2 ∧ Aside0 (waybilllaw13_UnitPlaces.l0 kq t813 t816 t820 x7_2 = some r) ∧ Aside0 (kq ≤ kj6) ∧ Aside0 (Kd.N k38 38 w' w.heap.size (fun k_ => some k_ ≠ ((.slice Ao11 t816.length co11) : Value).ownBlock ∧ some k_ ≠ (v822 : Value).ownBlock) (.slice Ao9 t813.length co9) t813) ∧ Aside0 (Kd.R (Kd.int .u8) 5 w' w.heap.size (fun _ => True) (.slice Ao11 t816.length co11) t816) ∧ Aside0 (Kd.R k51 51 w' w.heap.size (fun _ => True) v822 t820) ∧ Aside0 (Below w.heap.size w w'))
          case atStart => exact ⟨(0), (by first | rfl | (simp; done) | (simp [*]; done)), H', ⟨Nat.le_refl _⟩, ⟨by (with_reducible repeat (first | apply Kd.N_alloc | apply Kd.N_drewN | apply Kd.N_drew)); exact HO_0.out⟩, ⟨by (with_reducible repeat (first | apply Kd.R_alloc | apply Kd.R_drewN | apply Kd.R_drew)); exact HO_3.out⟩, ⟨by (with_reducible repeat (first | apply Kd.R_alloc | apply Kd.R_drewN | apply Kd.R_drew)); exact HO_5.out⟩, ⟨by repeat (first | (with_reducible first | exact HB.out | apply below_alloc | apply pw_below_drewN | apply below_drew1) | exact HB.out)⟩⟩
          case round => as_aux_lemma =>
            clear H'
            try clear c1
            try clear p2
            try clear c3
            try clear c7
            try clear c13
            try clear c14
            try clear c16
            try clear p2
            obtain ⟨x7_2, rfl, HA, HK2, HO_0, HO_3, HO_5, HB⟩ := hrel
            cases gk with
            | zero => exact absurd HA.out (by simp [waybilllaw13_UnitPlaces.l0])
            | succ k2 =>
              have H := HA.out
              clear HA
              simp only [waybilllaw13_UnitPlaces.l0] at H
              by_cases c17 : x7_2 < (t813.length : Int)
              · rw [if_pos c17] at H
                have c17b0 : decide (x7_2 < (t813.length : Int)) = true := decide_eq_true c17
                clear c17
                by_cases c18 : 0 ≤ x7_2
                · rw [if_pos c18] at H
                  have c18b0 : decide (0 ≤ x7_2) = true := decide_eq_true c18
                  clear c18
                  by_cases c19 : x7_2 < (t820.length : Int)
                  · rw [if_pos c19] at H
                    have c19b0 : decide (x7_2 < (t820.length : Int)) = true := decide_eq_true c19
                    clear c19
                    by_cases c20 : ((rd_T51 t820 x7_2).f0).toList = ((rd_T38 t813 x7_2).f0).toList
                    · rw [if_pos c20] at H
                      have c20b0 : (((rd_T51 t820 x7_2).f0).toList == ((rd_T38 t813 x7_2).f0).toList) = true := beq_iff_eq.mpr c20
                      have c20b1 : (((rd_T51 t820 x7_2).f0).toList != ((rd_T38 t813 x7_2).f0).toList) = false := bne_eq_false_iff_eq.mpr c20
                      clear c20
                      by_cases c21 : (((rd_T51 t820 x7_2).f1) != ((rd_T38 t813 x7_2).f1)) = true
                      · rw [if_pos c21] at H
                        exact absurd H (by simp)
                      · rw [if_neg c21] at H
                        have c21b0 : (((rd_T51 t820 x7_2).f1) != ((rd_T38 t813 x7_2).f1)) = false := by simpa using c21
                        (try (have c21b1 : decide (((rd_T51 t820 x7_2).f1) = ((rd_T38 t813 x7_2).f1)) = true := by simpa using c21))
                        (try (have c21b2 : (((rd_T51 t820 x7_2).f1) == ((rd_T38 t813 x7_2).f1)) = true := by simpa using c21))
                        clear c21
                        by_cases c22 : ((rd_T51 t820 x7_2).f3) = (((rd_T38 t813 x7_2).f2).length : Int)
                        · rw [if_pos c22] at H
                          have c22b0 : (((rd_T51 t820 x7_2).f3) == (((rd_T38 t813 x7_2).f2).length : Int)) = true := beq_iff_eq.mpr c22
                          have c22b1 : (((rd_T51 t820 x7_2).f3) != (((rd_T38 t813 x7_2).f2).length : Int)) = false := bne_eq_false_iff_eq.mpr c22
                          clear c22
                          by_cases c23 : ((rd_T51 t820 x7_2).f2) < 0
                          · rw [if_pos c23] at H
                            exact absurd H (by simp)
                          · rw [if_neg c23] at H
                            have c23b0 : decide (((rd_T51 t820 x7_2).f2) < 0) = false := decide_eq_false c23
                            clear c23
                            by_cases c24 : ((rd_T51 t820 x7_2).f2) > (t816.length : Int)
                            · rw [if_pos c24] at H
                              exact absurd H (by simp)
                            · rw [if_neg c24] at H
                              have c24b0 : decide ((t816.length : Int) < ((rd_T51 t820 x7_2).f2)) = false := decide_eq_false c24
                              clear c24
                              by_cases c25 : ((rd_T51 t820 x7_2).f3) > (wrap64 ((t816.length : Int) - ((rd_T51 t820 x7_2).f2)))
                              · rw [if_pos c25] at H
                                exact absurd H (by simp)
                              · rw [if_neg c25] at H
                                have c25b0 : decide ((wrap64 ((t816.length : Int) - ((rd_T51 t820 x7_2).f2))) < ((rd_T51 t820 x7_2).f3)) = false := decide_eq_false c25
                                clear c25
                                by_cases c26 : 0 ≤ ((rd_T51 t820 x7_2).f2)
                                · rw [if_pos c26] at H
                                  have c26b0 := eq_true c26
                                  have c26b1 : decide (0 ≤ ((rd_T51 t820 x7_2).f2)) = true := decide_eq_true c26
                                  clear c26
                                  obtain ⟨ji27, hji27⟩ : ∃ j_ : Int, (wrap64 (((rd_T51 t820 x7_2).f2) + ((rd_T51 t820 x7_2).f3))) = j_ := ⟨_, rfl⟩
                                  replace H : (if ((rd_T51 t820 x7_2).f2) ≤ (ji27) then (if (ji27) ≤ (t816.length : Int) then (if (strOfNums ((t816.take ((ji27) : Int).toNat).drop (((rd_T51 t820 x7_2).f2) : Int).toNat)).toList = (strOfNums ((rd_T38 t813 x7_2).f2)).toList then (waybilllaw13_UnitPlaces.l0 k2 t813 t816 t820 (wrap64 (x7_2 + 1))) else (none)) else (none)) else (none)) = some r := by first | (rw [hji27] at H; exact H) | (simp only [hji27] at H ⊢; exact H)
                                  have hji27w : (IntKind.i64.wrap (((rd_T51 t820 x7_2).f2) + ((rd_T51 t820 x7_2).f3))) = ji27 := (i64_w _).trans hji27
                                  by_cases c28 : ((rd_T51 t820 x7_2).f2) ≤ (ji27)
                                  · rw [if_pos c28] at H
                                    have c28b0 := eq_true c28
                                    have c28b1 : decide (((rd_T51 t820 x7_2).f2) ≤ (ji27)) = true := decide_eq_true c28
                                    clear c28
                                    by_cases c29 : (ji27) ≤ (t816.length : Int)
                                    · rw [if_pos c29] at H
                                      have c29b0 := eq_true c29
                                      have c29b1 : decide ((ji27) ≤ (t816.length : Int)) = true := decide_eq_true c29
                                      clear c29
                                      obtain ⟨y837, hy837⟩ : ∃ y_ : List Int, y_ = ((t816.take ((ji27) : Int).toNat).drop (((rd_T51 t820 x7_2).f2) : Int).toNat) := ⟨_, rfl⟩
                                      replace H : (if (strOfNums y837).toList = (strOfNums ((rd_T38 t813 x7_2).f2)).toList then (waybilllaw13_UnitPlaces.l0 k2 t813 t816 t820 (wrap64 (x7_2 + 1))) else (none)) = some r := by first | (rw [hy837]; with_reducible exact H) | (have H2_ := (Option.bind_some _ _).symm.trans H; rw [hy837]; with_reducible exact H2_) | (have H2_ := (Option.bind_some _ _).symm.trans H; with_reducible exact H2_) | with_reducible exact H | (rw [hy837]; exact H) | exact H
                                      have Ny837 := Aside0.mk hy837
                                      clear hy837
                                      by_cases c30 : (strOfNums y837).toList = (strOfNums ((rd_T38 t813 x7_2).f2)).toList
                                      · rw [if_pos c30] at H
                                        have c30b0 : ((strOfNums y837).toList == (strOfNums ((rd_T38 t813 x7_2).f2)).toList) = true := beq_iff_eq.mpr c30
                                        have c30b1 : ((strOfNums y837).toList != (strOfNums ((rd_T38 t813 x7_2).f2)).toList) = false := bne_eq_false_iff_eq.mpr c30
                                        clear c30
                                        have H' := Aside0.mk H
                                        clear H
                                        obtain ⟨Ao31, co31, eo31⟩ := Kd.R_slice HO_5.out
                                        subst eo31
                                        have p824 : 0 ≤ (x7_2 : Int) := of_decide_eq_true (by first | (with_reducible assumption) | assumption)
                                        have q824 : x7_2 < (t820.length : Int) := of_decide_eq_true (by first | (with_reducible assumption) | assumption)
                                        obtain ⟨ad824, e824, hx824_0, hx824_1, hx824_2, hx824_3⟩ := at_T51 (Kd.R_reads' HO_5.out).2.2 x7_2 p824 q824
                                        cases e824
                                        replace p824 := eq_true p824
                                        replace q824 := eq_true q824
                                        have p825 : 0 ≤ (x7_2 : Int) := of_decide_eq_true (by first | (with_reducible assumption) | assumption)
                                        have q825 : x7_2 < (t813.length : Int) := of_decide_eq_true (by first | (with_reducible assumption) | assumption)
                                        obtain ⟨ad825, A825_2, c825_2, e825, hx825_0, hx825_1, hx825_2, hl825_2, hi825_2⟩ := at_T38 (Kd.N_reads' HO_0.out).2.2 x7_2 p825 q825
                                        cases e825
                                        obtain ⟨ce825, hce825, hMe825, hcc825⟩ := Kd.N_get HO_0.out z38 x7_2 p825 (by first | exact q825 | exact of_decide_eq_true (by first | (with_reducible assumption) | assumption) | (have e_ := (Kd.N_reads' HO_0.out).1; omega))
                                        obtain ⟨ua825_2, uc825_2, rfl, ul825_2, ge825_2⟩ := k38_openF hMe825
                                        have hv825_2 := hcc825 2 _ rfl
                                        rw [add_field _ _ 2 (by omega)] at hv825_2
                                        replace hv825_2 := Option.some.inj (hv825_2.symm.trans hx825_2)
                                        injection hv825_2 with hva_ hvn_ hvc_
                                        rw [hva_] at ge825_2
                                        rw [hvc_] at ul825_2
                                        have HL825_2 := Aside0.mk (show Kd.V (Kd.int .u8) 5 _ w.heap.size _ _ ((rd_T38 t813 x7_2).f2) from Kd.V_mk ul825_2 ge825_2)
                                        clear hva_ hvn_ hvc_ ge825_2 ul825_2
                                        clear hcc825 hce825
                                        have HR825_2 := Aside0.mk hi825_2
                                        have HC825_2 := Aside0.mk hl825_2
                                        clear hi825_2 hl825_2
                                        replace p825 := eq_true p825
                                        replace q825 := eq_true q825
                                        have p826 : 0 ≤ (x7_2 : Int) := of_decide_eq_true (by first | (with_reducible assumption) | assumption)
                                        have q826 : x7_2 < (t820.length : Int) := of_decide_eq_true (by first | (with_reducible assumption) | assumption)
                                        obtain ⟨ad826, e826, hx826_0, hx826_1, hx826_2, hx826_3⟩ := at_T51 (Kd.R_reads' HO_5.out).2.2 x7_2 p826 q826
                                        obtain rfl : ad824 = ad826 := (by injection e826)
                                        replace p826 := eq_true p826
                                        replace q826 := eq_true q826
                                        have p827 : 0 ≤ (x7_2 : Int) := of_decide_eq_true (by first | (with_reducible assumption) | assumption)
                                        have q827 : x7_2 < (t813.length : Int) := of_decide_eq_true (by first | (with_reducible assumption) | assumption)
                                        obtain ⟨ad827, A827_2, c827_2, e827, hx827_0, hx827_1, hx827_2, hl827_2, hi827_2⟩ := at_T38 (Kd.N_reads' HO_0.out).2.2 x7_2 p827 q827
                                        obtain rfl : ad825 = ad827 := (by injection e827)
                                        obtain ⟨ce827, hce827, hMe827, hcc827⟩ := Kd.N_get HO_0.out z38 x7_2 p827 (by first | exact q827 | exact of_decide_eq_true (by first | (with_reducible assumption) | assumption) | (have e_ := (Kd.N_reads' HO_0.out).1; omega))
                                        obtain ⟨ua827_2, uc827_2, rfl, ul827_2, ge827_2⟩ := k38_openF hMe827
                                        have hv827_2 := hcc827 2 _ rfl
                                        rw [add_field _ _ 2 (by omega)] at hv827_2
                                        replace hv827_2 := Option.some.inj (hv827_2.symm.trans hx827_2)
                                        injection hv827_2 with hva_ hvn_ hvc_
                                        rw [hva_] at ge827_2
                                        rw [hvc_] at ul827_2
                                        have HL827_2 := Aside0.mk (show Kd.V (Kd.int .u8) 5 _ w.heap.size _ _ ((rd_T38 t813 x7_2).f2) from Kd.V_mk ul827_2 ge827_2)
                                        clear hva_ hvn_ hvc_ ge827_2 ul827_2
                                        clear hcc827 hce827
                                        have HR827_2 := Aside0.mk hi827_2
                                        have HC827_2 := Aside0.mk hl827_2
                                        clear hi827_2 hl827_2
                                        replace p827 := eq_true p827
                                        replace q827 := eq_true q827
                                        have ea_ := Option.some.inj (hx825_2.symm.trans hx827_2)
                                        injection ea_ with ea_ en_ ec_
                                        subst ea_
                                        subst ec_
                                        clear en_
                                        have p828 : 0 ≤ (x7_2 : Int) := of_decide_eq_true (by first | (with_reducible assumption) | assumption)
                                        have q828 : x7_2 < (t820.length : Int) := of_decide_eq_true (by first | (with_reducible assumption) | assumption)
                                        obtain ⟨ad828, e828, hx828_0, hx828_1, hx828_2, hx828_3⟩ := at_T51 (Kd.R_reads' HO_5.out).2.2 x7_2 p828 q828
                                        obtain rfl : ad824 = ad828 := (by injection e828)
                                        replace p828 := eq_true p828
                                        replace q828 := eq_true q828
                                        have p829 : 0 ≤ (x7_2 : Int) := of_decide_eq_true (by first | (with_reducible assumption) | assumption)
                                        have q829 : x7_2 < (t813.length : Int) := of_decide_eq_true (by first | (with_reducible assumption) | assumption)
                                        obtain ⟨ad829, A829_2, c829_2, e829, hx829_0, hx829_1, hx829_2, hl829_2, hi829_2⟩ := at_T38 (Kd.N_reads' HO_0.out).2.2 x7_2 p829 q829
                                        obtain rfl : ad825 = ad829 := (by injection e829)
                                        obtain ⟨ce829, hce829, hMe829, hcc829⟩ := Kd.N_get HO_0.out z38 x7_2 p829 (by first | exact q829 | exact of_decide_eq_true (by first | (with_reducible assumption) | assumption) | (have e_ := (Kd.N_reads' HO_0.out).1; omega))
                                        obtain ⟨ua829_2, uc829_2, rfl, ul829_2, ge829_2⟩ := k38_openF hMe829
                                        have hv829_2 := hcc829 2 _ rfl
                                        rw [add_field _ _ 2 (by omega)] at hv829_2
                                        replace hv829_2 := Option.some.inj (hv829_2.symm.trans hx829_2)
                                        injection hv829_2 with hva_ hvn_ hvc_
                                        rw [hva_] at ge829_2
                                        rw [hvc_] at ul829_2
                                        have HL829_2 := Aside0.mk (show Kd.V (Kd.int .u8) 5 _ w.heap.size _ _ ((rd_T38 t813 x7_2).f2) from Kd.V_mk ul829_2 ge829_2)
                                        clear hva_ hvn_ hvc_ ge829_2 ul829_2
                                        clear hcc829 hce829
                                        have HR829_2 := Aside0.mk hi829_2
                                        have HC829_2 := Aside0.mk hl829_2
                                        clear hi829_2 hl829_2
                                        replace p829 := eq_true p829
                                        replace q829 := eq_true q829
                                        have ea_ := Option.some.inj (hx825_2.symm.trans hx829_2)
                                        injection ea_ with ea_ en_ ec_
                                        subst ea_
                                        subst ec_
                                        clear en_
                                        have p830 : 0 ≤ (x7_2 : Int) := of_decide_eq_true (by first | (with_reducible assumption) | assumption)
                                        have q830 : x7_2 < (t820.length : Int) := of_decide_eq_true (by first | (with_reducible assumption) | assumption)
                                        obtain ⟨ad830, e830, hx830_0, hx830_1, hx830_2, hx830_3⟩ := at_T51 (Kd.R_reads' HO_5.out).2.2 x7_2 p830 q830
                                        obtain rfl : ad824 = ad830 := (by injection e830)
                                        replace p830 := eq_true p830
                                        replace q830 := eq_true q830
                                        have p831 : 0 ≤ (x7_2 : Int) := of_decide_eq_true (by first | (with_reducible assumption) | assumption)
                                        have q831 : x7_2 < (t820.length : Int) := of_decide_eq_true (by first | (with_reducible assumption) | assumption)
                                        obtain ⟨ad831, e831, hx831_0, hx831_1, hx831_2, hx831_3⟩ := at_T51 (Kd.R_reads' HO_5.out).2.2 x7_2 p831 q831
                                        obtain rfl : ad824 = ad831 := (by injection e831)
                                        replace p831 := eq_true p831
                                        replace q831 := eq_true q831
                                        have p832 : 0 ≤ (x7_2 : Int) := of_decide_eq_true (by first | (with_reducible assumption) | assumption)
                                        have q832 : x7_2 < (t820.length : Int) := of_decide_eq_true (by first | (with_reducible assumption) | assumption)
                                        obtain ⟨ad832, e832, hx832_0, hx832_1, hx832_2, hx832_3⟩ := at_T51 (Kd.R_reads' HO_5.out).2.2 x7_2 p832 q832
                                        obtain rfl : ad824 = ad832 := (by injection e832)
                                        replace p832 := eq_true p832
                                        replace q832 := eq_true q832
                                        have p833 : 0 ≤ (x7_2 : Int) := of_decide_eq_true (by first | (with_reducible assumption) | assumption)
                                        have q833 : x7_2 < (t820.length : Int) := of_decide_eq_true (by first | (with_reducible assumption) | assumption)
                                        obtain ⟨ad833, e833, hx833_0, hx833_1, hx833_2, hx833_3⟩ := at_T51 (Kd.R_reads' HO_5.out).2.2 x7_2 p833 q833
                                        obtain rfl : ad824 = ad833 := (by injection e833)
                                        replace p833 := eq_true p833
                                        replace q833 := eq_true q833
                                        have p834 : 0 ≤ (x7_2 : Int) := of_decide_eq_true (by first | (with_reducible assumption) | assumption)
                                        have q834 : x7_2 < (t820.length : Int) := of_decide_eq_true (by first | (with_reducible assumption) | assumption)
                                        obtain ⟨ad834, e834, hx834_0, hx834_1, hx834_2, hx834_3⟩ := at_T51 (Kd.R_reads' HO_5.out).2.2 x7_2 p834 q834
                                        obtain rfl : ad824 = ad834 := (by injection e834)
                                        replace p834 := eq_true p834
                                        replace q834 := eq_true q834
                                        have p835 : 0 ≤ (x7_2 : Int) := of_decide_eq_true (by first | (with_reducible assumption) | assumption)
                                        have q835 : x7_2 < (t820.length : Int) := of_decide_eq_true (by first | (with_reducible assumption) | assumption)
                                        obtain ⟨ad835, e835, hx835_0, hx835_1, hx835_2, hx835_3⟩ := at_T51 (Kd.R_reads' HO_5.out).2.2 x7_2 p835 q835
                                        obtain rfl : ad824 = ad835 := (by injection e835)
                                        replace p835 := eq_true p835
                                        replace q835 := eq_true q835
                                        have p836 : 0 ≤ (x7_2 : Int) := of_decide_eq_true (by first | (with_reducible assumption) | assumption)
                                        have q836 : x7_2 < (t820.length : Int) := of_decide_eq_true (by first | (with_reducible assumption) | assumption)
                                        obtain ⟨ad836, e836, hx836_0, hx836_1, hx836_2, hx836_3⟩ := at_T51 (Kd.R_reads' HO_5.out).2.2 x7_2 p836 q836
                                        obtain rfl : ad824 = ad836 := (by injection e836)
                                        replace p836 := eq_true p836
                                        replace q836 := eq_true q836
                                        have q32 : ((ji27) : Int) ≤ ((t816.length : Int) : Int) := of_decide_eq_true (by first | (with_reducible assumption) | assumption)
                                        obtain ⟨i032, hi032, _, hsz32, _⟩ := info_parts info5
                                        have hroom32 : t816.length ≤ co11 := (Kd.R_reads' HO_3.out).2.1
                                        have hC32 : Kd.F (Kd.int .u8) _ _ Ao11 t816.length t816 := (Kd.V_at (base := w.heap.size) (Kd.R_V (Kd.R_apart' (Kd.R_apart' (HO_3.out) (Kd.N_typed HO_0.out) (by decide)) (Kd.R_typed HO_5.out) (by decide)))).2.2
                                        have ql32 : (((rd_T51 t820 x7_2).f2) : Int) ≤ ((ji27) : Int) := of_decide_eq_true (by first | (with_reducible assumption) | assumption)
                                        have q032 : (0 : Int) ≤ (((rd_T51 t820 x7_2).f2) : Int) := of_decide_eq_true (by first | (with_reducible assumption) | assumption)
                                        have hcut32 := cut_mid (P := Try.prog) 26 5 .i64 .i64 Try.underlying26 hi032 1 hsz32 Ao11 t816.length co11 ((rd_T51 t820 x7_2).f2) (ji27) q032 ql32 q32 hroom32
                                        have hr32 := Kd.F_mid (lo := (((rd_T51 t820 x7_2).f2) : Int).toNat) (hi := ((ji27) : Int).toNat) (c := co11) hC32 (by (try clear hji27; try clear hji27w; omega)) (by (try clear hji27; try clear hji27w; omega)) hroom32
                                        obtain ⟨A32, hA32⟩ : ∃ A1, A1 = (if co11 = (((rd_T51 t820 x7_2).f2) : Int).toNat then Ao11 else (Ao11 : Option Addr).map (·.add ((((rd_T51 t820 x7_2).f2) : Int).toNat * 1))) := ⟨_, rfl⟩
                                        obtain ⟨c32, hc32⟩ : ∃ c1, c1 = co11 - (((rd_T51 t820 x7_2).f2) : Int).toNat := ⟨_, rfl⟩
                                        have hy32 : y837.length = ((ji27) : Int).toNat - (((rd_T51 t820 x7_2).f2) : Int).toNat := (by rw [Ny837.out, List.length_drop, List.length_take] <;> (try clear hji27; try clear hji27w; omega))
                                        rw [show ((t816).take ((ji27) : Int).toNat).drop (((rd_T51 t820 x7_2).f2) : Int).toNat = y837 from Ny837.out.symm] at hr32
                                        replace hr32 : Kd.F (Kd.int .u8) _ _ A32 y837.length y837 := (by rw [hA32]; exact hr32)
                                        rw [← hy32, ← hA32, ← hc32] at hcut32
                                        have HO841 := Aside0.mk (show Kd.V (Kd.int .u8) 5 _ w.heap.size _ (.slice A32 y837.length c32) y837 from Kd.V_mk (by rw [hy32, hc32]; exact Nat.sub_le_sub_right (Nat.le_trans (by (try clear hji27; try clear hji27w; omega)) hroom32) _) hr32)
                                        have HC841 := Aside0.mk (show y837.length ≤ c32 from by rw [hy32, hc32]; exact Nat.sub_le_sub_right (Nat.le_trans (by (try clear hji27; try clear hji27w; omega)) hroom32) _)
                                        clear hr32 hC32 hroom32 hi032 hsz32 hc32
                                        have KY32 := Aside0.mk hy32
                                        have KA32 := Aside0.mk hA32
                                        clear hy32 hA32
                                        replace q32 := eq_true q32
                                        have hcv33 := Kd.C_string (P := Try.prog) (A := A32) (c := c32) Try.underlying26 Try.underlying5 Try.underlying9 ((Kd.V_reads' (by exact HO841.out)).2.2)
                                        have hcv34 := fun m_ : Nat => Kd.C_string (P := Try.prog) (A := A32) (c := c32) Try.underlying26 Try.underlying5 Try.underlying9 ((Kd.V_reads' (Kd.V_drewN (by exact HO841.out) m_)).2.2)
                                        have p842 : 0 ≤ (x7_2 : Int) := of_decide_eq_true (by first | (with_reducible assumption) | assumption)
                                        have q842 : x7_2 < (t813.length : Int) := of_decide_eq_true (by first | (with_reducible assumption) | assumption)
                                        obtain ⟨ad842, A842_2, c842_2, e842, hx842_0, hx842_1, hx842_2, hl842_2, hi842_2⟩ := at_T38 (Kd.N_reads' HO_0.out).2.2 x7_2 p842 q842
                                        obtain rfl : ad825 = ad842 := (by injection e842)
                                        obtain ⟨ce842, hce842, hMe842, hcc842⟩ := Kd.N_get HO_0.out z38 x7_2 p842 (by first | exact q842 | exact of_decide_eq_true (by first | (with_reducible assumption) | assumption) | (have e_ := (Kd.N_reads' HO_0.out).1; omega))
                                        obtain ⟨ua842_2, uc842_2, rfl, ul842_2, ge842_2⟩ := k38_openF hMe842
                                        have hv842_2 := hcc842 2 _ rfl
                                        rw [add_field _ _ 2 (by omega)] at hv842_2
                                        replace hv842_2 := Option.some.inj (hv842_2.symm.trans hx842_2)
                                        injection hv842_2 with hva_ hvn_ hvc_
                                        rw [hva_] at ge842_2
                                        rw [hvc_] at ul842_2
                                        have HL842_2 := Aside0.mk (show Kd.V (Kd.int .u8) 5 _ w.heap.size _ _ ((rd_T38 t813 x7_2).f2) from Kd.V_mk ul842_2 ge842_2)
                                        clear hva_ hvn_ hvc_ ge842_2 ul842_2
                                        clear hcc842 hce842
                                        have HR842_2 := Aside0.mk hi842_2
                                        have HC842_2 := Aside0.mk hl842_2
                                        clear hi842_2 hl842_2
                                        replace p842 := eq_true p842
                                        replace q842 := eq_true q842
                                        have ea_ := Option.some.inj (hx825_2.symm.trans hx842_2)
                                        injection ea_ with ea_ en_ ec_
                                        subst ea_
                                        subst ec_
                                        clear en_
                                        have hcv35 := Kd.C_string (P := Try.prog) (A := A825_2) (c := c825_2) Try.underlying26 Try.underlying5 Try.underlying9 (by repeat (first | (with_reducible exact HR842_2.out) | (with_reducible refine Kd.C_alloc ?_ _) | (with_reducible refine Kd.C_drewN ?_ _) | (with_reducible refine Kd.C_drew ?_) | exact HR842_2.out))
                                        have hcv36 := fun m_ : Nat => Kd.C_string (P := Try.prog) (A := A825_2) (c := c825_2) Try.underlying26 Try.underlying5 Try.underlying9 (Kd.C_drewN ((by repeat (first | (with_reducible exact HR842_2.out) | (with_reducible refine Kd.C_alloc ?_ _) | (with_reducible refine Kd.C_drewN ?_ _) | (with_reducible refine Kd.C_drew ?_) | exact HR842_2.out))) m_)
                                        go_wp2
                                        refine QTab.wp_region_quiet_tab (by kernel_rfl) (by kernel_rfl) (by kernel_rfl) ?_
                                        repeat (go_big_quiet_step (fail))
                                        refine wpQuiet_nil ?_
                                        intro _ hw'
                                        obtain ⟨nq, hw''⟩ := hw'
                                        subst hw''
                                        try go_wp2
                                        repeat (go_quiet (fail); try go_wp2)
                                        go_roundg k2
                                        case measure => have := HJ6.out; have := HK2.out; (try clear hji27; try clear hji27w; omega)
                                        case rel => exact ⟨(wrap64 (x7_2 + 1)), (by first | rfl | (simp; done) | (simp [*]; done)), H', ⟨by have := HJ6.out; have := HK2.out; (try clear hji27; try clear hji27w; omega)⟩, ⟨by (with_reducible repeat (first | apply Kd.N_alloc | apply Kd.N_drewN | apply Kd.N_drew)); exact HO_0.out⟩, ⟨by (with_reducible repeat (first | apply Kd.R_alloc | apply Kd.R_drewN | apply Kd.R_drew)); exact HO_3.out⟩, ⟨by (with_reducible repeat (first | apply Kd.R_alloc | apply Kd.R_drewN | apply Kd.R_drew)); exact HO_5.out⟩, ⟨by repeat (first | (with_reducible first | exact HB.out | apply below_alloc | apply pw_below_drewN | apply below_drew1) | exact HB.out)⟩⟩
                                      · rw [if_neg c30] at H
                                        exact absurd H (by simp)
                                    · rw [if_neg c29] at H
                                      exact absurd H (by simp)
                                  · rw [if_neg c28] at H
                                    exact absurd H (by simp)
                                · rw [if_neg c26] at H
                                  exact absurd H (by simp)
                        · rw [if_neg c22] at H
                          exact absurd H (by simp)
                    · rw [if_neg c20] at H
                      exact absurd H (by simp)
                  · rw [if_neg c19] at H
                    exact absurd H (by simp)
                · rw [if_neg c18] at H
                  exact absurd H (by simp)
              · rw [if_neg c17] at H
                have c17b0 : decide (x7_2 < (t813.length : Int)) = false := decide_eq_false c17
                clear c17
                replace H := Option.bind_eq_some_iff.mp H
                obtain ⟨t843, A370, H⟩ := H
                replace H : (some t843) = some r := H
                have A37 := Aside0.mk A370
                clear A370
                obtain rfl := Option.some.inj H
                go_wp2_with (first | (go_at_call 21; (with_reducible refine (waybilllaw13_awake.calls k2  t843 _ A37.out).mono ?_); rintro e w38 ⟨rfl, hb⟩; have n0_ := Aside0.mk (Kd.N_below (by (with_reducible repeat (first | apply Kd.N_alloc | apply Kd.N_drewN | apply Kd.N_drew)); exact HO_0.out) hb); have n1_ := Aside0.mk (Kd.R_below (by (with_reducible repeat (first | apply Kd.R_alloc | apply Kd.R_drewN | apply Kd.R_drew)); exact HO_3.out) hb); have n2_ := Aside0.mk (Kd.R_below (by (with_reducible repeat (first | apply Kd.R_alloc | apply Kd.R_drewN | apply Kd.R_drew)); exact HO_5.out) hb); have n3_ := Aside0.mk (below_step (by repeat (first | (with_reducible first | exact HB.out | apply below_alloc | apply pw_below_drewN | apply below_drew1) | exact HB.out)) hb); clear HO_0; clear HO_3; clear HO_5; clear HB; have HO_0 := n0_; have HO_3 := n1_; have HO_5 := n2_; have HB := n3_; clear n0_ n1_ n2_ n3_; (try clear hb); (try clear hb2); (try clear hk); (try clear hi); (try clear hge)))
                repeat (go_quiet (first | (go_at_call 21; (with_reducible refine (waybilllaw13_awake.calls k2  t843 _ A37.out).mono ?_); rintro e w38 ⟨rfl, hb⟩; have n0_ := Aside0.mk (Kd.N_below (by (with_reducible repeat (first | apply Kd.N_alloc | apply Kd.N_drewN | apply Kd.N_drew)); exact HO_0.out) hb); have n1_ := Aside0.mk (Kd.R_below (by (with_reducible repeat (first | apply Kd.R_alloc | apply Kd.R_drewN | apply Kd.R_drew)); exact HO_3.out) hb); have n2_ := Aside0.mk (Kd.R_below (by (with_reducible repeat (first | apply Kd.R_alloc | apply Kd.R_drewN | apply Kd.R_drew)); exact HO_5.out) hb); have n3_ := Aside0.mk (below_step (by repeat (first | (with_reducible first | exact HB.out | apply below_alloc | apply pw_below_drewN | apply below_drew1) | exact HB.out)) hb); clear HO_0; clear HO_3; clear HO_5; clear HB; have HO_0 := n0_; have HO_3 := n1_; have HO_5 := n2_; have HB := n3_; clear n0_ n1_ n2_ n3_; (try clear hb); (try clear hb2); (try clear hk); (try clear hi); (try clear hge))); try go_wp2_with (first | (go_at_call 21; (with_reducible refine (waybilllaw13_awake.calls k2  t843 _ A37.out).mono ?_); rintro e w38 ⟨rfl, hb⟩; have n0_ := Aside0.mk (Kd.N_below (by (with_reducible repeat (first | apply Kd.N_alloc | apply Kd.N_drewN | apply Kd.N_drew)); exact HO_0.out) hb); have n1_ := Aside0.mk (Kd.R_below (by (with_reducible repeat (first | apply Kd.R_alloc | apply Kd.R_drewN | apply Kd.R_drew)); exact HO_3.out) hb); have n2_ := Aside0.mk (Kd.R_below (by (with_reducible repeat (first | apply Kd.R_alloc | apply Kd.R_drewN | apply Kd.R_drew)); exact HO_5.out) hb); have n3_ := Aside0.mk (below_step (by repeat (first | (with_reducible first | exact HB.out | apply below_alloc | apply pw_below_drewN | apply below_drew1) | exact HB.out)) hb); clear HO_0; clear HO_3; clear HO_5; clear HB; have HO_0 := n0_; have HO_3 := n1_; have HO_5 := n2_; have HB := n3_; clear n0_ n1_ n2_ n3_; (try clear hb); (try clear hb2); (try clear hk); (try clear hi); (try clear hge))))
                all_goals first | (go_ret; exact ⟨by first | rfl | (simp [errW_none, errW_some]; done) | (simp [errW_none, errW_some]; rfl) | (simp [*, errW_none, errW_some]; done) | (simp [*, errW_none, errW_some]; rfl), by repeat (first | (with_reducible first | exact HB.out | apply below_alloc | apply pw_below_drewN | apply below_drew1) | exact HB.out)⟩) | (exfalso; simp_all; done)
  · replace c3 := Bool.eq_false_iff.mpr c3
    subst c3
    have H1 : ((waybilllaw13_awake.f k).bind fun t812 => (some t812)) = some r := by rw [if_neg (show ¬ (false = true) by decide)] at H; exact H
    clear H
    have H := H1
    clear H1
    replace H := Option.bind_eq_some_iff.mp H
    obtain ⟨t812, A390, H⟩ := H
    replace H : (some t812) = some r := H
    have A39 := Aside0.mk A390
    clear A390
    obtain rfl := Option.some.inj H
    go_enter Try.func7, Try.ntmps7
    go_wp2_with (first | (go_at_call 22; (with_reducible refine (waybilllaw13_Small.calls k _ _ l0 false _ ?side1 ?side2 A2.out).mono ?_); (case side1 => repeat (first | exact HR0.out | (with_reducible refine Kd.C_alloc ?_ _) | (with_reducible refine Kd.C_drewN ?_ _) | (with_reducible refine Kd.C_drew ?_))); (case side2 => exact HC0.out); rintro e w' ⟨rfl, ⟨nd, rfl⟩⟩; (try first | exact ⟨rfl, _, World.drewN_drewN _ _ _⟩ | exact ⟨rfl, _, Eq.trans (World.drewN_drewN _ _ _) (congrArg (World.drewN _) (Nat.add_assoc _ _ _))⟩)) | (go_at_call 21; (with_reducible refine (waybilllaw13_awake.calls k  t812 _ A39.out).mono ?_); rintro e w40 ⟨rfl, hb⟩; have n0_ := Aside0.mk (below_step (by repeat (first | (with_reducible first | exact HB.out | apply below_alloc | apply pw_below_drewN | apply below_drew1) | exact HB.out)) hb); clear HB; have HB := n0_; clear n0_; (try clear hb); (try clear hb2); (try clear hk); (try clear hi); (try clear hge)))
    repeat (go_quiet (first | (go_at_call 22; (with_reducible refine (waybilllaw13_Small.calls k _ _ l0 false _ ?side1 ?side2 A2.out).mono ?_); (case side1 => repeat (first | exact HR0.out | (with_reducible refine Kd.C_alloc ?_ _) | (with_reducible refine Kd.C_drewN ?_ _) | (with_reducible refine Kd.C_drew ?_))); (case side2 => exact HC0.out); rintro e w' ⟨rfl, ⟨nd, rfl⟩⟩; (try first | exact ⟨rfl, _, World.drewN_drewN _ _ _⟩ | exact ⟨rfl, _, Eq.trans (World.drewN_drewN _ _ _) (congrArg (World.drewN _) (Nat.add_assoc _ _ _))⟩)) | (go_at_call 21; (with_reducible refine (waybilllaw13_awake.calls k  t812 _ A39.out).mono ?_); rintro e w40 ⟨rfl, hb⟩; have n0_ := Aside0.mk (below_step (by repeat (first | (with_reducible first | exact HB.out | apply below_alloc | apply pw_below_drewN | apply below_drew1) | exact HB.out)) hb); clear HB; have HB := n0_; clear n0_; (try clear hb); (try clear hb2); (try clear hk); (try clear hi); (try clear hge))); try go_wp2_with (first | (go_at_call 22; (with_reducible refine (waybilllaw13_Small.calls k _ _ l0 false _ ?side1 ?side2 A2.out).mono ?_); (case side1 => repeat (first | exact HR0.out | (with_reducible refine Kd.C_alloc ?_ _) | (with_reducible refine Kd.C_drewN ?_ _) | (with_reducible refine Kd.C_drew ?_))); (case side2 => exact HC0.out); rintro e w' ⟨rfl, ⟨nd, rfl⟩⟩; (try first | exact ⟨rfl, _, World.drewN_drewN _ _ _⟩ | exact ⟨rfl, _, Eq.trans (World.drewN_drewN _ _ _) (congrArg (World.drewN _) (Nat.add_assoc _ _ _))⟩)) | (go_at_call 21; (with_reducible refine (waybilllaw13_awake.calls k  t812 _ A39.out).mono ?_); rintro e w40 ⟨rfl, hb⟩; have n0_ := Aside0.mk (below_step (by repeat (first | (with_reducible first | exact HB.out | apply below_alloc | apply pw_below_drewN | apply below_drew1) | exact HB.out)) hb); clear HB; have HB := n0_; clear n0_; (try clear hb); (try clear hb2); (try clear hk); (try clear hi); (try clear hge))))
    all_goals first | (go_ret; exact ⟨by first | rfl | (simp [errW_none, errW_some]; done) | (simp [errW_none, errW_some]; rfl) | (simp [*, errW_none, errW_some]; done) | (simp [*, errW_none, errW_some]; rfl), by repeat (first | (with_reducible first | exact HB.out | apply below_alloc | apply pw_below_drewN | apply below_drew1) | exact HB.out)⟩) | (exfalso; simp_all; done)

end Go.Proofs.Ytpjkaodbcclecaa.PA
