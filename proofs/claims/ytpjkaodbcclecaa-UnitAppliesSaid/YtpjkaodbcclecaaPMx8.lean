/- What functions of the given program come to, and that they do: written out of the translation by a program of this session; Lean checks it. -/
import Derived.Test.YtpjkaodbcclecaaZWords
import Derived.Test.YtpjkaodbcclecaaPMx0
import Derived.Test.YtpjkaodbcclecaaPMx1
import Derived.Test.YtpjkaodbcclecaaPMx3
import Derived.Test.YtpjkaodbcclecaaPMx5
import Derived.Test.YtpjkaodbcclecaaPMx6
import Derived.Test.YtpjkaodbcclecaaPMx7
namespace Go.Proofs.Ytpjkaodbcclecaa.PM
open Go.RowKit Go.Proofs.YtpjkaodbcclecaaW.PrintWords Go.Proofs.YtpjkaodbcclecaaW.PrintLast Go.Proofs.YtpjkaodbcclecaaW.PrintMore
attribute [local go_sem] max2_int min2_int max_two min_two max_three min_three max_four min_four   -- for this text's walks alone
set_option linter.unusedVariables false
set_option linter.unusedSimpArgs false

attribute [local go_sem high] eqA51
/-! ### waybilllaw13_awake: function 21 -/
def waybilllaw13_awake.f (k : Nat)  : Option (Bool) := (some (([(⟨(⟨#[97]⟩ : ByteArray), false, (([120] : List Int))⟩ : S38), (⟨(⟨#[98]⟩ : ByteArray), true, ([] : List Int)⟩ : S38)] : List (S38)) : List (S38))).bind fun y203 => ((unit_Append.f k y203).bind fun bt206 => ((unit_Parse.f k bt206.1).bind fun bt210 => ((unit_Places.f k bt206.1).bind fun bt214 => ((unit_Parse.f k (([9] : List Int))).bind fun bt221 => (if bt206.2 = true then (if bt210.2 = true then (if bt214.2 = true then ((waybillref16_SameOps.f k y203 bt210.1).bind fun t225 => (if t225 = true then (if (bt214.1.length : Int) = 2 then (if 0 < (bt214.1.length : Int) then (if ((((rd_T51 bt214.1 0).f0).toList) == ([97] : List UInt8) && (!((rd_T51 bt214.1 0).f1) && (((rd_T51 bt214.1 0).f2) == 7 && (((rd_T51 bt214.1 0).f3) == 1)))) = true then (if 1 < (bt214.1.length : Int) then (if ((((rd_T51 bt214.1 1).f0).toList) == ([98] : List UInt8) && (((rd_T51 bt214.1 1).f1) && (((rd_T51 bt214.1 1).f2) == 0 && (((rd_T51 bt214.1 1).f3) == 0)))) = true then (some (!bt221.2)) else (none)) else (none)) else (none)) else (none)) else (none)) else (none))) else (none)) else (none)) else (none))))))
theorem waybilllaw13_awake.mono : ∀ k, LeO (waybilllaw13_awake.f k ) (waybilllaw13_awake.f (k + 1) ) := by
 intro  k
 unfold waybilllaw13_awake.f
 repeat' first
   | (with_reducible exact unit_Append.mono _ _)
   | (with_reducible exact unit_Parse.mono _ _)
   | (with_reducible exact unit_Places.mono _ _)
   | (with_reducible exact waybillref16_SameOps.mono _ _ _)
   | (with_reducible exact LeO.refl _)
   | (with_reducible exact LeO.none _)
   | (with_reducible refine LeO.ite ?_ ?_)
   | (with_reducible refine LeO.bind ?_ (fun _ => ?_))
   | exact unit_Append.mono _ _
   | exact unit_Parse.mono _ _
   | exact unit_Places.mono _ _
   | exact waybillref16_SameOps.mono _ _ _
   | exact LeO.none _
   | refine LeO.ite ?_ ?_
   | refine LeO.bind ?_ (fun _ => ?_)
set_option maxHeartbeats 8000000 in
set_option maxRecDepth 100000 in
theorem waybilllaw13_awake.calls (k : Nat)  (r : Bool) (w : World) (h : waybilllaw13_awake.f k  = some r) :
  Calls Try.prog 21 #[] w fun e w' => e = .returned (.bool r) ∧ Below w.heap.size w w' := by
 have hu38 := Try.underlying38
 have hu51 := Try.underlying51
 have HB := Aside0.mk (Below.refl w.heap.size w)
 have H : ((some (([(⟨(⟨#[97]⟩ : ByteArray), false, (([120] : List Int))⟩ : S38), (⟨(⟨#[98]⟩ : ByteArray), true, ([] : List Int)⟩ : S38)] : List (S38)) : List (S38))).bind fun y203 => ((unit_Append.f k y203).bind fun bt206 => ((unit_Parse.f k bt206.1).bind fun bt210 => ((unit_Places.f k bt206.1).bind fun bt214 => ((unit_Parse.f k (([9] : List Int))).bind fun bt221 => (if bt206.2 = true then (if bt210.2 = true then (if bt214.2 = true then ((waybillref16_SameOps.f k y203 bt210.1).bind fun t225 => (if t225 = true then (if (bt214.1.length : Int) = 2 then (if 0 < (bt214.1.length : Int) then (if ((((rd_T51 bt214.1 0).f0).toList) == ([97] : List UInt8) && (!((rd_T51 bt214.1 0).f1) && (((rd_T51 bt214.1 0).f2) == 7 && (((rd_T51 bt214.1 0).f3) == 1)))) = true then (if 1 < (bt214.1.length : Int) then (if ((((rd_T51 bt214.1 1).f0).toList) == ([98] : List UInt8) && (((rd_T51 bt214.1 1).f1) && (((rd_T51 bt214.1 1).f2) == 0 && (((rd_T51 bt214.1 1).f3) == 0)))) = true then (some (!bt221.2)) else (none)) else (none)) else (none)) else (none)) else (none)) else (none))) else (none)) else (none)) else (none))))))) = some r := h
 clear h
 obtain ⟨y200, hy200⟩ : ∃ y_ : List Int, y_ = (([120] : List Int)) := ⟨_, rfl⟩
 replace H : ((some (([(⟨(⟨#[97]⟩ : ByteArray), false, y200⟩ : S38), (⟨(⟨#[98]⟩ : ByteArray), true, ([] : List Int)⟩ : S38)] : List (S38)) : List (S38))).bind fun y203 => ((unit_Append.f k y203).bind fun bt206 => ((unit_Parse.f k bt206.1).bind fun bt210 => ((unit_Places.f k bt206.1).bind fun bt214 => ((unit_Parse.f k (([9] : List Int))).bind fun bt221 => (if bt206.2 = true then (if bt210.2 = true then (if bt214.2 = true then ((waybillref16_SameOps.f k y203 bt210.1).bind fun t225 => (if t225 = true then (if (bt214.1.length : Int) = 2 then (if 0 < (bt214.1.length : Int) then (if ((((rd_T51 bt214.1 0).f0).toList) == ([97] : List UInt8) && (!((rd_T51 bt214.1 0).f1) && (((rd_T51 bt214.1 0).f2) == 7 && (((rd_T51 bt214.1 0).f3) == 1)))) = true then (if 1 < (bt214.1.length : Int) then (if ((((rd_T51 bt214.1 1).f0).toList) == ([98] : List UInt8) && (((rd_T51 bt214.1 1).f1) && (((rd_T51 bt214.1 1).f2) == 0 && (((rd_T51 bt214.1 1).f3) == 0)))) = true then (some (!bt221.2)) else (none)) else (none)) else (none)) else (none)) else (none)) else (none))) else (none)) else (none)) else (none))))))) = some r := by first | (rw [hy200]; with_reducible exact H) | (have H2_ := (Option.bind_some _ _).symm.trans H; rw [hy200]; with_reducible exact H2_) | (have H2_ := (Option.bind_some _ _).symm.trans H; with_reducible exact H2_) | with_reducible exact H | (rw [hy200]; exact H) | exact H
 have Ny200 := Aside0.mk hy200
 clear hy200
 obtain ⟨y203, hy203⟩ : ∃ y_ : List (S38), y_ = (([(⟨(⟨#[97]⟩ : ByteArray), false, y200⟩ : S38), (⟨(⟨#[98]⟩ : ByteArray), true, ([] : List Int)⟩ : S38)] : List (S38))) := ⟨_, rfl⟩
 replace H : ((unit_Append.f k y203).bind fun bt206 => ((unit_Parse.f k bt206.1).bind fun bt210 => ((unit_Places.f k bt206.1).bind fun bt214 => ((unit_Parse.f k (([9] : List Int))).bind fun bt221 => (if bt206.2 = true then (if bt210.2 = true then (if bt214.2 = true then ((waybillref16_SameOps.f k y203 bt210.1).bind fun t225 => (if t225 = true then (if (bt214.1.length : Int) = 2 then (if 0 < (bt214.1.length : Int) then (if ((((rd_T51 bt214.1 0).f0).toList) == ([97] : List UInt8) && (!((rd_T51 bt214.1 0).f1) && (((rd_T51 bt214.1 0).f2) == 7 && (((rd_T51 bt214.1 0).f3) == 1)))) = true then (if 1 < (bt214.1.length : Int) then (if ((((rd_T51 bt214.1 1).f0).toList) == ([98] : List UInt8) && (((rd_T51 bt214.1 1).f1) && (((rd_T51 bt214.1 1).f2) == 0 && (((rd_T51 bt214.1 1).f3) == 0)))) = true then (some (!bt221.2)) else (none)) else (none)) else (none)) else (none)) else (none)) else (none))) else (none)) else (none)) else (none)))))) = some r := by first | (rw [hy203]; with_reducible exact H) | (have H2_ := (Option.bind_some _ _).symm.trans H; rw [hy203]; with_reducible exact H2_) | (have H2_ := (Option.bind_some _ _).symm.trans H; with_reducible exact H2_) | with_reducible exact H | (rw [hy203]; exact H) | exact H
 have Ny203 := Aside0.mk hy203
 clear hy203
 replace H := Option.bind_eq_some_iff.mp H
 obtain ⟨⟨t206, t207⟩, A10, H⟩ := H
 replace H : ((unit_Parse.f k t206).bind fun bt210 => ((unit_Places.f k t206).bind fun bt214 => ((unit_Parse.f k (([9] : List Int))).bind fun bt221 => (if t207 = true then (if bt210.2 = true then (if bt214.2 = true then ((waybillref16_SameOps.f k y203 bt210.1).bind fun t225 => (if t225 = true then (if (bt214.1.length : Int) = 2 then (if 0 < (bt214.1.length : Int) then (if ((((rd_T51 bt214.1 0).f0).toList) == ([97] : List UInt8) && (!((rd_T51 bt214.1 0).f1) && (((rd_T51 bt214.1 0).f2) == 7 && (((rd_T51 bt214.1 0).f3) == 1)))) = true then (if 1 < (bt214.1.length : Int) then (if ((((rd_T51 bt214.1 1).f0).toList) == ([98] : List UInt8) && (((rd_T51 bt214.1 1).f1) && (((rd_T51 bt214.1 1).f2) == 0 && (((rd_T51 bt214.1 1).f3) == 0)))) = true then (some (!bt221.2)) else (none)) else (none)) else (none)) else (none)) else (none)) else (none))) else (none)) else (none)) else (none))))) = some r := H
 have A1 := Aside0.mk A10
 clear A10
 replace H := Option.bind_eq_some_iff.mp H
 obtain ⟨⟨t210, t211⟩, A20, H⟩ := H
 replace H : ((unit_Places.f k t206).bind fun bt214 => ((unit_Parse.f k (([9] : List Int))).bind fun bt221 => (if t207 = true then (if t211 = true then (if bt214.2 = true then ((waybillref16_SameOps.f k y203 t210).bind fun t225 => (if t225 = true then (if (bt214.1.length : Int) = 2 then (if 0 < (bt214.1.length : Int) then (if ((((rd_T51 bt214.1 0).f0).toList) == ([97] : List UInt8) && (!((rd_T51 bt214.1 0).f1) && (((rd_T51 bt214.1 0).f2) == 7 && (((rd_T51 bt214.1 0).f3) == 1)))) = true then (if 1 < (bt214.1.length : Int) then (if ((((rd_T51 bt214.1 1).f0).toList) == ([98] : List UInt8) && (((rd_T51 bt214.1 1).f1) && (((rd_T51 bt214.1 1).f2) == 0 && (((rd_T51 bt214.1 1).f3) == 0)))) = true then (some (!bt221.2)) else (none)) else (none)) else (none)) else (none)) else (none)) else (none))) else (none)) else (none)) else (none)))) = some r := H
 have A2 := Aside0.mk A20
 clear A20
 replace H := Option.bind_eq_some_iff.mp H
 obtain ⟨⟨t214, t215⟩, A30, H⟩ := H
 replace H : ((unit_Parse.f k (([9] : List Int))).bind fun bt221 => (if t207 = true then (if t211 = true then (if t215 = true then ((waybillref16_SameOps.f k y203 t210).bind fun t225 => (if t225 = true then (if (t214.length : Int) = 2 then (if 0 < (t214.length : Int) then (if ((((rd_T51 t214 0).f0).toList) == ([97] : List UInt8) && (!((rd_T51 t214 0).f1) && (((rd_T51 t214 0).f2) == 7 && (((rd_T51 t214 0).f3) == 1)))) = true then (if 1 < (t214.length : Int) then (if ((((rd_T51 t214 1).f0).toList) == ([98] : List UInt8) && (((rd_T51 t214 1).f1) && (((rd_T51 t214 1).f2) == 0 && (((rd_T51 t214 1).f3) == 0)))) = true then (some (!bt221.2)) else (none)) else (none)) else (none)) else (none)) else (none)) else (none))) else (none)) else (none)) else (none))) = some r := H
 have A3 := Aside0.mk A30
 clear A30
 obtain ⟨y218, hy218⟩ : ∃ y_ : List Int, y_ = (([9] : List Int)) := ⟨_, rfl⟩
 replace H : ((unit_Parse.f k y218).bind fun bt221 => (if t207 = true then (if t211 = true then (if t215 = true then ((waybillref16_SameOps.f k y203 t210).bind fun t225 => (if t225 = true then (if (t214.length : Int) = 2 then (if 0 < (t214.length : Int) then (if ((((rd_T51 t214 0).f0).toList) == ([97] : List UInt8) && (!((rd_T51 t214 0).f1) && (((rd_T51 t214 0).f2) == 7 && (((rd_T51 t214 0).f3) == 1)))) = true then (if 1 < (t214.length : Int) then (if ((((rd_T51 t214 1).f0).toList) == ([98] : List UInt8) && (((rd_T51 t214 1).f1) && (((rd_T51 t214 1).f2) == 0 && (((rd_T51 t214 1).f3) == 0)))) = true then (some (!bt221.2)) else (none)) else (none)) else (none)) else (none)) else (none)) else (none))) else (none)) else (none)) else (none))) = some r := by first | (rw [hy218]; with_reducible exact H) | (have H2_ := (Option.bind_some _ _).symm.trans H; rw [hy218]; with_reducible exact H2_) | (have H2_ := (Option.bind_some _ _).symm.trans H; with_reducible exact H2_) | with_reducible exact H | (rw [hy218]; exact H) | exact H
 have Ny218 := Aside0.mk hy218
 clear hy218
 replace H := Option.bind_eq_some_iff.mp H
 obtain ⟨⟨t221, t222⟩, A40, H⟩ := H
 replace H : (if t207 = true then (if t211 = true then (if t215 = true then ((waybillref16_SameOps.f k y203 t210).bind fun t225 => (if t225 = true then (if (t214.length : Int) = 2 then (if 0 < (t214.length : Int) then (if ((((rd_T51 t214 0).f0).toList) == ([97] : List UInt8) && (!((rd_T51 t214 0).f1) && (((rd_T51 t214 0).f2) == 7 && (((rd_T51 t214 0).f3) == 1)))) = true then (if 1 < (t214.length : Int) then (if ((((rd_T51 t214 1).f0).toList) == ([98] : List UInt8) && (((rd_T51 t214 1).f1) && (((rd_T51 t214 1).f2) == 0 && (((rd_T51 t214 1).f3) == 0)))) = true then (some (!t222)) else (none)) else (none)) else (none)) else (none)) else (none)) else (none))) else (none)) else (none)) else (none)) = some r := H
 have A4 := Aside0.mk A40
 clear A40
 by_cases c5 : t207 = true
 ·
  subst c5
  have H1 : (if t211 = true then (if t215 = true then ((waybillref16_SameOps.f k y203 t210).bind fun t225 => (if t225 = true then (if (t214.length : Int) = 2 then (if 0 < (t214.length : Int) then (if ((((rd_T51 t214 0).f0).toList) == ([97] : List UInt8) && (!((rd_T51 t214 0).f1) && (((rd_T51 t214 0).f2) == 7 && (((rd_T51 t214 0).f3) == 1)))) = true then (if 1 < (t214.length : Int) then (if ((((rd_T51 t214 1).f0).toList) == ([98] : List UInt8) && (((rd_T51 t214 1).f1) && (((rd_T51 t214 1).f2) == 0 && (((rd_T51 t214 1).f3) == 0)))) = true then (some (!t222)) else (none)) else (none)) else (none)) else (none)) else (none)) else (none))) else (none)) else (none)) = some r := by rw [if_pos rfl] at H; exact H
  clear H
  have H := H1
  clear H1
  by_cases c6 : t211 = true
  ·
   subst c6
   have H1 : (if t215 = true then ((waybillref16_SameOps.f k y203 t210).bind fun t225 => (if t225 = true then (if (t214.length : Int) = 2 then (if 0 < (t214.length : Int) then (if ((((rd_T51 t214 0).f0).toList) == ([97] : List UInt8) && (!((rd_T51 t214 0).f1) && (((rd_T51 t214 0).f2) == 7 && (((rd_T51 t214 0).f3) == 1)))) = true then (if 1 < (t214.length : Int) then (if ((((rd_T51 t214 1).f0).toList) == ([98] : List UInt8) && (((rd_T51 t214 1).f1) && (((rd_T51 t214 1).f2) == 0 && (((rd_T51 t214 1).f3) == 0)))) = true then (some (!t222)) else (none)) else (none)) else (none)) else (none)) else (none)) else (none))) else (none)) = some r := by rw [if_pos rfl] at H; exact H
   clear H
   have H := H1
   clear H1
   by_cases c7 : t215 = true
   ·
    subst c7
    have H1 : ((waybillref16_SameOps.f k y203 t210).bind fun t225 => (if t225 = true then (if (t214.length : Int) = 2 then (if 0 < (t214.length : Int) then (if ((((rd_T51 t214 0).f0).toList) == ([97] : List UInt8) && (!((rd_T51 t214 0).f1) && (((rd_T51 t214 0).f2) == 7 && (((rd_T51 t214 0).f3) == 1)))) = true then (if 1 < (t214.length : Int) then (if ((((rd_T51 t214 1).f0).toList) == ([98] : List UInt8) && (((rd_T51 t214 1).f1) && (((rd_T51 t214 1).f2) == 0 && (((rd_T51 t214 1).f3) == 0)))) = true then (some (!t222)) else (none)) else (none)) else (none)) else (none)) else (none)) else (none))) = some r := by rw [if_pos rfl] at H; exact H
    clear H
    have H := H1
    clear H1
    replace H := Option.bind_eq_some_iff.mp H
    obtain ⟨t225, A80, H⟩ := H
    replace H : (if t225 = true then (if (t214.length : Int) = 2 then (if 0 < (t214.length : Int) then (if ((((rd_T51 t214 0).f0).toList) == ([97] : List UInt8) && (!((rd_T51 t214 0).f1) && (((rd_T51 t214 0).f2) == 7 && (((rd_T51 t214 0).f3) == 1)))) = true then (if 1 < (t214.length : Int) then (if ((((rd_T51 t214 1).f0).toList) == ([98] : List UInt8) && (((rd_T51 t214 1).f1) && (((rd_T51 t214 1).f2) == 0 && (((rd_T51 t214 1).f3) == 0)))) = true then (some (!t222)) else (none)) else (none)) else (none)) else (none)) else (none)) else (none)) = some r := H
    have A8 := Aside0.mk A80
    clear A80
    by_cases c9 : t225 = true
    ·
     subst c9
     have H1 : (if (t214.length : Int) = 2 then (if 0 < (t214.length : Int) then (if ((((rd_T51 t214 0).f0).toList) == ([97] : List UInt8) && (!((rd_T51 t214 0).f1) && (((rd_T51 t214 0).f2) == 7 && (((rd_T51 t214 0).f3) == 1)))) = true then (if 1 < (t214.length : Int) then (if ((((rd_T51 t214 1).f0).toList) == ([98] : List UInt8) && (((rd_T51 t214 1).f1) && (((rd_T51 t214 1).f2) == 0 && (((rd_T51 t214 1).f3) == 0)))) = true then (some (!t222)) else (none)) else (none)) else (none)) else (none)) else (none)) = some r := by rw [if_pos rfl] at H; exact H
     clear H
     have H := H1
     clear H1
     by_cases c10 : (t214.length : Int) = 2
     ·
      rw [if_pos c10] at H
      have c10b0 : ((t214.length : Int) == 2) = true := beq_iff_eq.mpr c10
      have c10b1 : ((t214.length : Int) != 2) = false := bne_eq_false_iff_eq.mpr c10
      clear c10
      by_cases c11 : 0 < (t214.length : Int)
      ·
       rw [if_pos c11] at H
       have c11b0 : decide (0 < (t214.length : Int)) = true := decide_eq_true c11
       have c11b1 : decide (0 < t214.length) = true := decide_eq_true (by omega)
       clear c11
       by_cases c12 : ((((rd_T51 t214 0).f0).toList) == ([97] : List UInt8) && (!((rd_T51 t214 0).f1) && (((rd_T51 t214 0).f2) == 7 && (((rd_T51 t214 0).f3) == 1)))) = true
       ·
        rw [if_pos c12] at H
        have c12b0 : ((((rd_T51 t214 0).f0).toList) == ([97] : List UInt8) && (!((rd_T51 t214 0).f1) && (((rd_T51 t214 0).f2) == 7 && (((rd_T51 t214 0).f3) == 1)))) = true := c12
        (try obtain ⟨c12f0, c12f1, c12f2, c12f3⟩ : ((((rd_T51 t214 0).f0).toList) == ([97] : List UInt8)) = true ∧ (!((rd_T51 t214 0).f1)) = true ∧ (((rd_T51 t214 0).f2) == 7) = true ∧ (((rd_T51 t214 0).f3) == 1) = true := by simpa using c12)
        (try (have c12b1 : decide ((((rd_T51 t214 0).f0).toList) = ([97] : List UInt8) && (!((rd_T51 t214 0).f1) && (((rd_T51 t214 0).f2) == 7 && (((rd_T51 t214 0).f3) == 1)))) = true := by simpa using c12))
        (try (have c12b2 : ((((rd_T51 t214 0).f0).toList) == ([97] : List UInt8) && (!((rd_T51 t214 0).f1) && (((rd_T51 t214 0).f2) == 7 && (((rd_T51 t214 0).f3) == 1)))) = true := by simpa using c12))
        clear c12
        by_cases c13 : 1 < (t214.length : Int)
        ·
         rw [if_pos c13] at H
         have c13b0 : decide (1 < (t214.length : Int)) = true := decide_eq_true c13
         have c13b1 : decide (1 < t214.length) = true := decide_eq_true (by omega)
         clear c13
         by_cases c14 : ((((rd_T51 t214 1).f0).toList) == ([98] : List UInt8) && (((rd_T51 t214 1).f1) && (((rd_T51 t214 1).f2) == 0 && (((rd_T51 t214 1).f3) == 0)))) = true
         ·
          rw [if_pos c14] at H
          have c14b0 : ((((rd_T51 t214 1).f0).toList) == ([98] : List UInt8) && (((rd_T51 t214 1).f1) && (((rd_T51 t214 1).f2) == 0 && (((rd_T51 t214 1).f3) == 0)))) = true := c14
          (try obtain ⟨c14f0, c14f1, c14f2, c14f3⟩ : ((((rd_T51 t214 1).f0).toList) == ([98] : List UInt8)) = true ∧ (((rd_T51 t214 1).f1)) = true ∧ (((rd_T51 t214 1).f2) == 0) = true ∧ (((rd_T51 t214 1).f3) == 0) = true := by simpa using c14)
          (try (have c14b1 : decide ((((rd_T51 t214 1).f0).toList) = ([98] : List UInt8) && (((rd_T51 t214 1).f1) && (((rd_T51 t214 1).f2) == 0 && (((rd_T51 t214 1).f3) == 0)))) = true := by simpa using c14))
          (try (have c14b2 : ((((rd_T51 t214 1).f0).toList) == ([98] : List UInt8) && (((rd_T51 t214 1).f1) && (((rd_T51 t214 1).f2) == 0 && (((rd_T51 t214 1).f3) == 0)))) = true := by simpa using c14))
          clear c14
          obtain rfl := Option.some.inj H
          go_enter Try.func21, Try.ntmps21
          go_wp2_with (first | ((with_reducible refine gate_dst (N := 10) rfl ?_); (try (refine gate_guard (by rfl) ?_; dsimp only)); (first | refine Kd.V_const _ 5 26 ?hg (N := 10) ?hd (xs := ([120] : List Int)) (inner := [.int .u8 120]) rfl rfl rfl rfl ?hr ?hp Try.underlying26 Try.underlying5 (Below.refl _ _) (Nat.le_refl _) (by simp) ?_ | refine Kd.V_constG _ 5 26 ?hg (N := 10) ?hd (xs := ([120] : List Int)) (inner := [.int .u8 120]) (fun _ => by rfl) rfl rfl rfl ?hr ?hp Try.underlying26 Try.underlying5 (Below.refl _ _) (Nat.le_refl _) (by simp) ?_); (case hd => rfl); (case hg => rfl); (case hr => first | (go_simp; done) | (go_simp; rfl)); (case hp => intro v_; first | rfl | (go_simp; done)); intro v201 w15 ho16 hb hg_ hnew_; clear hg_ hnew_; (first | rw [← Ny200.out] at ho16 | (simp only [Int.reduceToNat] at ho16; rw [← Ny200.out] at ho16)); have n0_ := Aside0.mk (Kd.V_lower (Kd.V_mono (ok' := fun k_ => True) ho16 (fun k_ hk_ => trivial)) (below_size (by repeat (first | (with_reducible first | exact HB.out | apply below_alloc | apply pw_below_drewN | apply below_drew1) | exact HB.out)))); have n1_ := Aside0.mk (below_step (by repeat (first | (with_reducible first | exact HB.out | apply below_alloc | apply pw_below_drewN | apply below_drew1) | exact HB.out)) hb); clear HB; have HO202 := n0_; have HB := n1_; clear n0_ n1_; clear hb ho16; obtain ⟨Ao17, co17, eo17⟩ := Kd.V_slice HO202.out; subst eo17) | ((with_reducible refine gate_dst (N := 14) rfl ?_); (try (refine gate_guard (by rfl) ?_; dsimp only)); refine Kd.N_lit k38 _ 38 ?hg (N' := 14) ?hd (xs := ([(⟨(⟨#[97]⟩ : ByteArray), false, y200⟩ : S38), (⟨(⟨#[98]⟩ : ByteArray), true, ([] : List Int)⟩ : S38)] : List (S38))) (inner := [.string (⟨#[97]⟩ : ByteArray), .bool false, .slice Ao17 y200.length co17, .string (⟨#[98]⟩ : ByteArray), .bool true, .slice none 0 0]) (ok := (fun _ => True)) (okp := (fun _ => True)) ?hr ?hp (fun _ hk => hk) ((show ∀ k_, w15.heap.size ≤ k_ → (fun _ => True) k_ from fun k_ hk => trivial) _ (Nat.le_refl _)) (Below.refl _ _) (Nat.le_refl _) (by simp) ?_; (case hd => rfl); (case hg => rfl); (case hr => first | (go_simp; done) | (go_simp; rfl)); (case hp => exact (Reps.c3 (show Kd.FK k38 _ _ (⟨(⟨#[97]⟩ : ByteArray), false, y200⟩ : S38) [.string (⟨#[97]⟩ : ByteArray), .bool false, .slice Ao17 y200.length co17] from (k38_mkF _ _ (⟨(⟨#[97]⟩ : ByteArray), false, y200⟩ : S38) (Kd.V_reads' (Kd.V_mono (ok' := (fun _ => True)) (HO202.out) (fun k_ hk => trivial))).2.1 (Kd.V_F (Kd.V_mono (ok' := (fun _ => True)) (HO202.out) (fun k_ hk => trivial))))) (Reps.c3 (show Kd.FK k38 _ _ (⟨(⟨#[98]⟩ : ByteArray), true, ([] : List Int)⟩ : S38) [.string (⟨#[98]⟩ : ByteArray), .bool true, .slice none 0 0] from (k38_mkF _ _ (⟨(⟨#[98]⟩ : ByteArray), true, ([] : List Int)⟩ : S38) (Nat.le_refl _) (Kd.F_nil _ _ _))) (Reps.none _ _)))); intro v204 w18 ho19 hb hg_ hnew_; clear hg_ hnew_; (first | rw [← Ny203.out] at ho19 | (simp only [Int.reduceToNat] at ho19; rw [← Ny203.out] at ho19)); have n0_ := Aside0.mk (Kd.V_elder' (by (with_reducible repeat (first | apply Kd.V_alloc | apply Kd.V_drewN | apply Kd.V_drew)); exact HO202.out) (Kd.N_base ho19) hb); have n1_ := Aside0.mk (Kd.N_lower ho19 (below_size (by repeat (first | (with_reducible first | exact HB.out | apply below_alloc | apply pw_below_drewN | apply below_drew1) | exact HB.out)))); have n2_ := Aside0.mk (below_step (by repeat (first | (with_reducible first | exact HB.out | apply below_alloc | apply pw_below_drewN | apply below_drew1) | exact HB.out)) hb); clear HO202; clear HB; have HO202 := n0_; have HO205 := n1_; have HB := n2_; clear n0_ n1_ n2_; clear hb ho19; obtain ⟨Ao20, co20, eo20⟩ := Kd.N_slice HO205.out; subst eo20) | ((with_reducible refine gate_callee (f := 20) rfl ?_); refine goesL_ (some 17) rfl rfl Try.func20 (by kernel_rfl) rfl #[.slice Ao20 y203.length co20] rfl (by (try simp only [List.map_toArray, List.map_cons, List.map_nil]); first | done | rfl | (simp only [List.length_drop, List.length_take]; rfl)) ?_; (with_reducible refine (unit_Append.calls k _ _ y203 t206 true _ ?side1 ?side2 A1.out).mono ?_); (case side1 => repeat (first | exact (Kd.N_reads' HO205.out).2.2 | (with_reducible refine Kd.C_alloc ?_ _) | (with_reducible refine Kd.C_drewN ?_ _) | (with_reducible refine Kd.C_drew ?_))); (case side2 => exact (Kd.N_reads' HO205.out).2.1); rintro e w21 ⟨v208, rfl, ho0, hb⟩; refine ⟨_, rfl, ?_⟩; have n0_ := Aside0.mk (Kd.V_elder' (by (with_reducible repeat (first | apply Kd.V_alloc | apply Kd.V_drewN | apply Kd.V_drew)); exact HO202.out) (Kd.R_base ho0) hb); have n1_ := Aside0.mk (Kd.N_elder' (by (with_reducible repeat (first | apply Kd.N_alloc | apply Kd.N_drewN | apply Kd.N_drew)); exact HO205.out) (Kd.R_base ho0) hb); have n2_ := Aside0.mk (Kd.R_lower ho0 (below_size (by repeat (first | (with_reducible first | exact HB.out | apply below_alloc | apply pw_below_drewN | apply below_drew1) | exact HB.out)))); have n3_ := Aside0.mk (below_step (by repeat (first | (with_reducible first | exact HB.out | apply below_alloc | apply pw_below_drewN | apply below_drew1) | exact HB.out)) hb); clear HO202; clear HO205; clear HB; have HO202 := n0_; have HO205 := n1_; have HO209 := n2_; have HB := n3_; clear n0_ n1_ n2_ n3_; (try clear hb); (try clear hb2); (try clear hk); (try clear hi); (try clear hge); (try clear ho0); obtain ⟨Ao22, co22, eo22⟩ := Kd.R_slice HO209.out; subst eo22) | ((with_reducible refine gate_callee (f := 24) rfl ?_); refine goesL_ (some 22) rfl rfl Try.func24 (by kernel_rfl) rfl #[.slice Ao22 t206.length co22] rfl (by (try simp only [List.map_toArray, List.map_cons, List.map_nil]); first | done | rfl | (simp only [List.length_drop, List.length_take]; rfl)) ?_; (with_reducible refine (unit_Parse.calls k _ _ t206 t210 true _ ?side1 ?side2 A2.out).mono ?_); (case side1 => repeat (first | exact (Kd.R_reads' HO209.out).2.2 | (with_reducible refine Kd.C_alloc ?_ _) | (with_reducible refine Kd.C_drewN ?_ _) | (with_reducible refine Kd.C_drew ?_))); (case side2 => exact (Kd.R_reads' HO209.out).2.1); rintro e w23 ⟨v212, rfl, ho0, hb⟩; refine ⟨_, rfl, ?_⟩; have n0_ := Aside0.mk (Kd.V_elder' (by (with_reducible repeat (first | apply Kd.V_alloc | apply Kd.V_drewN | apply Kd.V_drew)); exact HO202.out) (Kd.N_base (Kd.S_N (Kd.S_bound ho0))) hb); have n1_ := Aside0.mk (Kd.N_elder' (by (with_reducible repeat (first | apply Kd.N_alloc | apply Kd.N_drewN | apply Kd.N_drew)); exact HO205.out) (Kd.N_base (Kd.S_N (Kd.S_bound ho0))) hb); have n2_ := Aside0.mk (Kd.R_below (by (with_reducible repeat (first | apply Kd.R_alloc | apply Kd.R_drewN | apply Kd.R_drew)); exact HO209.out) hb); have n3_ := Aside0.mk (Kd.N_lower (Kd.N_mono (ok' := fun k_ => some k_ ≠ (.slice Ao20 y203.length co20 : Value).ownBlock ∧ some k_ ≠ (.slice Ao22 t206.length co22 : Value).ownBlock) (Kd.S_N (Kd.S_bound ho0)) (fun k_ hk_ => ⟨(Kd.fresh' (Kd.N_lt (by (with_reducible repeat (first | apply Kd.N_alloc | apply Kd.N_drewN | apply Kd.N_drew)); exact HO205.out)) k_ hk_.2.1), (Kd.fresh' (Kd.R_lt (by (with_reducible repeat (first | apply Kd.R_alloc | apply Kd.R_drewN | apply Kd.R_drew)); exact HO209.out)) k_ hk_.2.1)⟩)) (below_size (by repeat (first | (with_reducible first | exact HB.out | apply below_alloc | apply pw_below_drewN | apply below_drew1) | exact HB.out)))); have n4_ := Aside0.mk (below_step (by repeat (first | (with_reducible first | exact HB.out | apply below_alloc | apply pw_below_drewN | apply below_drew1) | exact HB.out)) hb); clear HO202; clear HO205; clear HO209; clear HB; have HO202 := n0_; have HO205 := n1_; have HO209 := n2_; have HO213 := n3_; have HB := n4_; clear n0_ n1_ n2_ n3_ n4_; (try clear hb); (try clear hb2); (try clear hk); (try clear hi); (try clear hge); (try clear ho0)) | ((with_reducible refine gate_callee (f := 26) rfl ?_); refine goesL_ (some 27) rfl rfl Try.func26 (by kernel_rfl) rfl #[.slice Ao22 t206.length co22] rfl (by (try simp only [List.map_toArray, List.map_cons, List.map_nil]); first | done | rfl | (simp only [List.length_drop, List.length_take]; rfl)) ?_; (with_reducible refine (unit_Places.calls k _ _ t206 t214 true _ ?side1 ?side2 A3.out).mono ?_); (case side1 => repeat (first | exact (Kd.R_reads' HO209.out).2.2 | (with_reducible refine Kd.C_alloc ?_ _) | (with_reducible refine Kd.C_drewN ?_ _) | (with_reducible refine Kd.C_drew ?_))); (case side2 => exact (Kd.R_reads' HO209.out).2.1); rintro e w24 ⟨v216, rfl, ho0, hb⟩; refine ⟨_, rfl, ?_⟩; have n0_ := Aside0.mk (Kd.V_elder' (by (with_reducible repeat (first | apply Kd.V_alloc | apply Kd.V_drewN | apply Kd.V_drew)); exact HO202.out) (Kd.R_base ho0) hb); have n1_ := Aside0.mk (Kd.N_elder' (by (with_reducible repeat (first | apply Kd.N_alloc | apply Kd.N_drewN | apply Kd.N_drew)); exact HO205.out) (Kd.R_base ho0) hb); have n2_ := Aside0.mk (Kd.R_below (by (with_reducible repeat (first | apply Kd.R_alloc | apply Kd.R_drewN | apply Kd.R_drew)); exact HO209.out) hb); have n3_ := Aside0.mk (Kd.N_elder' (by (with_reducible repeat (first | apply Kd.N_alloc | apply Kd.N_drewN | apply Kd.N_drew)); exact HO213.out) (Kd.R_base ho0) hb); have n4_ := Aside0.mk (Kd.R_lower ho0 (below_size (by repeat (first | (with_reducible first | exact HB.out | apply below_alloc | apply pw_below_drewN | apply below_drew1) | exact HB.out)))); have n5_ := Aside0.mk (below_step (by repeat (first | (with_reducible first | exact HB.out | apply below_alloc | apply pw_below_drewN | apply below_drew1) | exact HB.out)) hb); clear HO202; clear HO205; clear HO209; clear HO213; clear HB; have HO202 := n0_; have HO205 := n1_; have HO209 := n2_; have HO213 := n3_; have HO217 := n4_; have HB := n5_; clear n0_ n1_ n2_ n3_ n4_ n5_; (try clear hb); (try clear hb2); (try clear hk); (try clear hi); (try clear hge); (try clear ho0)) | ((with_reducible refine gate_dst (N := 31) rfl ?_); (try (refine gate_guard (by rfl) ?_; dsimp only)); refine Kd.R_lit (Kd.int .u8) _ 5 ?hg (N := 31) ?hd (xs := ([9] : List Int)) (inner := [.int .u8 9]) (ok := fun _ => True) (okp := fun _ => True) ?hr ?hp (fun _ hk => hk) trivial (Below.refl _ _) (Nat.le_refl _) (by simp) ?_; (case hd => rfl); (case hg => rfl); (case hr => first | (go_simp; done) | (go_simp; rfl)); (case hp => exact (Reps.one (show Kd.M (Kd.int .u8) _ _ _ 9 [.int .u8 9] from rfl) (Reps.none _ _))); intro v219 w25 ho26 hb hg_ hnew_; clear hg_ hnew_; (first | rw [← Ny218.out] at ho26 | (simp only [Int.reduceToNat] at ho26; rw [← Ny218.out] at ho26)); have n0_ := Aside0.mk (Kd.V_elder' (by (with_reducible repeat (first | apply Kd.V_alloc | apply Kd.V_drewN | apply Kd.V_drew)); exact HO202.out) (Kd.R_base ho26) hb); have n1_ := Aside0.mk (Kd.N_elder' (by (with_reducible repeat (first | apply Kd.N_alloc | apply Kd.N_drewN | apply Kd.N_drew)); exact HO205.out) (Kd.R_base ho26) hb); have n2_ := Aside0.mk (Kd.R_elder' (by (with_reducible repeat (first | apply Kd.R_alloc | apply Kd.R_drewN | apply Kd.R_drew)); exact HO209.out) (Kd.R_base ho26) hb); have n3_ := Aside0.mk (Kd.N_elder' (by (with_reducible repeat (first | apply Kd.N_alloc | apply Kd.N_drewN | apply Kd.N_drew)); exact HO213.out) (Kd.R_base ho26) hb); have n4_ := Aside0.mk (Kd.R_below (by (with_reducible repeat (first | apply Kd.R_alloc | apply Kd.R_drewN | apply Kd.R_drew)); exact HO217.out) hb); have n5_ := Aside0.mk (Kd.R_lower (Kd.R_new' ho26 (Kd.R_lt (by (with_reducible repeat (first | apply Kd.R_alloc | apply Kd.R_drewN | apply Kd.R_drew)); exact HO209.out))) (below_size (by repeat (first | (with_reducible first | exact HB.out | apply below_alloc | apply pw_below_drewN | apply below_drew1) | exact HB.out)))); have n6_ := Aside0.mk (below_step (by repeat (first | (with_reducible first | exact HB.out | apply below_alloc | apply pw_below_drewN | apply below_drew1) | exact HB.out)) hb); clear HO202; clear HO205; clear HO209; clear HO213; clear HO217; clear HB; have HO202 := n0_; have HO205 := n1_; have HO209 := n2_; have HO213 := n3_; have HO217 := n4_; have HO220 := n5_; have HB := n6_; clear n0_ n1_ n2_ n3_ n4_ n5_ n6_; clear hb ho26; obtain ⟨Ao27, co27, eo27⟩ := Kd.R_slice HO220.out; subst eo27) | ((with_reducible refine gate_callee (f := 24) rfl ?_); refine goesL_ (some 32) rfl rfl Try.func24 (by kernel_rfl) rfl #[.slice Ao27 y218.length co27] rfl (by (try simp only [List.map_toArray, List.map_cons, List.map_nil]); first | done | rfl | (simp only [List.length_drop, List.length_take]; rfl)) ?_; (with_reducible refine (unit_Parse.calls k _ _ y218 t221 t222 _ ?side1 ?side2 A4.out).mono ?_); (case side1 => repeat (first | exact (Kd.R_reads' HO220.out).2.2 | (with_reducible refine Kd.C_alloc ?_ _) | (with_reducible refine Kd.C_drewN ?_ _) | (with_reducible refine Kd.C_drew ?_))); (case side2 => exact (Kd.R_reads' HO220.out).2.1); rintro e w28 ⟨v223, rfl, ho0, hb⟩; refine ⟨_, rfl, ?_⟩; have n0_ := Aside0.mk (Kd.V_elder' (by (with_reducible repeat (first | apply Kd.V_alloc | apply Kd.V_drewN | apply Kd.V_drew)); exact HO202.out) (Kd.N_base (Kd.S_N (Kd.S_bound ho0))) hb); have n1_ := Aside0.mk (Kd.N_elder' (by (with_reducible repeat (first | apply Kd.N_alloc | apply Kd.N_drewN | apply Kd.N_drew)); exact HO205.out) (Kd.N_base (Kd.S_N (Kd.S_bound ho0))) hb); have n2_ := Aside0.mk (Kd.R_below (by (with_reducible repeat (first | apply Kd.R_alloc | apply Kd.R_drewN | apply Kd.R_drew)); exact HO209.out) hb); have n3_ := Aside0.mk (Kd.N_elder' (by (with_reducible repeat (first | apply Kd.N_alloc | apply Kd.N_drewN | apply Kd.N_drew)); exact HO213.out) (Kd.N_base (Kd.S_N (Kd.S_bound ho0))) hb); have n4_ := Aside0.mk (Kd.R_below (by (with_reducible repeat (first | apply Kd.R_alloc | apply Kd.R_drewN | apply Kd.R_drew)); exact HO217.out) hb); have n5_ := Aside0.mk (Kd.R_below (by (with_reducible repeat (first | apply Kd.R_alloc | apply Kd.R_drewN | apply Kd.R_drew)); exact HO220.out) hb); have n6_ := Aside0.mk (Kd.N_lower (Kd.N_mono (ok' := fun k_ => some k_ ≠ (.slice Ao20 y203.length co20 : Value).ownBlock ∧ some k_ ≠ (.slice Ao22 t206.length co22 : Value).ownBlock ∧ some k_ ≠ (v212 : Value).ownBlock ∧ some k_ ≠ (v216 : Value).ownBlock ∧ some k_ ≠ (.slice Ao27 y218.length co27 : Value).ownBlock) (Kd.S_N (Kd.S_bound ho0)) (fun k_ hk_ => ⟨(Kd.fresh' (Kd.N_lt (by (with_reducible repeat (first | apply Kd.N_alloc | apply Kd.N_drewN | apply Kd.N_drew)); exact HO205.out)) k_ hk_.2.1), (Kd.fresh' (Kd.R_lt (by (with_reducible repeat (first | apply Kd.R_alloc | apply Kd.R_drewN | apply Kd.R_drew)); exact HO209.out)) k_ hk_.2.1), (Kd.fresh' (Kd.N_lt (by (with_reducible repeat (first | apply Kd.N_alloc | apply Kd.N_drewN | apply Kd.N_drew)); exact HO213.out)) k_ hk_.2.1), (Kd.fresh' (Kd.R_lt (by (with_reducible repeat (first | apply Kd.R_alloc | apply Kd.R_drewN | apply Kd.R_drew)); exact HO217.out)) k_ hk_.2.1), (Kd.fresh' (Kd.R_lt (by (with_reducible repeat (first | apply Kd.R_alloc | apply Kd.R_drewN | apply Kd.R_drew)); exact HO220.out)) k_ hk_.2.1)⟩)) (below_size (by repeat (first | (with_reducible first | exact HB.out | apply below_alloc | apply pw_below_drewN | apply below_drew1) | exact HB.out)))); have n7_ := Aside0.mk (below_step (by repeat (first | (with_reducible first | exact HB.out | apply below_alloc | apply pw_below_drewN | apply below_drew1) | exact HB.out)) hb); clear HO202; clear HO205; clear HO209; clear HO213; clear HO217; clear HO220; clear HB; have HO202 := n0_; have HO205 := n1_; have HO209 := n2_; have HO213 := n3_; have HO217 := n4_; have HO220 := n5_; have HO224 := n6_; have HB := n7_; clear n0_ n1_ n2_ n3_ n4_ n5_ n6_ n7_; (try clear hb); (try clear hb2); (try clear hk); (try clear hi); (try clear hge); (try clear ho0); obtain ⟨Ao29, co29, eo29⟩ := Kd.N_slice HO213.out; subst eo29) | (go_at_call 28; (with_reducible refine (waybillref16_SameOps.calls k _ _ y203 _ _ t210 true _ ?side1 ?side2 ?side3 ?side4 A8.out).mono ?_); (case side1 => repeat (first | exact (Kd.N_reads' HO205.out).2.2 | (with_reducible refine Kd.C_alloc ?_ _) | (with_reducible refine Kd.C_drewN ?_ _) | (with_reducible refine Kd.C_drew ?_))); (case side2 => exact (Kd.N_reads' HO205.out).2.1); (case side3 => repeat (first | exact (Kd.N_reads' HO213.out).2.2 | (with_reducible refine Kd.C_alloc ?_ _) | (with_reducible refine Kd.C_drewN ?_ _) | (with_reducible refine Kd.C_drew ?_))); (case side4 => exact (Kd.N_reads' HO213.out).2.1); rintro e w' ⟨rfl, ⟨nd, rfl⟩⟩; obtain ⟨Ao30, co30, eo30⟩ := Kd.R_slice HO217.out; subst eo30; have p226 : 0 ≤ (0 : Int) := (by omega); have q226 : 0 < (t214.length : Int) := of_decide_eq_true (by first | (with_reducible assumption) | assumption); obtain ⟨ad226, e226, hx226_0, hx226_1, hx226_2, hx226_3⟩ := at_T51 (Kd.R_reads' HO217.out).2.2 0 p226 q226; cases e226; have qi226 : (0 < t214.length) = True := eq_true (by omega); (try rw [show ((0 : Int)).toNat = 0 from rfl] at hx226_0); (try rw [show 0 * 4 = 0 from rfl] at hx226_0); (try rw [Addr.add_zero'] at hx226_0); (try rw [show ((0 : Int)).toNat = 0 from rfl] at hx226_1); (try rw [show 0 * 4 = 0 from rfl] at hx226_1); (try rw [Addr.add_zero'] at hx226_1); (try rw [show ((0 : Int)).toNat = 0 from rfl] at hx226_2); (try rw [show 0 * 4 = 0 from rfl] at hx226_2); (try rw [Addr.add_zero'] at hx226_2); (try rw [show ((0 : Int)).toNat = 0 from rfl] at hx226_3); (try rw [show 0 * 4 = 0 from rfl] at hx226_3); (try rw [Addr.add_zero'] at hx226_3); replace p226 := eq_true p226; replace q226 := eq_true q226; have p227 : 0 ≤ (1 : Int) := (by omega); have q227 : 1 < (t214.length : Int) := of_decide_eq_true (by first | (with_reducible assumption) | assumption); obtain ⟨ad227, e227, hx227_0, hx227_1, hx227_2, hx227_3⟩ := at_T51 (Kd.R_reads' HO217.out).2.2 1 p227 q227; obtain rfl : ad226 = ad227 := (by injection e227); (try simp only [show (1 : Int).toNat = 1 from rfl, Nat.reduceMul, Nat.reduceEqDiff, Go.Addr.add, ↓reduceIte] at hx227_0); (try simp only [show (1 : Int).toNat = 1 from rfl, Nat.reduceMul, Nat.reduceEqDiff, Go.Addr.add, ↓reduceIte] at hx227_1); (try simp only [show (1 : Int).toNat = 1 from rfl, Nat.reduceMul, Nat.reduceEqDiff, Go.Addr.add, ↓reduceIte] at hx227_2); (try simp only [show (1 : Int).toNat = 1 from rfl, Nat.reduceMul, Nat.reduceEqDiff, Go.Addr.add, ↓reduceIte] at hx227_3); have qi227 : (1 < t214.length) = True := eq_true (by omega); (try rw [show ((1 : Int)).toNat = 1 from rfl] at hx227_0); (try rw [show 1 * 4 = 4 from rfl] at hx227_0); (try rw [show ((1 : Int)).toNat = 1 from rfl] at hx227_1); (try rw [show 1 * 4 = 4 from rfl] at hx227_1); (try rw [show ((1 : Int)).toNat = 1 from rfl] at hx227_2); (try rw [show 1 * 4 = 4 from rfl] at hx227_2); (try rw [show ((1 : Int)).toNat = 1 from rfl] at hx227_3); (try rw [show 1 * 4 = 4 from rfl] at hx227_3); replace p227 := eq_true p227; replace q227 := eq_true q227))
          all_goals first | (go_ret; exact ⟨by first | rfl | (simp [errW_none, errW_some]; done) | (simp [errW_none, errW_some]; rfl) | (simp [*, errW_none, errW_some]; done) | (simp [*, errW_none, errW_some]; rfl), by repeat (first | (with_reducible first | exact HB.out | apply below_alloc | apply pw_below_drewN | apply below_drew1) | exact HB.out)⟩) | (exfalso; simp_all; done)
         ·
          rw [if_neg c14] at H
          exact absurd H (by simp)
        ·
         rw [if_neg c13] at H
         exact absurd H (by simp)
       ·
        rw [if_neg c12] at H
        exact absurd H (by simp)
      ·
       rw [if_neg c11] at H
       exact absurd H (by simp)
     ·
      rw [if_neg c10] at H
      exact absurd H (by simp)
    ·
     replace c9 := Bool.eq_false_iff.mpr c9
     subst c9
     have H1 : (none) = some r := by rw [if_neg (show ¬ (false = true) by decide)] at H; exact H
     clear H
     have H := H1
     clear H1
     exact absurd H (by simp)
   ·
    replace c7 := Bool.eq_false_iff.mpr c7
    subst c7
    have H1 : (none) = some r := by rw [if_neg (show ¬ (false = true) by decide)] at H; exact H
    clear H
    have H := H1
    clear H1
    exact absurd H (by simp)
  ·
   replace c6 := Bool.eq_false_iff.mpr c6
   subst c6
   have H1 : (none) = some r := by rw [if_neg (show ¬ (false = true) by decide)] at H; exact H
   clear H
   have H := H1
   clear H1
   exact absurd H (by simp)
 ·
  replace c5 := Bool.eq_false_iff.mpr c5
  subst c5
  have H1 : (none) = some r := by rw [if_neg (show ¬ (false = true) by decide)] at H; exact H
  clear H
  have H := H1
  clear H1
  exact absurd H (by simp)

/-! ### waybilllaw13_Small: function 22 -/
def waybilllaw13_Small.l0 : Nat → List (S38) → Int → Option (Bool)
 | 0, _, _ => none
 | k + 1, x0, x3 => if x3 < (x0.length : Int) then (if 0 ≤ x3 then (if (((rd_T38 x0 x3).f0).size : Int) > 400 then (some false) else (if (((rd_T38 x0 x3).f2).length : Int) > 11100 then (some false) else (waybilllaw13_Small.l0 k x0 (wrap64 (x3 + 1))))) else (none)) else (some true)
def waybilllaw13_Small.f (k : Nat) (l0 : List (S38)) : Option (Bool) := if (l0.length : Int) > 60 then (some false) else (waybilllaw13_Small.l0 k l0 0)
theorem waybilllaw13_Small.mono_l : ∀ k, (∀ y0 y1, LeO (waybilllaw13_Small.l0 k y0 y1) (waybilllaw13_Small.l0 (k + 1) y0 y1))
 | 0 => fun _ _ r h => by simp [waybilllaw13_Small.l0] at h
 | k + 1 => by
  have ih0 := waybilllaw13_Small.mono_l k
  ·
   intro y0 y1
   unfold waybilllaw13_Small.l0
   repeat' first
   | (with_reducible exact ih0 _ _)
   | (with_reducible exact LeO.refl _)
   | (with_reducible exact LeO.none _)
   | (with_reducible refine LeO.ite ?_ ?_)
   | (with_reducible refine LeO.bind ?_ (fun _ => ?_))
   | exact ih0 _ _
   | exact LeO.none _
   | refine LeO.ite ?_ ?_
   | refine LeO.bind ?_ (fun _ => ?_)
theorem waybilllaw13_Small.mono : ∀ a0 k, LeO (waybilllaw13_Small.f k a0) (waybilllaw13_Small.f (k + 1) a0) := by
 intro a0 k
 have ih0 := waybilllaw13_Small.mono_l k
 unfold waybilllaw13_Small.f
 repeat' first
   | (with_reducible exact ih0 _ _)
   | (with_reducible exact LeO.refl _)
   | (with_reducible exact LeO.none _)
   | (with_reducible refine LeO.ite ?_ ?_)
   | (with_reducible refine LeO.bind ?_ (fun _ => ?_))
   | exact ih0 _ _
   | exact LeO.none _
   | refine LeO.ite ?_ ?_
   | refine LeO.bind ?_ (fun _ => ?_)
set_option maxHeartbeats 8000000 in
set_option maxRecDepth 100000 in
theorem waybilllaw13_Small.calls (k : Nat) (A0 : Option Addr) (c0 : Nat) (l0 : List (S38)) (r : Bool) (w : World) (hr0 : Kd.C k38 w A0 l0.length l0) (hc0 : l0.length ≤ c0) (h : waybilllaw13_Small.f k l0 = some r) :
  Calls Try.prog 22 #[.slice A0 l0.length c0] w fun e w' => e = .returned (.bool r) ∧ Drawn0 w w' := by
 have HR0 := Aside0.mk hr0
 have HC0 := Aside0.mk hc0
 clear hr0 hc0
 have H : (if (l0.length : Int) > 60 then (some false) else (waybilllaw13_Small.l0 k l0 0)) = some r := h
 clear h
 by_cases c2 : (l0.length : Int) > 60
 ·
  rw [if_pos c2] at H
  have c2b0 : decide (60 < (l0.length : Int)) = true := decide_eq_true c2
  have c2b1 : decide (60 < l0.length) = true := decide_eq_true (by omega)
  clear c2
  obtain rfl := Option.some.inj H
  go_enter Try.func22, Try.ntmps22
  go_wp2
  all_goals first | (go_ret; exact ⟨by first | rfl | (simp; done) | (simp [*]; done), by repeat (first | exact Drawn0.refl _ | apply Drawn0.step)⟩) | (exfalso; simp_all; done)
 ·
  rw [if_neg c2] at H
  have c2b0 : decide (60 < (l0.length : Int)) = false := decide_eq_false c2
  have c2b1 : decide (60 < l0.length) = false := decide_eq_false (by omega)
  clear c2
  have H' := Aside0.mk H
  clear H
  go_enter Try.func22, Try.ntmps22
  go_wp2
  go_loopg [3] k (fun kq v3 w' => ∃ (x3_1 : Int), v3 = .int .i64 x3_1 ∧ Aside0 (waybilllaw13_Small.l0 kq l0 x3_1 = some r) ∧ Aside0 (kq ≤ k) ∧ Drawn0 w w')
  case atStart => exact ⟨(0), (by first | rfl | (simp; done) | (simp [*]; done)), H', ⟨Nat.le_refl _⟩, by repeat (first | exact Drawn0.refl _ | apply Drawn0.step)⟩
  case round =>
   clear H'
   try clear c2
   try clear c2b0
   try clear c2b1
   try clear p2
   obtain ⟨x3_1, rfl, HA, HK1, ⟨m1, rfl⟩⟩ := hrel
   cases gk with
   | zero => exact absurd HA.out (by simp [waybilllaw13_Small.l0])
   | succ k1 =>
    have H := HA.out
    clear HA
    simp only [waybilllaw13_Small.l0] at H
    by_cases c3 : x3_1 < (l0.length : Int)
    ·
     rw [if_pos c3] at H
     have c3b0 : decide (x3_1 < (l0.length : Int)) = true := decide_eq_true c3
     clear c3
     by_cases c4 : 0 ≤ x3_1
     ·
      rw [if_pos c4] at H
      have c4b0 : decide (0 ≤ x3_1) = true := decide_eq_true c4
      clear c4
      by_cases c5 : (((rd_T38 l0 x3_1).f0).size : Int) > 400
      ·
       rw [if_pos c5] at H
       have c5b0 : decide (400 < (((rd_T38 l0 x3_1).f0).size : Int)) = true := decide_eq_true c5
       have c5b1 : decide (400 < ((rd_T38 l0 x3_1).f0).size) = true := decide_eq_true (by omega)
       clear c5
       obtain rfl := Option.some.inj H
       have p228 : 0 ≤ (x3_1 : Int) := of_decide_eq_true (by first | (with_reducible assumption) | assumption)
       have q228 : x3_1 < (l0.length : Int) := of_decide_eq_true (by first | (with_reducible assumption) | assumption)
       obtain ⟨ad228, A228_2, c228_2, e228, hx228_0, hx228_1, hx228_2, hl228_2, hi228_2⟩ := at_T38 HR0.out x3_1 p228 q228
       cases e228
       have HR228_2 := Aside0.mk hi228_2
       have HC228_2 := Aside0.mk hl228_2
       clear hi228_2 hl228_2
       replace p228 := eq_true p228
       replace q228 := eq_true q228
       go_wp2
       all_goals first | (go_ret; exact ⟨by first | rfl | (simp; done) | (simp [*]; done), by repeat (first | exact Drawn0.refl _ | apply Drawn0.step)⟩) | (exfalso; simp_all; done)
      ·
       rw [if_neg c5] at H
       have c5b0 : decide (400 < (((rd_T38 l0 x3_1).f0).size : Int)) = false := decide_eq_false c5
       have c5b1 : decide (400 < ((rd_T38 l0 x3_1).f0).size) = false := decide_eq_false (by omega)
       clear c5
       by_cases c6 : (((rd_T38 l0 x3_1).f2).length : Int) > 11100
       ·
        rw [if_pos c6] at H
        have c6b0 : decide (11100 < (((rd_T38 l0 x3_1).f2).length : Int)) = true := decide_eq_true c6
        have c6b1 : decide (11100 < ((rd_T38 l0 x3_1).f2).length) = true := decide_eq_true (by omega)
        clear c6
        obtain rfl := Option.some.inj H
        have p228 : 0 ≤ (x3_1 : Int) := of_decide_eq_true (by first | (with_reducible assumption) | assumption)
        have q228 : x3_1 < (l0.length : Int) := of_decide_eq_true (by first | (with_reducible assumption) | assumption)
        obtain ⟨ad228, A228_2, c228_2, e228, hx228_0, hx228_1, hx228_2, hl228_2, hi228_2⟩ := at_T38 HR0.out x3_1 p228 q228
        cases e228
        have HR228_2 := Aside0.mk hi228_2
        have HC228_2 := Aside0.mk hl228_2
        clear hi228_2 hl228_2
        replace p228 := eq_true p228
        replace q228 := eq_true q228
        have p229 : 0 ≤ (x3_1 : Int) := of_decide_eq_true (by first | (with_reducible assumption) | assumption)
        have q229 : x3_1 < (l0.length : Int) := of_decide_eq_true (by first | (with_reducible assumption) | assumption)
        obtain ⟨ad229, A229_2, c229_2, e229, hx229_0, hx229_1, hx229_2, hl229_2, hi229_2⟩ := at_T38 HR0.out x3_1 p229 q229
        obtain rfl : ad228 = ad229 := (by injection e229)
        have HR229_2 := Aside0.mk hi229_2
        have HC229_2 := Aside0.mk hl229_2
        clear hi229_2 hl229_2
        replace p229 := eq_true p229
        replace q229 := eq_true q229
        have ea_ := Option.some.inj (hx228_2.symm.trans hx229_2)
        injection ea_ with ea_ en_ ec_
        subst ea_
        subst ec_
        clear en_
        go_wp2
        all_goals first | (go_ret; exact ⟨by first | rfl | (simp; done) | (simp [*]; done), by repeat (first | exact Drawn0.refl _ | apply Drawn0.step)⟩) | (exfalso; simp_all; done)
       ·
        rw [if_neg c6] at H
        have c6b0 : decide (11100 < (((rd_T38 l0 x3_1).f2).length : Int)) = false := decide_eq_false c6
        have c6b1 : decide (11100 < ((rd_T38 l0 x3_1).f2).length) = false := decide_eq_false (by omega)
        clear c6
        have H' := Aside0.mk H
        clear H
        have p228 : 0 ≤ (x3_1 : Int) := of_decide_eq_true (by first | (with_reducible assumption) | assumption)
        have q228 : x3_1 < (l0.length : Int) := of_decide_eq_true (by first | (with_reducible assumption) | assumption)
        obtain ⟨ad228, A228_2, c228_2, e228, hx228_0, hx228_1, hx228_2, hl228_2, hi228_2⟩ := at_T38 HR0.out x3_1 p228 q228
        cases e228
        have HR228_2 := Aside0.mk hi228_2
        have HC228_2 := Aside0.mk hl228_2
        clear hi228_2 hl228_2
        replace p228 := eq_true p228
        replace q228 := eq_true q228
        have p229 : 0 ≤ (x3_1 : Int) := of_decide_eq_true (by first | (with_reducible assumption) | assumption)
        have q229 : x3_1 < (l0.length : Int) := of_decide_eq_true (by first | (with_reducible assumption) | assumption)
        obtain ⟨ad229, A229_2, c229_2, e229, hx229_0, hx229_1, hx229_2, hl229_2, hi229_2⟩ := at_T38 HR0.out x3_1 p229 q229
        obtain rfl : ad228 = ad229 := (by injection e229)
        have HR229_2 := Aside0.mk hi229_2
        have HC229_2 := Aside0.mk hl229_2
        clear hi229_2 hl229_2
        replace p229 := eq_true p229
        replace q229 := eq_true q229
        have ea_ := Option.some.inj (hx228_2.symm.trans hx229_2)
        injection ea_ with ea_ en_ ec_
        subst ea_
        subst ec_
        clear en_
        go_wp2
        go_roundg k1
        case measure => have := HK1.out; omega
        case rel => exact ⟨(wrap64 (x3_1 + 1)), (by first | rfl | (simp; done) | (simp [*]; done)), H', ⟨by have := HK1.out; omega⟩, by repeat (first | exact Drawn0.refl _ | apply Drawn0.step)⟩
     ·
      rw [if_neg c4] at H
      exact absurd H (by simp)
    ·
     rw [if_neg c3] at H
     have c3b0 : decide (x3_1 < (l0.length : Int)) = false := decide_eq_false c3
     clear c3
     obtain rfl := Option.some.inj H
     go_wp2
     all_goals first | (go_ret; exact ⟨by first | rfl | (simp; done) | (simp [*]; done), by repeat (first | exact Drawn0.refl _ | apply Drawn0.step)⟩) | (exfalso; simp_all; done)

end Go.Proofs.Ytpjkaodbcclecaa.PM
