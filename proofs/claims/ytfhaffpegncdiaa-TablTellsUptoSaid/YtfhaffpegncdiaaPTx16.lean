/- What functions of the given program come to, and that they do: written out of the translation by a program of this session; Lean checks it. -/
import Derived.Test.YtfhaffpegncdiaaShort
import Derived.Test.YtfhaffpegncdiaaPTx0
import Derived.Test.YtfhaffpegncdiaaTTablSame
import Derived.Test.YtfhaffpegncdiaaPTx3
import Derived.Test.YtfhaffpegncdiaaPTx5
import Derived.Test.YtfhaffpegncdiaaPTx6
import Derived.Test.YtfhaffpegncdiaaPTx7
import Derived.Test.YtfhaffpegncdiaaPTx13
import Derived.Test.YtfhaffpegncdiaaPTx15
namespace Go.Proofs.Ytfhaffpegncdiaa.PT
open Go.RowKit Go.Proofs.YtfhaffpegncdiaaW.PrintWords Go.Proofs.YtfhaffpegncdiaaW.PrintLast Go.Proofs.YtfhaffpegncdiaaW.PrintMore
attribute [local go_sem] max2_int min2_int max_two min_two max_three min_three max_four min_four   -- for this text's walks alone
set_option linter.unusedVariables false
set_option linter.unusedSimpArgs false

/-! ### zfT: function 4 -/
mutual
def zfT.j0 : Nat → List Int → List (S24) → Int → Int → Int → Bool → Option (Bool)
 | 0, _, _, _, _, _, _ => none
 | k + 1, x0, x1, x2, x3, x4, x29 => if x29 = true then ((waybilllaw2_awake.f).bind fun t348 => (some t348)) else ((tabl_Append.f (([7] : List Int)) x1).bind fun bt352 => ((waybillref1_Table.f k x1).bind fun bt356 => (if (bt352.2 != bt356.2) = true then (zfT.j1 k x0 x2 x3 x4 bt356.1 true) else ((tabl_Ok.f x1).bind fun t360 => (if (t360 != bt356.2) = true then (zfT.j1 k x0 x2 x3 x4 bt356.1 true) else (if 1 + (strOfNums bt356.1).size ≤ 9223372036854775807 then (zfT.j1 k x0 x2 x3 x4 bt356.1 ((strOfNums bt352.1).toList != ((⟨#[7]⟩ : ByteArray) ++ (strOfNums bt356.1)).toList)) else (none)))))))
def zfT.j1 : Nat → List Int → Int → Int → Int → List Int → Bool → Option (Bool)
 | 0, _, _, _, _, _, _ => none
 | k + 1, x0, x2, x3, x4, x13, x58 => if x58 = true then (none) else ((some (([] : List Int) : List Int)).bind fun y361 => (if y361.length + x13.length < 140737488355328 then ((some (y361 ++ x13 : List Int)).bind fun y364 => (if (y364.length : Int) > 0 then (if (y364.length : Int) = 0 then (none) else (if 0 ≤ (Int.tmod (Go.bits .and .i64 x2 65535) (y364.length : Int)) then (if (Int.tmod (Go.bits .and .i64 x2 65535) (y364.length : Int)) < (y364.length : Int) then (zfT.j2 k x0 x4 x13 (y364.set ((Int.tmod (Go.bits .and .i64 x2 65535) (y364.length : Int)) : Int).toNat (Go.bits .xor .u8 (rd y364 (Int.tmod (Go.bits .and .i64 x2 65535) (y364.length : Int))) x3))) else (none)) else (none))) else (zfT.j2 k x0 x4 x13 y364))) else (none)))
def zfT.j2 : Nat → List Int → Int → List Int → List Int → Option (Bool)
 | 0, _, _, _, _ => none
 | k + 1, x0, x4, x13, x15 => zfT.l0 k x0 x4 x13 x15 0
def zfT.l0 : Nat → List Int → Int → List Int → List Int → Int → Option (Bool)
 | 0, _, _, _, _, _ => none
 | k + 1, x0, x4, x13, x15, x16 => if x16 < 3 then (if (wrap64 ((x13.length : Int) + 1)) = 0 then (none) else (if 0 ≤ (Int.tmod (Go.bits .and .i64 x4 65535) (wrap64 ((x13.length : Int) + 1))) then (if (Int.tmod (Go.bits .and .i64 x4 65535) (wrap64 ((x13.length : Int) + 1))) ≤ (x13.length : Int) then (if 0 ≤ x16 then ((some (([x0, x15, (x13.take ((Int.tmod (Go.bits .and .i64 x4 65535) (wrap64 ((x13.length : Int) + 1))) : Int).toNat)] : List (List Int)).getD (x16).toNat [] : List Int)).bind fun y375 => ((tabl_Parse.f y375).bind fun bt378 => ((zfD.f k y375).bind fun bt382 => (if (bt378.2 != bt382.2) = true then (none) else ((zfm.f bt378.1 bt382.1).bind fun t386 => (if t386 = true then (zfT.l0 k x0 x4 x13 x15 (wrap64 (x16 + 1))) else (none))))))) else (none)) else (none)) else (none))) else ((waybilllaw2_awake.f).bind fun t369 => (some t369))
end
def zfT.f (k : Nat) (l0 : List Int) (l1 : List (S24)) (a2 : Int) (a3 : Int) (a4 : Int) : Option (Bool) := if (l0.length : Int) > 2100 then (zfT.j0 k l0 l1 a2 a3 a4 true) else ((zfS.f k l1 1).bind fun t347 => (zfT.j0 k l0 l1 a2 a3 a4 (!t347)))
theorem zfT.mono_l : ∀ k, (∀ y0 y1 y2 y3 y4 y5, LeO (zfT.j0 k y0 y1 y2 y3 y4 y5) (zfT.j0 (k + 1) y0 y1 y2 y3 y4 y5)) ∧ (∀ y0 y1 y2 y3 y4 y5, LeO (zfT.j1 k y0 y1 y2 y3 y4 y5) (zfT.j1 (k + 1) y0 y1 y2 y3 y4 y5)) ∧ (∀ y0 y1 y2 y3, LeO (zfT.j2 k y0 y1 y2 y3) (zfT.j2 (k + 1) y0 y1 y2 y3)) ∧ (∀ y0 y1 y2 y3 y4, LeO (zfT.l0 k y0 y1 y2 y3 y4) (zfT.l0 (k + 1) y0 y1 y2 y3 y4))
 | 0 => ⟨fun _ _ _ _ _ _ r h => by simp [zfT.j0] at h, fun _ _ _ _ _ _ r h => by simp [zfT.j1] at h, fun _ _ _ _ r h => by simp [zfT.j2] at h, fun _ _ _ _ _ r h => by simp [zfT.l0] at h⟩
 | k + 1 => by
  obtain ⟨ih0, ih1, ih2, ih3⟩ := zfT.mono_l k
  refine ⟨?_, ?_, ?_, ?_⟩
  ·
   intro y0 y1 y2 y3 y4 y5
   unfold zfT.j0
   repeat' first
   | (with_reducible exact ih0 _ _ _ _ _ _)
   | (with_reducible exact ih1 _ _ _ _ _ _)
   | (with_reducible exact ih2 _ _ _ _)
   | (with_reducible exact ih3 _ _ _ _ _)
   | (with_reducible exact zfS.mono _ _ _)
   | (with_reducible exact zfD.mono _ _)
   | (with_reducible exact waybillref1_Table.mono _ _)
   | (with_reducible exact LeO.refl _)
   | (with_reducible exact LeO.none _)
   | (with_reducible refine LeO.ite ?_ ?_)
   | (with_reducible refine LeO.bind ?_ (fun _ => ?_))
   | exact ih0 _ _ _ _ _ _
   | exact ih1 _ _ _ _ _ _
   | exact ih2 _ _ _ _
   | exact ih3 _ _ _ _ _
   | exact zfS.mono _ _ _
   | exact zfD.mono _ _
   | exact waybillref1_Table.mono _ _
   | exact LeO.none _
   | refine LeO.ite ?_ ?_
   | refine LeO.bind ?_ (fun _ => ?_)
  ·
   intro y0 y1 y2 y3 y4 y5
   unfold zfT.j1
   repeat' first
   | (with_reducible exact ih0 _ _ _ _ _ _)
   | (with_reducible exact ih1 _ _ _ _ _ _)
   | (with_reducible exact ih2 _ _ _ _)
   | (with_reducible exact ih3 _ _ _ _ _)
   | (with_reducible exact zfS.mono _ _ _)
   | (with_reducible exact zfD.mono _ _)
   | (with_reducible exact waybillref1_Table.mono _ _)
   | (with_reducible exact LeO.refl _)
   | (with_reducible exact LeO.none _)
   | (with_reducible refine LeO.ite ?_ ?_)
   | (with_reducible refine LeO.bind ?_ (fun _ => ?_))
   | exact ih0 _ _ _ _ _ _
   | exact ih1 _ _ _ _ _ _
   | exact ih2 _ _ _ _
   | exact ih3 _ _ _ _ _
   | exact zfS.mono _ _ _
   | exact zfD.mono _ _
   | exact waybillref1_Table.mono _ _
   | exact LeO.none _
   | refine LeO.ite ?_ ?_
   | refine LeO.bind ?_ (fun _ => ?_)
  ·
   intro y0 y1 y2 y3
   unfold zfT.j2
   repeat' first
   | (with_reducible exact ih0 _ _ _ _ _ _)
   | (with_reducible exact ih1 _ _ _ _ _ _)
   | (with_reducible exact ih2 _ _ _ _)
   | (with_reducible exact ih3 _ _ _ _ _)
   | (with_reducible exact zfS.mono _ _ _)
   | (with_reducible exact zfD.mono _ _)
   | (with_reducible exact waybillref1_Table.mono _ _)
   | (with_reducible exact LeO.refl _)
   | (with_reducible exact LeO.none _)
   | (with_reducible refine LeO.ite ?_ ?_)
   | (with_reducible refine LeO.bind ?_ (fun _ => ?_))
   | exact ih0 _ _ _ _ _ _
   | exact ih1 _ _ _ _ _ _
   | exact ih2 _ _ _ _
   | exact ih3 _ _ _ _ _
   | exact zfS.mono _ _ _
   | exact zfD.mono _ _
   | exact waybillref1_Table.mono _ _
   | exact LeO.none _
   | refine LeO.ite ?_ ?_
   | refine LeO.bind ?_ (fun _ => ?_)
  intro y0 y1 y2 y3 y4
  unfold zfT.l0
  repeat' first
  | (with_reducible exact ih0 _ _ _ _ _ _)
  | (with_reducible exact ih1 _ _ _ _ _ _)
  | (with_reducible exact ih2 _ _ _ _)
  | (with_reducible exact ih3 _ _ _ _ _)
  | (with_reducible exact zfS.mono _ _ _)
  | (with_reducible exact zfD.mono _ _)
  | (with_reducible exact waybillref1_Table.mono _ _)
  | (with_reducible exact LeO.refl _)
  | (with_reducible exact LeO.none _)
  | (with_reducible refine LeO.ite ?_ ?_)
  | (with_reducible refine LeO.bind ?_ (fun _ => ?_))
  | exact ih0 _ _ _ _ _ _
  | exact ih1 _ _ _ _ _ _
  | exact ih2 _ _ _ _
  | exact ih3 _ _ _ _ _
  | exact zfS.mono _ _ _
  | exact zfD.mono _ _
  | exact waybillref1_Table.mono _ _
  | exact LeO.none _
  | refine LeO.ite ?_ ?_
  | refine LeO.bind ?_ (fun _ => ?_)
set_option maxHeartbeats 8000000 in
set_option maxRecDepth 100000 in
theorem zfT.calls (k : Nat) (P0_ : Nat → Prop) (A0 : Option Addr) (c0 : Nat) (l0 : List Int) (A1 : Option Addr) (c1 : Nat) (l1 : List (S24)) (a2 : Int) (a3 : Int) (a4 : Int) (r : Bool) (w : World) (hs0 : Kd.V (Kd.int .u8) 5 w w.heap.size (fun k_ => P0_ k_) (.slice A0 l0.length c0) l0) (hr1 : Kd.C k24 w A1 l1.length l1) (hc1 : l1.length ≤ c1) (h : zfT.f k l0 l1 a2 a3 a4 = some r) :
  Calls Try.prog 4 #[.slice A0 l0.length c0, .slice A1 l1.length c1, .int .i64 a2, .int .u8 a3, .int .i64 a4] w fun e w' => e = .returned (.bool r) ∧ Below w.heap.size w w' := by
 have HO0 := Zs.mk (show Kd.V (Kd.int .u8) 5 w w.heap.size (fun k_ => (P0_ k_ ∨ w.heap.size ≤ k_)) (.slice A0 l0.length c0) l0 from Kd.V_mono hs0 (fun k_ hk => .inl hk))
 have HR1 := Zs.mk hr1
 have HC1 := Zs.mk hc1
 clear hr1 hc1
 have HB := Zs.mk (Below.refl w.heap.size w)
 have H : (if (l0.length : Int) > 2100 then (zfT.j0 k l0 l1 a2 a3 a4 true) else ((zfS.f k l1 1).bind fun t347 => (zfT.j0 k l0 l1 a2 a3 a4 (!t347)))) = some r := h
 clear h
 have HC6 := Zs.mk H
 clear H
 go_enter Try.func4, Try.ntmps4
 go_upto_region 1 with (fail)
 go_cut [29] (fun v29 wc => ∃ (kq : Nat) (x29_5 : Bool), v29 = .bool x29_5 ∧ Zs (zfT.j0 kq l0 l1 a2 a3 a4 x29_5 = some r) ∧ Zs (kq ≤ k) ∧ Zs (Kd.V (Kd.int .u8) 5 wc w.heap.size (fun k_ => (P0_ k_ ∨ w.heap.size ≤ k_)) (.slice A0 l0.length c0) l0) ∧ Zs (Below w.heap.size w wc))
 case first =>
  have H := HC6.out
  clear HC6
  by_cases c7 : (l0.length : Int) > 2100
  ·
   rw [if_pos c7] at H
   have c7b0 : decide (2100 < (l0.length : Int)) = true := decide_eq_true c7
   have c7b1 : decide (2100 < l0.length) = true := decide_eq_true (by omega)
   clear c7
   (first | rw [c7b0] | rw [c7b2] | rw [c7b1] | (simp only [i64_w, i32_w]; rw [c7b0]) | skip)
   have H' := Zs.mk H
   clear H
   go_wp2
   go_meet
   case rel => exact ⟨_, (true), (by first | rfl | (simp; done) | (simp [*]; done)), H', ⟨by first | omega | exact Nat.le_refl _⟩, ⟨by (with_reducible repeat (first | apply Kd.V_alloc | apply Kd.V_drewN | apply Kd.V_drew)); exact HO0.out⟩, ⟨by repeat (first | (with_reducible first | exact HB.out | apply zba | apply zbn | apply zbd) | exact HB.out)⟩⟩
  rw [if_neg c7] at H
  have c7b0 : decide (2100 < (l0.length : Int)) = false := decide_eq_false c7
  have c7b1 : decide (2100 < l0.length) = false := decide_eq_false (by omega)
  clear c7
  (first | rw [c7b0] | rw [c7b2] | rw [c7b1] | (simp only [i64_w, i32_w]; rw [c7b0]) | skip)
  replace H := Option.bind_eq_some_iff.mp H
  obtain ⟨t347, A80, H⟩ := H
  replace H : (zfT.j0 k l0 l1 a2 a3 a4 (!t347)) = some r := H
  have A8 := Zs.mk A80
  clear A80
  have H' := Zs.mk H
  clear H
  go_wp2_with (first | (go_at_call 15; (with_reducible refine (zfS.calls k _ _ l1 1 t347 _ ?side1 ?side2 A8.out).mono ?_); (case side1 => repeat (first | exact (Kd.C_below HR1.out HB.out) | (with_reducible refine Kd.C_alloc ?_ _) | (with_reducible refine Kd.C_drewN ?_ _) | (with_reducible refine Kd.C_drew ?_))); (case side2 => exact HC1.out); rintro e w' ⟨rfl, ⟨nd, rfl⟩⟩))
  go_meet
  case rel => exact ⟨_, (!t347), (by first | rfl | (simp; done) | (simp [*]; done)), H', ⟨by first | omega | exact Nat.le_refl _⟩, ⟨by (with_reducible repeat (first | apply Kd.V_alloc | apply Kd.V_drewN | apply Kd.V_drew)); exact HO0.out⟩, ⟨by repeat (first | (with_reducible first | exact HB.out | apply zba | apply zbn | apply zbd) | exact HB.out)⟩⟩
 case rest =>
  clear HC6
  try clear c1
  try clear p2
  try clear c4
  try clear c7
  try clear c7b0
  try clear c7b1
  obtain ⟨kq, x29_5, rfl, HA, HJ5, HO_0, HB⟩ := hcut
  cases kq with
  | zero => exact absurd HA.out (by simp [zfT.j0])
  | succ kj5 =>
   have H := HA.out
   clear HA
   simp only [zfT.j0] at H
   by_cases c9 : x29_5 = true
   ·
    subst c9
    have H1 : ((waybilllaw2_awake.f).bind fun t348 => (some t348)) = some r := by rw [if_pos rfl] at H; exact H
    clear H
    have H := H1
    clear H1
    replace H := Option.bind_eq_some_iff.mp H
    obtain ⟨t348, A100, H⟩ := H
    replace H : (some t348) = some r := H
    have A10 := Zs.mk A100
    clear A100
    obtain rfl := Option.some.inj H
    go_wp2_with (first | ((with_reducible refine gate_callee (f := 14) rfl ?_); refine goesL_ (some 30) rfl rfl Try.func14 (by kernel_rfl) rfl #[] rfl (by (try simp only [List.map_toArray, List.map_cons, List.map_nil]); first | done | rfl | (simp only [List.length_drop, List.length_take]; rfl)) ?_; (with_reducible refine (waybilllaw2_awake.calls  t348 _ A10.out).mono ?_); rintro e w11 ⟨rfl, hb⟩; refine ⟨_, rfl, ?_⟩; have n0_ := Zs.mk (Kd.V_below (by (with_reducible repeat (first | apply Kd.V_alloc | apply Kd.V_drewN | apply Kd.V_drew)); exact HO_0.out) hb); have n1_ := Zs.mk (zbt (by repeat (first | (with_reducible first | exact HB.out | apply zba | apply zbn | apply zbd) | exact HB.out)) hb); clear HO_0; clear HB; have HO_0 := n0_; have HB := n1_; clear n0_ n1_; (try clear hb); (try clear hb2); (try clear hk); (try clear hi); (try clear hge)))
    all_goals first | (go_ret; exact ⟨by first | rfl | (simp [zen, zes]; done) | (simp [zen, zes]; rfl) | (simp [*, zen, zes]; done) | (simp [*, zen, zes]; rfl), by repeat (first | (with_reducible first | exact HB.out | apply zba | apply zbn | apply zbd) | exact HB.out)⟩) | (exfalso; simp_all; done)
   replace c9 := Bool.eq_false_iff.mpr c9
   subst c9
   have H1 : ((tabl_Append.f (([7] : List Int)) l1).bind fun bt352 => ((waybillref1_Table.f kj5 l1).bind fun bt356 => (if (bt352.2 != bt356.2) = true then (zfT.j1 kj5 l0 a2 a3 a4 bt356.1 true) else ((tabl_Ok.f l1).bind fun t360 => (if (t360 != bt356.2) = true then (zfT.j1 kj5 l0 a2 a3 a4 bt356.1 true) else (if 1 + (strOfNums bt356.1).size ≤ 9223372036854775807 then (zfT.j1 kj5 l0 a2 a3 a4 bt356.1 ((strOfNums bt352.1).toList != ((⟨#[7]⟩ : ByteArray) ++ (strOfNums bt356.1)).toList)) else (none))))))) = some r := by rw [if_neg (show ¬ (false = true) by decide)] at H; exact H
   clear H
   have H := H1
   clear H1
   obtain ⟨y349, hy349⟩ : ∃ y_ : List Int, y_ = (([7] : List Int)) := ⟨_, rfl⟩
   replace H : ((tabl_Append.f y349 l1).bind fun bt352 => ((waybillref1_Table.f kj5 l1).bind fun bt356 => (if (bt352.2 != bt356.2) = true then (zfT.j1 kj5 l0 a2 a3 a4 bt356.1 true) else ((tabl_Ok.f l1).bind fun t360 => (if (t360 != bt356.2) = true then (zfT.j1 kj5 l0 a2 a3 a4 bt356.1 true) else (if 1 + (strOfNums bt356.1).size ≤ 9223372036854775807 then (zfT.j1 kj5 l0 a2 a3 a4 bt356.1 ((strOfNums bt352.1).toList != ((⟨#[7]⟩ : ByteArray) ++ (strOfNums bt356.1)).toList)) else (none))))))) = some r := by first | (rw [hy349]; with_reducible exact H) | (have H2_ := (Option.bind_some _ _).symm.trans H; rw [hy349]; with_reducible exact H2_) | (have H2_ := (Option.bind_some _ _).symm.trans H; with_reducible exact H2_) | with_reducible exact H | (rw [hy349]; exact H) | exact H
   have Ny349 := Zs.mk hy349
   clear hy349
   replace H := Option.bind_eq_some_iff.mp H
   obtain ⟨⟨t352, t353⟩, A120, H⟩ := H
   replace H : ((waybillref1_Table.f kj5 l1).bind fun bt356 => (if (t353 != bt356.2) = true then (zfT.j1 kj5 l0 a2 a3 a4 bt356.1 true) else ((tabl_Ok.f l1).bind fun t360 => (if (t360 != bt356.2) = true then (zfT.j1 kj5 l0 a2 a3 a4 bt356.1 true) else (if 1 + (strOfNums bt356.1).size ≤ 9223372036854775807 then (zfT.j1 kj5 l0 a2 a3 a4 bt356.1 ((strOfNums t352).toList != ((⟨#[7]⟩ : ByteArray) ++ (strOfNums bt356.1)).toList)) else (none)))))) = some r := H
   have A12 := Zs.mk A120
   clear A120
   replace H := Option.bind_eq_some_iff.mp H
   obtain ⟨⟨t356, t357⟩, A130, H⟩ := H
   replace H : (if (t353 != t357) = true then (zfT.j1 kj5 l0 a2 a3 a4 t356 true) else ((tabl_Ok.f l1).bind fun t360 => (if (t360 != t357) = true then (zfT.j1 kj5 l0 a2 a3 a4 t356 true) else (if 1 + (strOfNums t356).size ≤ 9223372036854775807 then (zfT.j1 kj5 l0 a2 a3 a4 t356 ((strOfNums t352).toList != ((⟨#[7]⟩ : ByteArray) ++ (strOfNums t356)).toList)) else (none))))) = some r := H
   have A13 := Zs.mk A130
   clear A130
   have HC14 := Zs.mk H
   clear H
   go_upto_region 5 with (first | ((with_reducible refine gate_dst (N := 32) rfl ?_); refine Kd.R_lit (Kd.int .u8) _ 5 ?hg (N := 32) ?hd (xs := ([7] : List Int)) (inner := [.int .u8 7]) (ok := fun _ => True) (okp := fun _ => True) ?hr ?hp (fun _ hk => hk) trivial (Below.refl _ _) (Nat.le_refl _) (by simp) ?_; (case hd => rfl); (case hg => rfl); (case hr => first | (go_simp; done) | (go_simp; rfl)); (case hp => exact (Reps.one (show Kd.M (Kd.int .u8) _ _ _ 7 [.int .u8 7] from rfl) (Reps.none _ _))); intro v350 w15 ho16 hb hg_ hnew_; clear hg_ hnew_; (first | rw [← Ny349.out] at ho16 | (simp only [Int.reduceToNat] at ho16; rw [← Ny349.out] at ho16)); have n0_ := Zs.mk (Kd.V_elder' (by (with_reducible repeat (first | apply Kd.V_alloc | apply Kd.V_drewN | apply Kd.V_drew)); exact HO_0.out) (Kd.R_base ho16) hb); have n1_ := Zs.mk (Kd.R_lower (Kd.R_newM (M := fun k_ => (w.heap.size ≤ k_)) ho16 (zbz (by repeat (first | (with_reducible first | exact HB.out | apply zba | apply zbn | apply zbd) | exact HB.out))) (fun k_ h_ => h_)) (zbz (by repeat (first | (with_reducible first | exact HB.out | apply zba | apply zbn | apply zbd) | exact HB.out)))); have n2_ := Zs.mk (zbt (by repeat (first | (with_reducible first | exact HB.out | apply zba | apply zbn | apply zbd) | exact HB.out)) hb); clear HO_0; clear HB; have HO_0 := n0_; have HO351 := n1_; have HB := n2_; clear n0_ n1_ n2_; clear hb ho16; obtain ⟨Ao17, co17, eo17⟩ := Kd.R_slice HO351.out; subst eo17) | ((with_reducible refine gate_callee (f := 11) rfl ?_); refine goesL_ (some 34) rfl rfl Try.func11 (by kernel_rfl) rfl #[.slice Ao17 y349.length co17, .slice A1 l1.length c1] rfl (by (try simp only [List.map_toArray, List.map_cons, List.map_nil]); first | done | rfl | (simp only [List.length_drop, List.length_take]; rfl)) ?_; (with_reducible refine (tabl_Append.calls _ _ y349 _ _ l1 t352 t353 _ ?side1 ?side2 ?side3 ?side4 A12.out).mono ?_); (case side1 => repeat (first | exact (Kd.R_reads' HO351.out).2.2 | (with_reducible refine Kd.C_alloc ?_ _) | (with_reducible refine Kd.C_drewN ?_ _) | (with_reducible refine Kd.C_drew ?_))); (case side2 => exact (Kd.R_reads' HO351.out).2.1); (case side3 => repeat (first | exact (Kd.C_below HR1.out HB.out) | (with_reducible refine Kd.C_alloc ?_ _) | (with_reducible refine Kd.C_drewN ?_ _) | (with_reducible refine Kd.C_drew ?_))); (case side4 => exact HC1.out); rintro e w18 ⟨v354, rfl, ho0, hb⟩; refine ⟨_, rfl, ?_⟩; have n0_ := Zs.mk (Kd.V_elder' (by (with_reducible repeat (first | apply Kd.V_alloc | apply Kd.V_drewN | apply Kd.V_drew)); exact HO_0.out) (Kd.R_base ho0) hb); have n1_ := Zs.mk (Kd.R_elder' (by (with_reducible repeat (first | apply Kd.R_alloc | apply Kd.R_drewN | apply Kd.R_drew)); exact HO351.out) (Kd.R_base ho0) hb); have n2_ := Zs.mk (Kd.R_lower (Kd.R_new' (Kd.R_newM (M := fun k_ => (w.heap.size ≤ k_)) ho0 (zbz (by repeat (first | (with_reducible first | exact HB.out | apply zba | apply zbn | apply zbd) | exact HB.out))) (fun k_ h_ => h_)) (Kd.R_lt (by (with_reducible repeat (first | apply Kd.R_alloc | apply Kd.R_drewN | apply Kd.R_drew)); exact HO351.out))) (zbz (by repeat (first | (with_reducible first | exact HB.out | apply zba | apply zbn | apply zbd) | exact HB.out)))); have n3_ := Zs.mk (zbt (by repeat (first | (with_reducible first | exact HB.out | apply zba | apply zbn | apply zbd) | exact HB.out)) hb); clear HO_0; clear HO351; clear HB; have HO_0 := n0_; have HO351 := n1_; have HO355 := n2_; have HB := n3_; clear n0_ n1_ n2_ n3_; (try clear hb); (try clear hb2); (try clear hk); (try clear hi); (try clear hge); (try clear ho0)) | ((with_reducible refine gate_callee (f := 16) rfl ?_); refine goesL_ (some 39) rfl rfl Try.func16 (by kernel_rfl) rfl #[.slice A1 l1.length c1] rfl (by (try simp only [List.map_toArray, List.map_cons, List.map_nil]); first | done | rfl | (simp only [List.length_drop, List.length_take]; rfl)) ?_; (with_reducible refine (waybillref1_Table.calls kj5 _ _ l1 t356 t357 _ ?side1 ?side2 A13.out).mono ?_); (case side1 => repeat (first | exact (Kd.C_below HR1.out HB.out) | (with_reducible refine Kd.C_alloc ?_ _) | (with_reducible refine Kd.C_drewN ?_ _) | (with_reducible refine Kd.C_drew ?_))); (case side2 => exact HC1.out); rintro e w19 ⟨v358, rfl, ho0, hb⟩; refine ⟨_, rfl, ?_⟩; have n0_ := Zs.mk (Kd.V_elder' (by (with_reducible repeat (first | apply Kd.V_alloc | apply Kd.V_drewN | apply Kd.V_drew)); exact HO_0.out) (Kd.R_base ho0) hb); have n1_ := Zs.mk (Kd.R_elder' (by (with_reducible repeat (first | apply Kd.R_alloc | apply Kd.R_drewN | apply Kd.R_drew)); exact HO351.out) (Kd.R_base ho0) hb); have n2_ := Zs.mk (Kd.R_elder' (by (with_reducible repeat (first | apply Kd.R_alloc | apply Kd.R_drewN | apply Kd.R_drew)); exact HO355.out) (Kd.R_base ho0) hb); have n3_ := Zs.mk (Kd.R_lower (Kd.R_new' (Kd.R_new' (Kd.R_newM (M := fun k_ => (w.heap.size ≤ k_)) ho0 (zbz (by repeat (first | (with_reducible first | exact HB.out | apply zba | apply zbn | apply zbd) | exact HB.out))) (fun k_ h_ => h_)) (Kd.R_lt (by (with_reducible repeat (first | apply Kd.R_alloc | apply Kd.R_drewN | apply Kd.R_drew)); exact HO351.out))) (Kd.R_lt (by (with_reducible repeat (first | apply Kd.R_alloc | apply Kd.R_drewN | apply Kd.R_drew)); exact HO355.out))) (zbz (by repeat (first | (with_reducible first | exact HB.out | apply zba | apply zbn | apply zbd) | exact HB.out)))); have n4_ := Zs.mk (zbt (by repeat (first | (with_reducible first | exact HB.out | apply zba | apply zbn | apply zbd) | exact HB.out)) hb); clear HO_0; clear HO351; clear HO355; clear HB; have HO_0 := n0_; have HO351 := n1_; have HO355 := n2_; have HO359 := n3_; have HB := n4_; clear n0_ n1_ n2_ n3_ n4_; (try clear hb); (try clear hb2); (try clear hk); (try clear hi); (try clear hge); (try clear ho0)))
   (try simp only [Act.put, zq1, zq2, zq3])
   go_cut [58] (fun v58 wc => ∃ (kq : Nat) (x58_13 : Bool), v58 = .bool x58_13 ∧ Zs (zfT.j1 kq l0 a2 a3 a4 t356 x58_13 = some r) ∧ Zs (kq ≤ kj5) ∧ Zs (Kd.V (Kd.int .u8) 5 wc w.heap.size (fun k_ => (P0_ k_ ∨ w.heap.size ≤ k_) ∧ some k_ ≠ (v358 : Value).ownBlock) (.slice A0 l0.length c0) l0) ∧ Zs (Kd.R (Kd.int .u8) 5 wc w.heap.size (fun k_ => (w.heap.size ≤ k_)) v358 t356) ∧ Zs (Below w.heap.size w wc))
   case first =>
    have H := HC14.out
    clear HC14
    by_cases c20 : (t353 != t357) = true
    ·
     rw [if_pos c20] at H
     have c20b0 : (t353 != t357) = true := c20
     (try (have c20b1 : decide (t353 = t357) = false := by simpa using c20))
     (try (have c20b2 : (t353 == t357) = false := by simpa using c20))
     (try (have c20b3 : ¬ (t353 = t357) := by simpa using c20))
     clear c20
     (first | rw [c20b0] | rw [c20b2] | rw [c20b1] | (simp only [i64_w, i32_w]; rw [c20b0]) | skip)
     have H' := Zs.mk H
     clear H
     go_wp2
     go_meet
     case rel => exact ⟨_, (true), (by first | rfl | (simp; done) | (simp [*]; done)), H', ⟨by have := HJ5.out; first | omega | exact Nat.le_refl _⟩, ⟨by (with_reducible repeat (first | apply Kd.V_alloc | apply Kd.V_drewN | apply Kd.V_drew)); exact Kd.V_mono HO_0.out (fun _ hk => ⟨hk.1.1.1, hk.2⟩)⟩, ⟨by (with_reducible repeat (first | apply Kd.R_alloc | apply Kd.R_drewN | apply Kd.R_drew)); exact Kd.R_mono HO359.out (fun _ hk => hk.1.1.1)⟩, ⟨by repeat (first | (with_reducible first | exact HB.out | apply zba | apply zbn | apply zbd) | exact HB.out)⟩⟩
    rw [if_neg c20] at H
    have c20b0 : (t353 != t357) = false := by simpa using c20
    (try (have c20b1 : decide (t353 = t357) = true := by simpa using c20))
    (try (have c20b2 : (t353 == t357) = true := by simpa using c20))
    clear c20
    (first | rw [c20b0] | rw [c20b2] | rw [c20b1] | (simp only [i64_w, i32_w]; rw [c20b0]) | skip)
    replace H := Option.bind_eq_some_iff.mp H
    obtain ⟨t360, A210, H⟩ := H
    replace H : (if (t360 != t357) = true then (zfT.j1 kj5 l0 a2 a3 a4 t356 true) else (if 1 + (strOfNums t356).size ≤ 9223372036854775807 then (zfT.j1 kj5 l0 a2 a3 a4 t356 ((strOfNums t352).toList != ((⟨#[7]⟩ : ByteArray) ++ (strOfNums t356)).toList)) else (none))) = some r := H
    have A21 := Zs.mk A210
    clear A210
    by_cases c22 : (t360 != t357) = true
    ·
     rw [if_pos c22] at H
     have c22b0 : (t360 != t357) = true := c22
     (try (have c22b1 : decide (t360 = t357) = false := by simpa using c22))
     (try (have c22b2 : (t360 == t357) = false := by simpa using c22))
     (try (have c22b3 : ¬ (t360 = t357) := by simpa using c22))
     clear c22
     have H' := Zs.mk H
     clear H
     go_wp2_with (first | (go_at_call 13; (with_reducible refine (tabl_Ok.calls _ _ l1 t360 _ ?side1 ?side2 A21.out).mono ?_); (case side1 => repeat (first | exact (Kd.C_below HR1.out HB.out) | (with_reducible refine Kd.C_alloc ?_ _) | (with_reducible refine Kd.C_drewN ?_ _) | (with_reducible refine Kd.C_drew ?_))); (case side2 => exact HC1.out); rintro e w23 ⟨rfl, hb⟩; have n0_ := Zs.mk (Kd.V_below (by (with_reducible repeat (first | apply Kd.V_alloc | apply Kd.V_drewN | apply Kd.V_drew)); exact HO_0.out) hb); have n1_ := Zs.mk (Kd.R_below (by (with_reducible repeat (first | apply Kd.R_alloc | apply Kd.R_drewN | apply Kd.R_drew)); exact HO351.out) hb); have n2_ := Zs.mk (Kd.R_below (by (with_reducible repeat (first | apply Kd.R_alloc | apply Kd.R_drewN | apply Kd.R_drew)); exact HO355.out) hb); have n3_ := Zs.mk (Kd.R_below (by (with_reducible repeat (first | apply Kd.R_alloc | apply Kd.R_drewN | apply Kd.R_drew)); exact HO359.out) hb); have n4_ := Zs.mk (zbt (by repeat (first | (with_reducible first | exact HB.out | apply zba | apply zbn | apply zbd) | exact HB.out)) hb); clear HO_0; clear HO351; clear HO355; clear HO359; clear HB; have HO_0 := n0_; have HO351 := n1_; have HO355 := n2_; have HO359 := n3_; have HB := n4_; clear n0_ n1_ n2_ n3_ n4_; (try clear hb); (try clear hb2); (try clear hk); (try clear hi); (try clear hge)))
     go_meet
     case rel => exact ⟨_, (true), (by first | rfl | (simp; done) | (simp [*]; done)), H', ⟨by have := HJ5.out; first | omega | exact Nat.le_refl _⟩, ⟨by (with_reducible repeat (first | apply Kd.V_alloc | apply Kd.V_drewN | apply Kd.V_drew)); exact Kd.V_mono HO_0.out (fun _ hk => ⟨hk.1.1.1, hk.2⟩)⟩, ⟨by (with_reducible repeat (first | apply Kd.R_alloc | apply Kd.R_drewN | apply Kd.R_drew)); exact Kd.R_mono HO359.out (fun _ hk => hk.1.1.1)⟩, ⟨by repeat (first | (with_reducible first | exact HB.out | apply zba | apply zbn | apply zbd) | exact HB.out)⟩⟩
    rw [if_neg c22] at H
    have c22b0 : (t360 != t357) = false := by simpa using c22
    (try (have c22b1 : decide (t360 = t357) = true := by simpa using c22))
    (try (have c22b2 : (t360 == t357) = true := by simpa using c22))
    clear c22
    by_cases c24 : 1 + (strOfNums t356).size ≤ 9223372036854775807
    ·
     rw [if_pos c24] at H
     have c24b0 := eq_true c24
     have c24b1 : decide (1 + (strOfNums t356).size ≤ 9223372036854775807) = true := decide_eq_true c24
     try have c24b2 : (9223372036854775807 < 1 + (strOfNums t356).size) = False := eq_false (Nat.not_lt.2 c24)
     have H' := Zs.mk H
     clear H
     go_wp2_with (first | (go_at_call 13; (with_reducible refine (tabl_Ok.calls _ _ l1 t360 _ ?side1 ?side2 A21.out).mono ?_); (case side1 => repeat (first | exact (Kd.C_below HR1.out HB.out) | (with_reducible refine Kd.C_alloc ?_ _) | (with_reducible refine Kd.C_drewN ?_ _) | (with_reducible refine Kd.C_drew ?_))); (case side2 => exact HC1.out); rintro e w25 ⟨rfl, hb⟩; have n0_ := Zs.mk (Kd.V_below (by (with_reducible repeat (first | apply Kd.V_alloc | apply Kd.V_drewN | apply Kd.V_drew)); exact HO_0.out) hb); have n1_ := Zs.mk (Kd.R_below (by (with_reducible repeat (first | apply Kd.R_alloc | apply Kd.R_drewN | apply Kd.R_drew)); exact HO351.out) hb); have n2_ := Zs.mk (Kd.R_below (by (with_reducible repeat (first | apply Kd.R_alloc | apply Kd.R_drewN | apply Kd.R_drew)); exact HO355.out) hb); have n3_ := Zs.mk (Kd.R_below (by (with_reducible repeat (first | apply Kd.R_alloc | apply Kd.R_drewN | apply Kd.R_drew)); exact HO359.out) hb); have n4_ := Zs.mk (zbt (by repeat (first | (with_reducible first | exact HB.out | apply zba | apply zbn | apply zbd) | exact HB.out)) hb); clear HO_0; clear HO351; clear HO355; clear HO359; clear HB; have HO_0 := n0_; have HO351 := n1_; have HO355 := n2_; have HO359 := n3_; have HB := n4_; clear n0_ n1_ n2_ n3_ n4_; (try clear hb); (try clear hb2); (try clear hk); (try clear hi); (try clear hge); have hcv26 := own_string (P := Try.prog) Try.underlying25 Try.underlying5 Try.underlying9 (Kd.own_of_R HO355.out); have hcv27 := own_string (P := Try.prog) Try.underlying25 Try.underlying5 Try.underlying9 (Kd.own_of_R HO359.out)))
     go_meet
     case rel => exact ⟨_, (((strOfNums t352).toList != ((⟨#[7]⟩ : ByteArray) ++ (strOfNums t356)).toList)), (by first | rfl | (simp; done) | (simp [*]; done)), H', ⟨by have := HJ5.out; first | omega | exact Nat.le_refl _⟩, ⟨by (with_reducible repeat (first | apply Kd.V_alloc | apply Kd.V_drewN | apply Kd.V_drew)); exact Kd.V_mono HO_0.out (fun _ hk => ⟨hk.1.1.1, hk.2⟩)⟩, ⟨by (with_reducible repeat (first | apply Kd.R_alloc | apply Kd.R_drewN | apply Kd.R_drew)); exact Kd.R_mono HO359.out (fun _ hk => hk.1.1.1)⟩, ⟨by repeat (first | (with_reducible first | exact HB.out | apply zba | apply zbn | apply zbd) | exact HB.out)⟩⟩
    rw [if_neg c24] at H
    exact absurd H (by simp)
   case rest =>
    clear HC14
    try clear c1
    try clear c2
    try clear p2
    try clear hcv2
    try clear c4
    try clear c7
    try clear c7b0
    try clear c7b1
    try clear c9
    try clear c11
    try clear c14
    try clear c16
    try clear c20
    try clear c20b0
    try clear c20b1
    try clear c20b2
    try clear c22
    try clear c22b0
    try clear c22b1
    try clear c22b2
    try clear c24
    try clear c24b0
    try clear c24b1
    try clear c24b2
    try clear hcv26
    try clear hcv27
    try clear p2
    obtain ⟨kq, x58_13, rfl, HA, HJ13, HO_0, HO_13, HB⟩ := hcut
    cases kq with
    | zero => exact absurd HA.out (by simp [zfT.j1])
    | succ kj13 =>
     have H := HA.out
     clear HA
     simp only [zfT.j1] at H
     by_cases c28 : x58_13 = true
     ·
      subst c28
      have H1 : (none) = some r := by rw [if_pos rfl] at H; exact H
      clear H
      have H := H1
      clear H1
      exact absurd H (by simp)
     replace c28 := Bool.eq_false_iff.mpr c28
     subst c28
     have H1 : ((some (([] : List Int) : List Int)).bind fun y361 => (if y361.length + t356.length < 140737488355328 then ((some (y361 ++ t356 : List Int)).bind fun y364 => (if (y364.length : Int) > 0 then (if (y364.length : Int) = 0 then (none) else (if 0 ≤ (Int.tmod (Go.bits .and .i64 a2 65535) (y364.length : Int)) then (if (Int.tmod (Go.bits .and .i64 a2 65535) (y364.length : Int)) < (y364.length : Int) then (zfT.j2 kj13 l0 a4 t356 (y364.set ((Int.tmod (Go.bits .and .i64 a2 65535) (y364.length : Int)) : Int).toNat (Go.bits .xor .u8 (rd y364 (Int.tmod (Go.bits .and .i64 a2 65535) (y364.length : Int))) a3))) else (none)) else (none))) else (zfT.j2 kj13 l0 a4 t356 y364))) else (none))) = some r := by rw [if_neg (show ¬ (false = true) by decide)] at H; exact H
     clear H
     have H := H1
     clear H1
     obtain ⟨y361, hy361⟩ : ∃ y_ : List Int, y_ = (([] : List Int)) := ⟨_, rfl⟩
     replace H : (if y361.length + t356.length < 140737488355328 then ((some (y361 ++ t356 : List Int)).bind fun y364 => (if (y364.length : Int) > 0 then (if (y364.length : Int) = 0 then (none) else (if 0 ≤ (Int.tmod (Go.bits .and .i64 a2 65535) (y364.length : Int)) then (if (Int.tmod (Go.bits .and .i64 a2 65535) (y364.length : Int)) < (y364.length : Int) then (zfT.j2 kj13 l0 a4 t356 (y364.set ((Int.tmod (Go.bits .and .i64 a2 65535) (y364.length : Int)) : Int).toNat (Go.bits .xor .u8 (rd y364 (Int.tmod (Go.bits .and .i64 a2 65535) (y364.length : Int))) a3))) else (none)) else (none))) else (zfT.j2 kj13 l0 a4 t356 y364))) else (none)) = some r := by first | (rw [hy361]; with_reducible exact H) | (have H2_ := (Option.bind_some _ _).symm.trans H; rw [hy361]; with_reducible exact H2_) | (have H2_ := (Option.bind_some _ _).symm.trans H; with_reducible exact H2_) | with_reducible exact H | (rw [hy361]; exact H) | exact H
     have Ny361 := Zs.mk hy361
     clear hy361
     by_cases c29 : y361.length + t356.length < 140737488355328
     ·
      rw [if_pos c29] at H
      have LMc29 := Zs.mk c29
      clear c29
      obtain ⟨y364, hy364⟩ : ∃ y_ : List Int, y_ = (y361 ++ t356) := ⟨_, rfl⟩
      replace H : (if (y364.length : Int) > 0 then (if (y364.length : Int) = 0 then (none) else (if 0 ≤ (Int.tmod (Go.bits .and .i64 a2 65535) (y364.length : Int)) then (if (Int.tmod (Go.bits .and .i64 a2 65535) (y364.length : Int)) < (y364.length : Int) then (zfT.j2 kj13 l0 a4 t356 (y364.set ((Int.tmod (Go.bits .and .i64 a2 65535) (y364.length : Int)) : Int).toNat (Go.bits .xor .u8 (rd y364 (Int.tmod (Go.bits .and .i64 a2 65535) (y364.length : Int))) a3))) else (none)) else (none))) else (zfT.j2 kj13 l0 a4 t356 y364)) = some r := by first | (rw [hy364]; with_reducible exact H) | (have H2_ := (Option.bind_some _ _).symm.trans H; rw [hy364]; with_reducible exact H2_) | (have H2_ := (Option.bind_some _ _).symm.trans H; with_reducible exact H2_) | with_reducible exact H | (rw [hy364]; exact H) | exact H
      have Ny364 := Zs.mk hy364
      clear hy364
      have HC30 := Zs.mk H
      clear H
      go_upto_if 64 with (first | ((with_reducible refine gate_dst (N := 59) rfl ?_); refine Kd.R_lit (Kd.int .u8) _ 5 ?hg (N := 59) ?hd (xs := ([] : List Int)) (inner := []) (ok := fun _ => True) (okp := fun _ => True) ?hr ?hp (fun _ hk => hk) trivial (Below.refl _ _) (Nat.le_refl _) (by simp) ?_; (case hd => rfl); (case hg => rfl); (case hr => first | (go_simp; done) | (go_simp; rfl)); (case hp => exact (Reps.none _ _)); intro v362 w31 ho32 hb hg_ hnew_; clear hg_ hnew_; (first | rw [← Ny361.out] at ho32 | (simp only [Int.reduceToNat] at ho32; rw [← Ny361.out] at ho32)); have n0_ := Zs.mk (Kd.V_elder' (by (with_reducible repeat (first | apply Kd.V_alloc | apply Kd.V_drewN | apply Kd.V_drew)); exact HO_0.out) (Kd.R_base ho32) hb); have n1_ := Zs.mk (Kd.R_elder' (by (with_reducible repeat (first | apply Kd.R_alloc | apply Kd.R_drewN | apply Kd.R_drew)); exact HO_13.out) (Kd.R_base ho32) hb); have n2_ := Zs.mk (Kd.R_lower (Kd.R_new' (Kd.R_newM (M := fun k_ => (w.heap.size ≤ k_)) ho32 (zbz (by repeat (first | (with_reducible first | exact HB.out | apply zba | apply zbn | apply zbd) | exact HB.out))) (fun k_ h_ => h_)) (Kd.R_lt (by (with_reducible repeat (first | apply Kd.R_alloc | apply Kd.R_drewN | apply Kd.R_drew)); exact HO_13.out))) (zbz (by repeat (first | (with_reducible first | exact HB.out | apply zba | apply zbn | apply zbd) | exact HB.out)))); have n3_ := Zs.mk (zbt (by repeat (first | (with_reducible first | exact HB.out | apply zba | apply zbn | apply zbd) | exact HB.out)) hb); clear HO_0; clear HO_13; clear HB; have HO_0 := n0_; have HO_13 := n1_; have HO363 := n2_; have HB := n3_; clear n0_ n1_ n2_ n3_; clear hb ho32; obtain ⟨Ao34, co34, eo34⟩ := Kd.R_slice HO_13.out; subst eo34) | ((with_reducible refine gate_builtin (b := .append) (xs := #[.tmp 59, .tmp 60]) rfl ?_); at_builtin; refine Kd.R_append_rows (Kd.int .u8) (w0 := w) w.heap.size rfl (.tmp 59) (.tmp 60) 25 5 (.int .u8 0) 1 rfl Try.underlying25 info5 rfl (by decide) (by omega) v362 y361 t356 _ _ _ (fun k_ => (w.heap.size ≤ k_) ∧ some k_ ≠ (.slice Ao34 t356.length co34 : Value).ownBlock) (fun _ => False) rfl rfl ?aO ?aR (fun _ _ h => h) (fun _ h => h.elim) ?aF ?aB ?aS ?aL ?_; (case aR => repeat (first | exact (Kd.R_reads' HO_13.out).2.2 | (with_reducible refine Kd.C_alloc ?_ _) | (with_reducible refine Kd.C_drewN ?_ _) | (with_reducible refine Kd.C_drew ?_))); (case aB => exact (by repeat (first | (with_reducible first | exact HB.out | apply zba | apply zbn | apply zbd) | exact HB.out))); (case aF => exact (fun k_ hk => ⟨(Nat.le_trans (zbz (by repeat (first | (with_reducible first | exact HB.out | apply zba | apply zbn | apply zbd) | exact HB.out))) hk), Kd.fresh' (Kd.R_lt (by (with_reducible repeat (first | apply Kd.R_alloc | apply Kd.R_drewN | apply Kd.R_drew)); exact HO_13.out)) k_ hk⟩)); (case aO => exact (by (with_reducible repeat (first | apply Kd.R_alloc | apply Kd.R_drewN | apply Kd.R_drew)); exact Kd.R_mono HO363.out (fun _ hk => ⟨hk.1.1, hk.2⟩))); (case aS => exact (zbz (by repeat (first | (with_reducible first | exact HB.out | apply zba | apply zbn | apply zbd) | exact HB.out)))); (case aL => have := LMc29.out; omega); intro v365 w33 ho hb hg hat; rw [← Ny364.out] at ho; have n0_ := Zs.mk (Kd.V_afterv (ok := (fun k_ => (P0_ k_ ∨ w.heap.size ≤ k_) ∧ some k_ ≠ (.slice Ao34 t356.length co34 : Value).ownBlock)) (by (with_reducible repeat (first | apply Kd.V_alloc | apply Kd.V_drewN | apply Kd.V_drew)); exact HO_0.out) hg hat); have n1_ := Zs.mk (Kd.R_after (ok := (fun k_ => (w.heap.size ≤ k_))) (by (with_reducible repeat (first | apply Kd.R_alloc | apply Kd.R_drewN | apply Kd.R_drew)); exact HO_13.out) hg hat); have n2_ := Zs.mk (hb); have n3_ := Zs.mk (ho); clear HO_0; clear HO_13; clear HB; clear HO363; have HO_0 := n0_; have HO_13 := n1_; have HB := n2_; have HO366 := n3_; clear n0_ n1_ n2_ n3_; clear ho hb hg hat; obtain ⟨Ao35, co35, eo35⟩ := Kd.R_slice HO366.out; subst eo35))
      (try simp only [Act.put, zq1, zq2, zq3])
      go_cut [] (fun wc => ∃ (kq : Nat) (x15_29 : List Int), Zs (zfT.j2 kq l0 a4 t356 x15_29 = some r) ∧ Zs (kq ≤ kj13) ∧ Zs (Kd.V (Kd.int .u8) 5 wc w.heap.size (fun k_ => (P0_ k_ ∨ w.heap.size ≤ k_) ∧ some k_ ≠ ((.slice Ao34 t356.length co34) : Value).ownBlock ∧ some k_ ≠ ((.slice Ao35 y364.length co35) : Value).ownBlock) (.slice A0 l0.length c0) l0) ∧ Zs (Kd.R (Kd.int .u8) 5 wc w.heap.size (fun k_ => (w.heap.size ≤ k_) ∧ some k_ ≠ ((.slice Ao35 y364.length co35) : Value).ownBlock) (.slice Ao34 t356.length co34) t356) ∧ Zs (Kd.R (Kd.int .u8) 5 wc w.heap.size (fun k_ => (w.heap.size ≤ k_) ∧ some k_ ≠ ((.slice Ao34 t356.length co34) : Value).ownBlock) (.slice Ao35 y364.length co35) x15_29) ∧ Zs (Below w.heap.size w wc))
      case first =>
       have H := HC30.out
       clear HC30
       by_cases c36 : (y364.length : Int) > 0
       ·
        rw [if_pos c36] at H
        have c36b0 : decide (0 < (y364.length : Int)) = true := decide_eq_true c36
        have c36b1 : decide (0 < y364.length) = true := decide_eq_true (by omega)
        clear c36
        (first | rw [c36b0] | rw [c36b2] | rw [c36b1] | (simp only [i64_w, i32_w]; rw [c36b0]) | skip)
        by_cases c37 : (y364.length : Int) = 0
        ·
         rw [if_pos c37] at H
         exact absurd H (by simp)
        rw [if_neg c37] at H
        have c37b0 : ((y364.length : Int) == 0) = false := beq_eq_false_iff_ne.mpr c37
        have c37b1 : ((y364.length : Int) != 0) = true := bne_iff_ne.mpr c37
        have c37b2 : ¬ (y364 = []) := fun h_ => c37 (by rw [h_]; rfl)
        obtain ⟨ji38, hji38⟩ : ∃ j_ : Int, (Int.tmod (Go.bits .and .i64 a2 65535) (y364.length : Int)) = j_ := ⟨_, rfl⟩
        replace H : (if 0 ≤ (ji38) then (if (ji38) < (y364.length : Int) then (zfT.j2 kj13 l0 a4 t356 (y364.set ((ji38) : Int).toNat (Go.bits .xor .u8 (rd y364 (ji38)) a3))) else (none)) else (none)) = some r := by first | (rw [hji38] at H; exact H) | (simp only [hji38] at H ⊢; exact H)
        by_cases c39 : 0 ≤ (ji38)
        ·
         rw [if_pos c39] at H
         have c39b0 : decide (0 ≤ (ji38)) = true := decide_eq_true c39
         clear c39
         by_cases c40 : (ji38) < (y364.length : Int)
         ·
          rw [if_pos c40] at H
          have c40b0 : decide ((ji38) < (y364.length : Int)) = true := decide_eq_true c40
          clear c40
          obtain ⟨y368, hy368⟩ : ∃ y_ : List Int, y_ = (y364.set ((ji38) : Int).toNat (Go.bits .xor .u8 (rd y364 (ji38)) a3)) := ⟨_, rfl⟩
          replace H : (zfT.j2 kj13 l0 a4 t356 y368) = some r := by first | (rw [hy368]; with_reducible exact H) | (have H2_ := (Option.bind_some _ _).symm.trans H; rw [hy368]; with_reducible exact H2_) | (have H2_ := (Option.bind_some _ _).symm.trans H; with_reducible exact H2_) | with_reducible exact H | (rw [hy368]; exact H) | exact H
          have Ny368 := Zs.mk hy368
          clear hy368
          have H' := Zs.mk H
          clear H
          have p367 : 0 ≤ ((ji38) : Int) := of_decide_eq_true (by first | (with_reducible assumption) | assumption)
          have q367 : (ji38) < (y364.length : Int) := of_decide_eq_true (by first | (with_reducible assumption) | assumption)
          obtain ⟨ad367, e367, hx367_0⟩ := Kd.at_int (Kd.R_reads' HO366.out).2.2 (ji38) p367 q367
          cases e367
          replace p367 := eq_true p367
          replace q367 := eq_true q367
          have p41 : 0 ≤ ((ji38) : Int) := of_decide_eq_true (by first | (with_reducible assumption) | assumption)
          have q41 : ((ji38) : Int) < ((y364.length : Int) : Int) := of_decide_eq_true (by first | (with_reducible assumption) | assumption)
          obtain ⟨go41, co41, eo41, gb41, gl41, cl41, HG41⟩ := Kd.R_form HO366.out (by omega)
          (first | cases eo41 | (injection eo41 with ea_ en_ ec_; (first | subst ea_ | (injection ea_ with ea_; subst ea_)); subst ec_; clear en_))
          have GB41 := Zs.mk gb41
          have GG41 := Zs.mk HG41
          clear gb41 gl41 HG41
          (first | simp only [add_plain] at hx367_0 | skip)
          obtain ⟨hx41_0, hf41_0⟩ := Kd.R_celln 0 HO366.out ((ji38) : Int) p41 q41
          replace p41 := eq_true p41
          replace q41 := eq_true q41
          have HP42 := Kd.R_putg HO366.out ((ji38) : Int) (Go.bits .xor .u8 (rd y364 (ji38)) a3)
          go_wp2_with (first | ((with_reducible refine gate_store (t := 5) (p := 75) rfl ?_); refine store_event (t := 5) (p := 75) (v := ?vo_w43) (w1 := (w33.setCell ⟨go41, ((ji38) : Int).toNat, none⟩ (.int .u8 (Go.bits .xor .u8 (rd y364 (ji38)) a3)))) ?hg ?ho ?hn ?hr ?_; (case ho => rfl); (case hg => rfl); (case hn => rfl); (case hr => first | (go_simp; done) | (go_simp; rfl)); intro w43 hw; have hg : w33.grownBy w43 (some go41) := (by rw [hw]; exact HP42.2); have hp_ : Kd.R (Kd.int .u8) 5 w43 w.heap.size (fun k_ => (w.heap.size ≤ k_) ∧ some k_ ≠ (.slice Ao34 t356.length co34 : Value).ownBlock) (.slice (some ⟨go41, 0, none⟩) y364.length co35) y368 := (by rw [hw, Ny368.out]; exact HP42.1); clear HP42; have n0_ := Zs.mk (Kd.V_afterv (v := (.slice (some ⟨go41, 0, none⟩) y364.length co35)) (v1 := (.slice (some ⟨go41, 0, none⟩) y364.length co35)) (ok := (fun k_ => (P0_ k_ ∨ w.heap.size ≤ k_) ∧ some k_ ≠ (.slice Ao34 t356.length co34 : Value).ownBlock)) (by (with_reducible repeat (first | apply Kd.V_alloc | apply Kd.V_drewN | apply Kd.V_drew)); exact HO_0.out) hg (.inl rfl)); have n1_ := Zs.mk (Kd.R_after (v := (.slice (some ⟨go41, 0, none⟩) y364.length co35)) (v1 := (.slice (some ⟨go41, 0, none⟩) y364.length co35)) (ok := (fun k_ => (w.heap.size ≤ k_))) (by (with_reducible repeat (first | apply Kd.R_alloc | apply Kd.R_drewN | apply Kd.R_drew)); exact HO_13.out) hg (.inl rfl)); have n2_ := Zs.mk (hp_); have n3_ := Zs.mk ((by rw [hw]; exact zbs (HB.out) GB41.out : Below w.heap.size w w43)); clear HO_0; clear HO_13; clear HO366; clear HB; have HO_0 := n0_; have HO_13 := n1_; have HO366 := n2_; have HB := n3_; clear n0_ n1_ n2_ n3_; clear hg hw hp_))
          go_meet
          case rel => exact ⟨_, (y368), H', ⟨by have := HJ5.out; have := HJ13.out; first | omega | exact Nat.le_refl _⟩, ⟨by (with_reducible repeat (first | apply Kd.V_alloc | apply Kd.V_drewN | apply Kd.V_drew)); exact Kd.V_mono HO_0.out (fun _ hk => ⟨hk.1.1, ⟨hk.1.2, hk.2⟩⟩)⟩, ⟨by (with_reducible repeat (first | apply Kd.R_alloc | apply Kd.R_drewN | apply Kd.R_drew)); exact HO_13.out⟩, ⟨by (with_reducible repeat (first | apply Kd.R_alloc | apply Kd.R_drewN | apply Kd.R_drew)); exact HO366.out⟩, ⟨by repeat (first | (with_reducible first | exact HB.out | apply zba | apply zbn | apply zbd) | exact HB.out)⟩⟩
         rw [if_neg c40] at H
         exact absurd H (by simp)
        rw [if_neg c39] at H
        exact absurd H (by simp)
       rw [if_neg c36] at H
       have c36b0 : decide (0 < (y364.length : Int)) = false := decide_eq_false c36
       have c36b1 : decide (0 < y364.length) = false := decide_eq_false (by omega)
       clear c36
       (first | rw [c36b0] | rw [c36b2] | rw [c36b1] | (simp only [i64_w, i32_w]; rw [c36b0]) | skip)
       have H' := Zs.mk H
       clear H
       go_wp2
       go_meet
       case rel => exact ⟨_, (y364), H', ⟨by have := HJ5.out; have := HJ13.out; first | omega | exact Nat.le_refl _⟩, ⟨by (with_reducible repeat (first | apply Kd.V_alloc | apply Kd.V_drewN | apply Kd.V_drew)); exact Kd.V_mono HO_0.out (fun _ hk => ⟨hk.1.1, ⟨hk.1.2, hk.2⟩⟩)⟩, ⟨by (with_reducible repeat (first | apply Kd.R_alloc | apply Kd.R_drewN | apply Kd.R_drew)); exact HO_13.out⟩, ⟨by (with_reducible repeat (first | apply Kd.R_alloc | apply Kd.R_drewN | apply Kd.R_drew)); exact HO366.out⟩, ⟨by repeat (first | (with_reducible first | exact HB.out | apply zba | apply zbn | apply zbd) | exact HB.out)⟩⟩
      case rest =>
       clear HC30
       try clear c1
       try clear c2
       try clear p2
       try clear hcv2
       try clear c3
       try clear p3
       try clear q3
       try clear hx3
       try clear c4
       try clear p4
       try clear q4
       try clear hx4
       try clear c7
       try clear c7b0
       try clear c7b1
       try clear c9
       try clear c11
       try clear c14
       try clear c16
       try clear c20
       try clear c20b0
       try clear c20b1
       try clear c20b2
       try clear c22
       try clear c22b0
       try clear c22b1
       try clear c22b2
       try clear c24
       try clear c24b0
       try clear c24b1
       try clear c24b2
       try clear hcv26
       try clear hcv27
       try clear c28
       try clear c29
       try clear c36
       try clear c36b0
       try clear c36b1
       try clear p36
       try clear q36
       try clear hx36
       try clear c37
       try clear c37b0
       try clear c37b1
       try clear c37b2
       try clear c39
       try clear c39b0
       try clear c40
       try clear c40b0
       try clear p41
       try clear q41
       try clear hx41
       try clear hf41
       try clear hx367_0
       try clear hx41_0
       try clear p2
       try clear p367
       try clear p41
       try clear q367
       try clear q41
       obtain ⟨kq, x15_29, HA, HJ29, HO_0, HO_13, HO_15, HB⟩ := hcut
       have hl15_29 := (Kd.R_reads' HO_15.out).1
       rw [hl15_29] at HO_15
       (try simp only [hl15_29])
       (try simp only [hl15_29] at HO_0)
       (try simp only [hl15_29] at HO_13)
       cases kq with
       | zero => exact absurd HA.out (by simp [zfT.j2])
       | succ kj29 =>
        have H := HA.out
        clear HA
        simp only [zfT.j2] at H
        have H' := Zs.mk H
        clear H
        go_wp2
        go_loopg [16] kj29 (fun kq v16 w' => ∃ (x16_4 : Int), v16 = .int .i64 x16_4 ∧ Zs (zfT.l0 kq l0 a4 t356 x15_29 x16_4 = some r) ∧ Zs (kq ≤ kj29) ∧ Zs (Kd.V (Kd.int .u8) 5 w' w.heap.size (fun k_ => (P0_ k_ ∨ w.heap.size ≤ k_)) (.slice A0 l0.length c0) l0) ∧ Zs (Kd.V (Kd.int .u8) 5 w' w.heap.size (fun k_ => (P0_ k_ ∨ w.heap.size ≤ k_)) (.slice Ao34 t356.length co34) t356) ∧ Zs (Kd.V (Kd.int .u8) 5 w' w.heap.size (fun k_ => (P0_ k_ ∨ w.heap.size ≤ k_)) (.slice Ao35 x15_29.length co35) x15_29) ∧ Zs (Below w.heap.size w w'))
        case atStart => exact ⟨(0), (by first | rfl | (simp; done) | (simp [*]; done)), H', ⟨Nat.le_refl _⟩, ⟨by (try simp only [hl15_29]); (with_reducible repeat (first | apply Kd.V_alloc | apply Kd.V_drewN | apply Kd.V_drew)); exact Kd.V_mono HO_0.out (fun _ hk => hk.1)⟩, ⟨Kd.V_mono (Kd.R_V (ok := fun k_ => (w.heap.size ≤ k_)) (by (try simp only [hl15_29]); (with_reducible repeat (first | apply Kd.R_alloc | apply Kd.R_drewN | apply Kd.R_drew)); exact Kd.R_mono HO_13.out (fun _ hk => hk.1))) (fun k_ hk => by first | exact ⟨(.inr (hk.1)), hk.2⟩ | exact (.inr (hk)))⟩, ⟨Kd.V_mono (Kd.R_V (ok := fun k_ => (w.heap.size ≤ k_)) (by (try simp only [hl15_29]); (with_reducible repeat (first | apply Kd.R_alloc | apply Kd.R_drewN | apply Kd.R_drew)); exact Kd.R_mono HO_15.out (fun _ hk => hk.1))) (fun k_ hk => by first | exact ⟨(.inr (hk.1)), hk.2⟩ | exact (.inr (hk)))⟩, ⟨by repeat (first | (with_reducible first | exact HB.out | apply zba | apply zbn | apply zbd) | exact HB.out)⟩⟩
        case round =>
         clear H'
         try clear c1
         try clear c2
         try clear p2
         try clear hcv2
         try clear c3
         try clear p3
         try clear q3
         try clear hx3
         try clear c4
         try clear p4
         try clear q4
         try clear hx4
         try clear c7
         try clear c7b0
         try clear c7b1
         try clear c9
         try clear c11
         try clear c14
         try clear c16
         try clear c20
         try clear c20b0
         try clear c20b1
         try clear c20b2
         try clear c22
         try clear c22b0
         try clear c22b1
         try clear c22b2
         try clear c24
         try clear c24b0
         try clear c24b1
         try clear c24b2
         try clear hcv26
         try clear hcv27
         try clear c28
         try clear c29
         try clear c36
         try clear c36b0
         try clear c36b1
         try clear p36
         try clear q36
         try clear hx36
         try clear c37
         try clear c37b0
         try clear c37b1
         try clear c37b2
         try clear c39
         try clear c39b0
         try clear c40
         try clear c40b0
         try clear p41
         try clear q41
         try clear hx41
         try clear hf41
         try clear hx367_0
         try clear hx41_0
         try clear p2
         try clear p3
         try clear p36
         try clear p367
         try clear p4
         try clear p41
         try clear q3
         try clear q36
         try clear q367
         try clear q4
         try clear q41
         obtain ⟨x16_4, rfl, HA, HK4, HO_0, HO_13, HO_15, HB⟩ := hrel
         cases gk with
         | zero => exact absurd HA.out (by simp [zfT.l0])
         | succ k4 =>
          have H := HA.out
          clear HA
          simp only [zfT.l0] at H
          by_cases c44 : x16_4 < 3
          ·
           rw [if_pos c44] at H
           have c44b0 : decide (x16_4 < 3) = true := decide_eq_true c44
           clear c44
           by_cases c45 : (wrap64 ((t356.length : Int) + 1)) = 0
           ·
            rw [if_pos c45] at H
            exact absurd H (by simp)
           rw [if_neg c45] at H
           have c45b0 : ((wrap64 ((t356.length : Int) + 1)) == 0) = false := beq_eq_false_iff_ne.mpr c45
           have c45b1 : ((wrap64 ((t356.length : Int) + 1)) != 0) = true := bne_iff_ne.mpr c45
           obtain ⟨ji46, hji46⟩ : ∃ j_ : Int, (Int.tmod (Go.bits .and .i64 a4 65535) (wrap64 ((t356.length : Int) + 1))) = j_ := ⟨_, rfl⟩
           replace H : (if 0 ≤ (ji46) then (if (ji46) ≤ (t356.length : Int) then (if 0 ≤ x16_4 then ((some (([l0, x15_29, (t356.take ((ji46) : Int).toNat)] : List (List Int)).getD (x16_4).toNat [] : List Int)).bind fun y375 => ((tabl_Parse.f y375).bind fun bt378 => ((zfD.f k4 y375).bind fun bt382 => (if (bt378.2 != bt382.2) = true then (none) else ((zfm.f bt378.1 bt382.1).bind fun t386 => (if t386 = true then (zfT.l0 k4 l0 a4 t356 x15_29 (wrap64 (x16_4 + 1))) else (none))))))) else (none)) else (none)) else (none)) = some r := by first | (rw [hji46] at H; exact H) | (simp only [hji46] at H ⊢; exact H)
           by_cases c47 : 0 ≤ (ji46)
           ·
            rw [if_pos c47] at H
            have c47b0 := eq_true c47
            have c47b1 : decide (0 ≤ (ji46)) = true := decide_eq_true c47
            clear c47
            by_cases c48 : (ji46) ≤ (t356.length : Int)
            ·
             rw [if_pos c48] at H
             have c48b0 := eq_true c48
             have c48b1 : decide ((ji46) ≤ (t356.length : Int)) = true := decide_eq_true c48
             clear c48
             obtain ⟨y370, hy370⟩ : ∃ y_ : List Int, y_ = (t356.take ((ji46) : Int).toNat) := ⟨_, rfl⟩
             replace H : (if 0 ≤ x16_4 then ((some (([l0, x15_29, y370] : List (List Int)).getD (x16_4).toNat [] : List Int)).bind fun y375 => ((tabl_Parse.f y375).bind fun bt378 => ((zfD.f k4 y375).bind fun bt382 => (if (bt378.2 != bt382.2) = true then (none) else ((zfm.f bt378.1 bt382.1).bind fun t386 => (if t386 = true then (zfT.l0 k4 l0 a4 t356 x15_29 (wrap64 (x16_4 + 1))) else (none))))))) else (none)) = some r := by first | (rw [hy370]; with_reducible exact H) | (have H2_ := (Option.bind_some _ _).symm.trans H; rw [hy370]; with_reducible exact H2_) | (have H2_ := (Option.bind_some _ _).symm.trans H; with_reducible exact H2_) | with_reducible exact H | (rw [hy370]; exact H) | exact H
             have Ny370 := Zs.mk hy370
             clear hy370
             by_cases c49 : 0 ≤ x16_4
             ·
              rw [if_pos c49] at H
              have c49b0 : decide (0 ≤ x16_4) = true := decide_eq_true c49
              clear c49
              obtain ⟨y375, hy375⟩ : ∃ y_ : List Int, y_ = (([l0, x15_29, y370] : List (List Int)).getD (x16_4).toNat []) := ⟨_, rfl⟩
              replace H : ((tabl_Parse.f y375).bind fun bt378 => ((zfD.f k4 y375).bind fun bt382 => (if (bt378.2 != bt382.2) = true then (none) else ((zfm.f bt378.1 bt382.1).bind fun t386 => (if t386 = true then (zfT.l0 k4 l0 a4 t356 x15_29 (wrap64 (x16_4 + 1))) else (none)))))) = some r := by first | (rw [hy375]; with_reducible exact H) | (have H2_ := (Option.bind_some _ _).symm.trans H; rw [hy375]; with_reducible exact H2_) | (have H2_ := (Option.bind_some _ _).symm.trans H; with_reducible exact H2_) | with_reducible exact H | (rw [hy375]; exact H) | exact H
              have Ny375 := Zs.mk hy375
              clear hy375
              replace H := Option.bind_eq_some_iff.mp H
              obtain ⟨⟨t378, t379⟩, A500, H⟩ := H
              replace H : ((zfD.f k4 y375).bind fun bt382 => (if (t379 != bt382.2) = true then (none) else ((zfm.f t378 bt382.1).bind fun t386 => (if t386 = true then (zfT.l0 k4 l0 a4 t356 x15_29 (wrap64 (x16_4 + 1))) else (none))))) = some r := H
              have A50 := Zs.mk A500
              clear A500
              replace H := Option.bind_eq_some_iff.mp H
              obtain ⟨⟨t382, t383⟩, A510, H⟩ := H
              replace H : (if (t379 != t383) = true then (none) else ((zfm.f t378 t382).bind fun t386 => (if t386 = true then (zfT.l0 k4 l0 a4 t356 x15_29 (wrap64 (x16_4 + 1))) else (none)))) = some r := H
              have A51 := Zs.mk A510
              clear A510
              by_cases c52 : (t379 != t383) = true
              ·
               rw [if_pos c52] at H
               exact absurd H (by simp)
              rw [if_neg c52] at H
              have c52b0 : (t379 != t383) = false := by simpa using c52
              (try (have c52b1 : decide (t379 = t383) = true := by simpa using c52))
              (try (have c52b2 : (t379 == t383) = true := by simpa using c52))
              clear c52
              replace H := Option.bind_eq_some_iff.mp H
              obtain ⟨t386, A530, H⟩ := H
              replace H : (if t386 = true then (zfT.l0 k4 l0 a4 t356 x15_29 (wrap64 (x16_4 + 1))) else (none)) = some r := H
              have A53 := Zs.mk A530
              clear A530
              by_cases c54 : t386 = true
              ·
               subst c54
               have H1 : (zfT.l0 k4 l0 a4 t356 x15_29 (wrap64 (x16_4 + 1))) = some r := by rw [if_pos rfl] at H; exact H
               clear H
               have H := H1
               clear H1
               have H' := Zs.mk H
               clear H
               have q55 : ((ji46) : Int) ≤ ((t356.length : Int) : Int) := of_decide_eq_true (by first | (with_reducible assumption) | assumption)
               obtain ⟨i055, hi055, _, hsz55, _⟩ := info_parts info5
               have hroom55 : t356.length ≤ co34 := (Kd.V_reads' HO_13.out).2.1
               have hC55 : Kd.F (Kd.int .u8) _ _ Ao34 t356.length t356 := (Kd.V_at (base := w.heap.size) HO_13.out).2.2
               have hcut55 := cut_to (P := Try.prog) 25 5 .i64 Try.underlying25 hi055 Ao34 t356.length co34 (ji46) (of_decide_eq_true (by first | (with_reducible assumption) | assumption)) q55 hroom55
               have hr55 := Kd.F_take (m := ((ji46) : Int).toNat) hC55 (by omega)
               have hy55 : y370.length = ((ji46) : Int).toNat := (by rw [Ny370.out, List.length_take]; omega)
               rw [← Ny370.out] at hr55
               rw [← hy55] at hcut55
               have HO374 := Zs.mk (show Kd.V (Kd.int .u8) 5 _ w.heap.size _ (.slice Ao34 y370.length co34) y370 from Kd.V_mk (by omega) hr55)
               have HC374 := Zs.mk (show y370.length ≤ co34 from by omega)
               clear hr55 hC55 hroom55 hi055 hsz55
               have KY55 := Zs.mk hy55
               clear hy55
               replace q55 := eq_true q55
               have plq56 : (0 ≤ x16_4) = True := eq_true (of_decide_eq_true (by first | (with_reducible assumption) | assumption))
               have qlq56 : (x16_4 < 3) = True := eq_true (of_decide_eq_true (by first | (with_reducible assumption) | assumption))
               have jlq56 : (x16_4).toNat < 3 := by have h1_ := of_eq_true plq56; have h2_ := of_eq_true qlq56; omega
               go_wp2_with (first | ((with_reducible refine gate_dst (N := 93) rfl ?_); have hvq56 : Kd.AllV (Kd.int .u8) 5 wr w.heap.size (fun k_ => (P0_ k_ ∨ w.heap.size ≤ k_)) [.slice A0 l0.length c0, .slice Ao35 x15_29.length co35, .slice Ao34 y370.length co34] ([l0, x15_29, y370] : List (List Int)) := ⟨by (with_reducible repeat (first | apply Kd.V_alloc | apply Kd.V_drewN | apply Kd.V_drew)); exact HO_0.out, by (with_reducible repeat (first | apply Kd.V_alloc | apply Kd.V_drewN | apply Kd.V_drew)); exact HO_15.out, by (with_reducible repeat (first | apply Kd.V_alloc | apply Kd.V_drewN | apply Kd.V_drew)); exact HO374.out, trivial⟩; obtain ⟨v376, hqq56⟩ : ∃ v_, ([.slice A0 l0.length c0, .slice Ao35 x15_29.length co35, .slice Ao34 y370.length co34] : List Value).getD (x16_4).toNat undef = v_ := ⟨_, rfl⟩; have hoq56 : Kd.V (Kd.int .u8) 5 wr w.heap.size (fun k_ => (P0_ k_ ∨ w.heap.size ≤ k_)) v376 y375 := (by rw [← hqq56, Ny375.out]; exact Kd.AllV_get _ _ _ hvq56 jlq56); refine Kd.event_run (v := v376) rfl (by rw [← hqq56]; first | done | exact pick_run (by rfl) (by rfl) Try.underlying25 jlq56) ?_; clear hvq56 hqq56; obtain ⟨Ao57, co57, epq56_⟩ := Kd.V_slice hoq56; subst epq56_; have HO377 := Zs.mk hoq56; clear hoq56) | ((with_reducible refine gate_callee (f := 12) rfl ?_); refine goesL_ (some 96) rfl rfl Try.func12 (by kernel_rfl) rfl #[.slice Ao57 y375.length co57] rfl (by (try simp only [List.map_toArray, List.map_cons, List.map_nil]); first | done | rfl | (simp only [List.length_drop, List.length_take]; rfl)) ?_; (with_reducible refine (tabl_Parse.calls _ _ y375 t378 t379 _ ?side1 ?side2 A50.out).mono ?_); (case side1 => repeat (first | exact (Kd.V_reads' HO377.out).2.2 | (with_reducible refine Kd.C_alloc ?_ _) | (with_reducible refine Kd.C_drewN ?_ _) | (with_reducible refine Kd.C_drew ?_))); (case side2 => exact (Kd.V_reads' HO377.out).2.1); rintro e w58 ⟨v380, rfl, ho0, hb⟩; refine ⟨_, rfl, ?_⟩; have n0_ := Zs.mk (Kd.V_elder' (by (with_reducible repeat (first | apply Kd.V_alloc | apply Kd.V_drewN | apply Kd.V_drew)); exact HO_0.out) (Kd.R_base ho0) hb); have n1_ := Zs.mk (Kd.V_elder' (by (with_reducible repeat (first | apply Kd.V_alloc | apply Kd.V_drewN | apply Kd.V_drew)); exact HO_13.out) (Kd.R_base ho0) hb); have n2_ := Zs.mk (Kd.V_elder' (by (with_reducible repeat (first | apply Kd.V_alloc | apply Kd.V_drewN | apply Kd.V_drew)); exact HO_15.out) (Kd.R_base ho0) hb); have n3_ := Zs.mk (Kd.V_elder' (by (with_reducible repeat (first | apply Kd.V_alloc | apply Kd.V_drewN | apply Kd.V_drew)); exact HO374.out) (Kd.R_base ho0) hb); have n4_ := Zs.mk (Kd.V_elder' (by (with_reducible repeat (first | apply Kd.V_alloc | apply Kd.V_drewN | apply Kd.V_drew)); exact HO377.out) (Kd.R_base ho0) hb); have n5_ := Zs.mk (Kd.R_lower (Kd.R_newM (M := fun k_ => (w.heap.size ≤ k_)) ho0 (zbz (by repeat (first | (with_reducible first | exact HB.out | apply zba | apply zbn | apply zbd) | exact HB.out))) (fun k_ h_ => h_)) (zbz (by repeat (first | (with_reducible first | exact HB.out | apply zba | apply zbn | apply zbd) | exact HB.out)))); have n6_ := Zs.mk (zbt (by repeat (first | (with_reducible first | exact HB.out | apply zba | apply zbn | apply zbd) | exact HB.out)) hb); clear HO_0; clear HO_13; clear HO_15; clear HO374; clear HO377; clear HB; have HO_0 := n0_; have HO_13 := n1_; have HO_15 := n2_; have HO374 := n3_; have HO377 := n4_; have HO381 := n5_; have HB := n6_; clear n0_ n1_ n2_ n3_ n4_ n5_ n6_; (try clear hb); (try clear hb2); (try clear hk); (try clear hi); (try clear hge); (try clear ho0)) | ((with_reducible refine gate_callee (f := 17) rfl ?_); refine goesL_ (some 101) rfl rfl Try.func17 (by kernel_rfl) rfl #[.slice Ao57 y375.length co57] rfl (by (try simp only [List.map_toArray, List.map_cons, List.map_nil]); first | done | rfl | (simp only [List.length_drop, List.length_take]; rfl)) ?_; (with_reducible refine (zfD.calls k4 _ _ y375 t382 t383 _ ?side1 ?side2 A51.out).mono ?_); (case side1 => repeat (first | exact (Kd.V_reads' HO377.out).2.2 | (with_reducible refine Kd.C_alloc ?_ _) | (with_reducible refine Kd.C_drewN ?_ _) | (with_reducible refine Kd.C_drew ?_))); (case side2 => exact (Kd.V_reads' HO377.out).2.1); rintro e w59 ⟨v384, rfl, ho0, hb⟩; refine ⟨_, rfl, ?_⟩; have n0_ := Zs.mk (Kd.V_elder' (by (with_reducible repeat (first | apply Kd.V_alloc | apply Kd.V_drewN | apply Kd.V_drew)); exact HO_0.out) (Kd.R_base ho0) hb); have n1_ := Zs.mk (Kd.V_elder' (by (with_reducible repeat (first | apply Kd.V_alloc | apply Kd.V_drewN | apply Kd.V_drew)); exact HO_13.out) (Kd.R_base ho0) hb); have n2_ := Zs.mk (Kd.V_elder' (by (with_reducible repeat (first | apply Kd.V_alloc | apply Kd.V_drewN | apply Kd.V_drew)); exact HO_15.out) (Kd.R_base ho0) hb); have n3_ := Zs.mk (Kd.V_elder' (by (with_reducible repeat (first | apply Kd.V_alloc | apply Kd.V_drewN | apply Kd.V_drew)); exact HO374.out) (Kd.R_base ho0) hb); have n4_ := Zs.mk (Kd.V_elder' (by (with_reducible repeat (first | apply Kd.V_alloc | apply Kd.V_drewN | apply Kd.V_drew)); exact HO377.out) (Kd.R_base ho0) hb); have n5_ := Zs.mk (Kd.R_elder' (by (with_reducible repeat (first | apply Kd.R_alloc | apply Kd.R_drewN | apply Kd.R_drew)); exact HO381.out) (Kd.R_base ho0) hb); have n6_ := Zs.mk (Kd.R_lower (Kd.R_new' (Kd.R_newM (M := fun k_ => (w.heap.size ≤ k_)) ho0 (zbz (by repeat (first | (with_reducible first | exact HB.out | apply zba | apply zbn | apply zbd) | exact HB.out))) (fun k_ h_ => h_)) (Kd.R_lt (by (with_reducible repeat (first | apply Kd.R_alloc | apply Kd.R_drewN | apply Kd.R_drew)); exact HO381.out))) (zbz (by repeat (first | (with_reducible first | exact HB.out | apply zba | apply zbn | apply zbd) | exact HB.out)))); have n7_ := Zs.mk (zbt (by repeat (first | (with_reducible first | exact HB.out | apply zba | apply zbn | apply zbd) | exact HB.out)) hb); clear HO_0; clear HO_13; clear HO_15; clear HO374; clear HO377; clear HO381; clear HB; have HO_0 := n0_; have HO_13 := n1_; have HO_15 := n2_; have HO374 := n3_; have HO377 := n4_; have HO381 := n5_; have HO385 := n6_; have HB := n7_; clear n0_ n1_ n2_ n3_ n4_ n5_ n6_ n7_; (try clear hb); (try clear hb2); (try clear hk); (try clear hi); (try clear hge); (try clear ho0); obtain ⟨Ao60, co60, eo60⟩ := Kd.R_slice HO381.out; subst eo60; obtain ⟨Ao61, co61, eo61⟩ := Kd.R_slice HO385.out; subst eo61) | (go_at_call 18; (with_reducible refine (zfm.calls _ _ t378 _ _ t382 true _ ?side1 ?side2 ?side3 ?side4 A53.out).mono ?_); (case side1 => repeat (first | exact (Kd.R_reads' HO381.out).2.2 | (with_reducible refine Kd.C_alloc ?_ _) | (with_reducible refine Kd.C_drewN ?_ _) | (with_reducible refine Kd.C_drew ?_))); (case side2 => exact (Kd.R_reads' HO381.out).2.1); (case side3 => repeat (first | exact (Kd.R_reads' HO385.out).2.2 | (with_reducible refine Kd.C_alloc ?_ _) | (with_reducible refine Kd.C_drewN ?_ _) | (with_reducible refine Kd.C_drew ?_))); (case side4 => exact (Kd.R_reads' HO385.out).2.1); rintro e w62 ⟨rfl, hb⟩; have n0_ := Zs.mk (Kd.V_below (by (with_reducible repeat (first | apply Kd.V_alloc | apply Kd.V_drewN | apply Kd.V_drew)); exact HO_0.out) hb); have n1_ := Zs.mk (Kd.V_below (by (with_reducible repeat (first | apply Kd.V_alloc | apply Kd.V_drewN | apply Kd.V_drew)); exact HO_13.out) hb); have n2_ := Zs.mk (Kd.V_below (by (with_reducible repeat (first | apply Kd.V_alloc | apply Kd.V_drewN | apply Kd.V_drew)); exact HO_15.out) hb); have n3_ := Zs.mk (Kd.V_below (by (with_reducible repeat (first | apply Kd.V_alloc | apply Kd.V_drewN | apply Kd.V_drew)); exact HO374.out) hb); have n4_ := Zs.mk (Kd.V_below (by (with_reducible repeat (first | apply Kd.V_alloc | apply Kd.V_drewN | apply Kd.V_drew)); exact HO377.out) hb); have n5_ := Zs.mk (Kd.R_below (by (with_reducible repeat (first | apply Kd.R_alloc | apply Kd.R_drewN | apply Kd.R_drew)); exact HO381.out) hb); have n6_ := Zs.mk (Kd.R_below (by (with_reducible repeat (first | apply Kd.R_alloc | apply Kd.R_drewN | apply Kd.R_drew)); exact HO385.out) hb); have n7_ := Zs.mk (zbt (by repeat (first | (with_reducible first | exact HB.out | apply zba | apply zbn | apply zbd) | exact HB.out)) hb); clear HO_0; clear HO_13; clear HO_15; clear HO374; clear HO377; clear HO381; clear HO385; clear HB; have HO_0 := n0_; have HO_13 := n1_; have HO_15 := n2_; have HO374 := n3_; have HO377 := n4_; have HO381 := n5_; have HO385 := n6_; have HB := n7_; clear n0_ n1_ n2_ n3_ n4_ n5_ n6_ n7_; (try clear hb); (try clear hb2); (try clear hk); (try clear hi); (try clear hge)))
               go_roundg k4
               case measure => have := HJ5.out; have := HJ13.out; have := HJ29.out; have := HK4.out; omega
               case rel => exact ⟨(wrap64 (x16_4 + 1)), (by first | rfl | (simp; done) | (simp [*]; done)), H', ⟨by have := HJ5.out; have := HJ13.out; have := HJ29.out; have := HK4.out; omega⟩, ⟨by (try simp only [hl15_29]); (with_reducible repeat (first | apply Kd.V_alloc | apply Kd.V_drewN | apply Kd.V_drew)); exact Kd.V_mono HO_0.out (fun _ hk => hk.1.1)⟩, ⟨by (try simp only [hl15_29]); (with_reducible repeat (first | apply Kd.V_alloc | apply Kd.V_drewN | apply Kd.V_drew)); exact Kd.V_mono HO_13.out (fun _ hk => hk.1.1)⟩, ⟨by (try simp only [hl15_29]); (with_reducible repeat (first | apply Kd.V_alloc | apply Kd.V_drewN | apply Kd.V_drew)); exact Kd.V_mono HO_15.out (fun _ hk => hk.1.1)⟩, ⟨by repeat (first | (with_reducible first | exact HB.out | apply zba | apply zbn | apply zbd) | exact HB.out)⟩⟩
              replace c54 := Bool.eq_false_iff.mpr c54
              subst c54
              have H1 : (none) = some r := by rw [if_neg (show ¬ (false = true) by decide)] at H; exact H
              clear H
              have H := H1
              clear H1
              exact absurd H (by simp)
             rw [if_neg c49] at H
             exact absurd H (by simp)
            rw [if_neg c48] at H
            exact absurd H (by simp)
           rw [if_neg c47] at H
           exact absurd H (by simp)
          rw [if_neg c44] at H
          have c44b0 : decide (x16_4 < 3) = false := decide_eq_false c44
          clear c44
          replace H := Option.bind_eq_some_iff.mp H
          obtain ⟨t369, A630, H⟩ := H
          replace H : (some t369) = some r := H
          have A63 := Zs.mk A630
          clear A630
          obtain rfl := Option.some.inj H
          go_wp2_with (first | ((with_reducible refine gate_callee (f := 14) rfl ?_); refine goesL_ (some 113) rfl rfl Try.func14 (by kernel_rfl) rfl #[] rfl (by (try simp only [List.map_toArray, List.map_cons, List.map_nil]); first | done | rfl | (simp only [List.length_drop, List.length_take]; rfl)) ?_; (with_reducible refine (waybilllaw2_awake.calls  t369 _ A63.out).mono ?_); rintro e w64 ⟨rfl, hb⟩; refine ⟨_, rfl, ?_⟩; have n0_ := Zs.mk (Kd.V_below (by (with_reducible repeat (first | apply Kd.V_alloc | apply Kd.V_drewN | apply Kd.V_drew)); exact HO_0.out) hb); have n1_ := Zs.mk (Kd.V_below (by (with_reducible repeat (first | apply Kd.V_alloc | apply Kd.V_drewN | apply Kd.V_drew)); exact HO_13.out) hb); have n2_ := Zs.mk (Kd.V_below (by (with_reducible repeat (first | apply Kd.V_alloc | apply Kd.V_drewN | apply Kd.V_drew)); exact HO_15.out) hb); have n3_ := Zs.mk (zbt (by repeat (first | (with_reducible first | exact HB.out | apply zba | apply zbn | apply zbd) | exact HB.out)) hb); clear HO_0; clear HO_13; clear HO_15; clear HB; have HO_0 := n0_; have HO_13 := n1_; have HO_15 := n2_; have HB := n3_; clear n0_ n1_ n2_ n3_; (try clear hb); (try clear hb2); (try clear hk); (try clear hi); (try clear hge)))
          all_goals first | (go_ret; exact ⟨by first | rfl | (simp [zen, zes]; done) | (simp [zen, zes]; rfl) | (simp [*, zen, zes]; done) | (simp [*, zen, zes]; rfl), by repeat (first | (with_reducible first | exact HB.out | apply zba | apply zbn | apply zbd) | exact HB.out)⟩) | (exfalso; simp_all; done)
     rw [if_neg c29] at H
     exact absurd H (by simp)

end Go.Proofs.Ytfhaffpegncdiaa.PT
