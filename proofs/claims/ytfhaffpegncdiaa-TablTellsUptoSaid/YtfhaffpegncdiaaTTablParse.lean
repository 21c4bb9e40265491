/-
tabl.read and tabl.parse: a table off octets, or none: their walks.
Conditions: the depth from one to nine, octets that are octets.
-/
import Derived.Test.YtfhaffpegncdiaaShort
import Derived.Test.YtfhaffpegncdiaaTTablOct
import Derived.Test.YtfhaffpegncdiaaPTx4
namespace Go.Proofs.Ytfhaffpegncdiaa.PT
open Go.RowKit Go.Proofs.Ytfhaffpegncdiaa.Pure Go.Proofs.YtfhaffpegncdiaaW.PrintWords Go.Proofs.YtfhaffpegncdiaaW.PrintLast Go.Proofs.YtfhaffpegncdiaaW.PrintMore
set_option linter.unusedVariables false
set_option linter.unusedSimpArgs false
theorem Tb.kept_of {w w1 : World} {g gb : Nat} (h : KeepBut w w1 g none) : Kept w w1 (fun k => k = g ∨ k = gb) := ⟨h.1, fun i hi hs => h.2 i hi (fun e => hs (.inl e)) (by simp)⟩
theorem kept_set {w w1 : World} {S : Nat → Prop} (h : Kept w w1 S) {g j : Nat} {u : Value} (hg : S g) : Kept w (w1.setCell ⟨g, j, none⟩ u) S :=
 ⟨by rw [show (w1.setCell ⟨g, j, none⟩ u).heap.size = w1.heap.size by simp]; exact h.1, fun i hi hs => (Below.heap_setCell w1 ⟨g, j, none⟩ u i (fun e => hs (by rw [show i = g from e]; exact hg))).trans (h.2 i hi hs)⟩
set_option maxHeartbeats 8000000 in
set_option maxRecDepth 100000 in
theorem Tb.read_walk (a1 : Int) (n : Nat) (h1 : 1 ≤ a1) (h8 : a1 ≤ 8) (hn : (9 - (a1 + 1)).toNat = n) (ih : ∀ (A0 : Option Addr) (c0 : Nat) (l0 : List Int) (r1 : List S24) (r2 : Bool) (w : World), Kd.C (Kd.int .u8) w A0 l0.length l0 → l0.length ≤ c0 → tabl_parse.f l0 (a1 + 1) = some (r1, r2) → Calls Try.prog 34 #[.slice A0 l0.length c0, .int .i64 (a1 + 1)] w fun e w' => ∃ v0_ : Value, e = .returned (.tuple #[v0_, .bool r2]) ∧ Kd.R k24 24 w' w.heap.size (fun _ => True) v0_ r1 ∧ Below w.heap.size w w') (g gb : Nat) (b : List Int) (bad : Bool) (nm : ByteArray) (kd : Int) (w0 w : World) (hI : IsS91 w0 w g b bad) (hB : Below w0.heap.size w0 w) (hx : w.heap[gb]? = some (.cells #[.string nm, .int .u8 kd, .int .i64 0, .string (⟨#[]⟩ : ByteArray), .slice none 0 0] 24 (0, 0))) (hg : w0.heap.size ≤ gb) (ho : Oct b) (hl : b.length < 140737488355328) :
  Calls Try.prog 56 #[.pointer (some ⟨g, 0, none⟩), .pointer (some ⟨gb, 0, none⟩), .int .i64 a1] w fun e w' => e = .returned (.bool (Tb.readP (Tb.parseP n) kd (b, bad)).1.2.2.2) ∧ IsS91 w0 w' g (Tb.readP (Tb.parseP n) kd (b, bad)).2.1 (Tb.readP (Tb.parseP n) kd (b, bad)).2.2 ∧ Below w0.heap.size w0 w' ∧ (∃ vT : Value, w'.heap[gb]? = some (.cells #[.string nm, .int .u8 kd, .int .i64 (Tb.readP (Tb.parseP n) kd (b, bad)).1.1, .string (Tb.readP (Tb.parseP n) kd (b, bad)).1.2.1, vT] 24 (0, 0)) ∧ Kd.R k24 24 w' w.heap.size (fun _ => True) vT (Tb.readP (Tb.parseP n) kd (b, bad)).1.2.2.1) ∧ Kept w w' (fun k => k = g ∨ k = gb) := by
 have NG := Zs.mk (fun h : gb = g => (IsS91.ne_blk hI hx (by decide)) h.symm)
 have HF1 := Zs.mk (Tb.nm_f 1 1 (by decide) b bad ho hl)
 have HF4 := Zs.mk (Tb.nm_f 4 4 (by decide) b bad ho hl)
 have HF8 := Zs.mk (Tb.nm_f 8 8 (by decide) b bad ho hl)
 have HFL := Zs.mk (Tb.long_f b bad ho hl)
 have HOc := Zs.mk ho
 have HI := Zs.mk hI
 have HB := Zs.mk hB
 have HG := Zs.mk hg
 have BX := Zs.mk hx
 clear hI hB hg hx ho
 have hcx0 : w.cell? ⟨gb, 0, none⟩ = some (.string nm) := (zbc BX.out 0).trans rfl
 have hcx1 : w.cell? ⟨gb, 1, none⟩ = some (.int .u8 kd) := (zbc BX.out 1).trans rfl
 by_cases k1 : kd = 116
 ·
  subst k1
  obtain ⟨v1, b1, z1, hv⟩ : ∃ v1 b1 z1, Tb.nm 1 (b, bad) = (v1, b1, z1) := ⟨_, _, _, rfl⟩
  have HV := Zs.mk (HF1.out.trans (by rw [hv]))
  have e1 : Tb.readP (Tb.parseP n) 116 (b, bad) = ((wrap64 v1, ⟨#[]⟩, [], true), (b1, z1)) := by unfold Tb.readP; simp [hv]
  clear hv
  rw [e1]
  clear e1
  go_enter Try.func56, Try.ntmps56
  go_wp2_with (first | (go_at_call 45; (with_reducible refine (octs_In_Int.calls 9 g b bad 1 v1 b1 z1 w0 _ (by (with_reducible repeat (first | apply IsS91.alloc | apply IsS91.drewN | apply IsS91.drew)); exact HI.out) (by repeat (first | (with_reducible first | exact HB.out | apply zba | apply zbn | apply zbd) | exact HB.out)) HV.out).mono ?_); rintro e w1 ⟨rfl, hi, hb, hk⟩; have hbx := (hk.2 gb (blk_lt BX.out) NG.out (by simp)).trans BX.out; have BX1 := Zs.mk hbx; have HK := Zs.mk hk; have HI1 := Zs.mk hi; have HB1 := Zs.mk hb; clear hbx hk hi hb; have hcz0 : w1.cell? ⟨gb, 0, none⟩ = some (.string nm) := (zbc BX1.out 0).trans rfl; have hcz1 : w1.cell? ⟨gb, 1, none⟩ = some (.int .u8 116) := (zbc BX1.out 1).trans rfl; have hcz2 : w1.cell? ⟨gb, 2, none⟩ = some (.int .i64 0) := (zbc BX1.out 2).trans rfl; have hcz3 : w1.cell? ⟨gb, 3, none⟩ = some (.string (⟨#[]⟩ : ByteArray)) := (zbc BX1.out 3).trans rfl; have hcz4 : w1.cell? ⟨gb, 4, none⟩ = some (.slice none 0 0) := (zbc BX1.out 4).trans rfl; have hfz0 := zbf BX1.out 0; have hfz1 := zbf BX1.out 1; have hfz2 := zbf BX1.out 2; have hfz3 := zbf BX1.out 3; have hfz4 := zbf BX1.out 4))
  go_ret
  refine ⟨rfl, ?_, ?_, ⟨.slice none 0 0, ?_, Kd.R_nil _ _ _ _ _⟩, ?_⟩
  ·
   exact IsS91.far (p := ⟨gb, 2, none⟩) HI1.out (fun h => NG.out h.symm) _
  ·
   exact zbs HB1.out HG.out
  ·
   exact blk_put (cs := #[.string nm, .int .u8 116, .int .i64 0, .string (⟨#[]⟩ : ByteArray), .slice none 0 0]) BX1.out 2 _ rfl
  exact kept_set (Tb.kept_of HK.out) (g := gb) (j := 2) (.inr rfl)
 by_cases k2 : kd = 73
 ·
  subst k2
  obtain ⟨v1, b1, z1, hv⟩ : ∃ v1 b1 z1, Tb.nm 4 (b, bad) = (v1, b1, z1) := ⟨_, _, _, rfl⟩
  have HV := Zs.mk (HF4.out.trans (by rw [hv]))
  have e1 : Tb.readP (Tb.parseP n) 73 (b, bad) = ((wrap64 (wrap32 v1), ⟨#[]⟩, [], true), (b1, z1)) := by unfold Tb.readP; simp [hv]
  clear hv
  rw [e1]
  clear e1
  go_enter Try.func56, Try.ntmps56
  go_wp2_with (first | (go_at_call 45; (with_reducible refine (octs_In_Int.calls 9 g b bad 4 v1 b1 z1 w0 _ (by (with_reducible repeat (first | apply IsS91.alloc | apply IsS91.drewN | apply IsS91.drew)); exact HI.out) (by repeat (first | (with_reducible first | exact HB.out | apply zba | apply zbn | apply zbd) | exact HB.out)) HV.out).mono ?_); rintro e w1 ⟨rfl, hi, hb, hk⟩; have hbx := (hk.2 gb (blk_lt BX.out) NG.out (by simp)).trans BX.out; have BX1 := Zs.mk hbx; have HK := Zs.mk hk; have HI1 := Zs.mk hi; have HB1 := Zs.mk hb; clear hbx hk hi hb; have hcz0 : w1.cell? ⟨gb, 0, none⟩ = some (.string nm) := (zbc BX1.out 0).trans rfl; have hcz1 : w1.cell? ⟨gb, 1, none⟩ = some (.int .u8 73) := (zbc BX1.out 1).trans rfl; have hcz2 : w1.cell? ⟨gb, 2, none⟩ = some (.int .i64 0) := (zbc BX1.out 2).trans rfl; have hcz3 : w1.cell? ⟨gb, 3, none⟩ = some (.string (⟨#[]⟩ : ByteArray)) := (zbc BX1.out 3).trans rfl; have hcz4 : w1.cell? ⟨gb, 4, none⟩ = some (.slice none 0 0) := (zbc BX1.out 4).trans rfl; have hfz0 := zbf BX1.out 0; have hfz1 := zbf BX1.out 1; have hfz2 := zbf BX1.out 2; have hfz3 := zbf BX1.out 3; have hfz4 := zbf BX1.out 4))
  go_ret
  refine ⟨rfl, ?_, ?_, ⟨.slice none 0 0, ?_, Kd.R_nil _ _ _ _ _⟩, ?_⟩
  ·
   exact IsS91.far (p := ⟨gb, 2, none⟩) HI1.out (fun h => NG.out h.symm) _
  ·
   exact zbs HB1.out HG.out
  ·
   exact blk_put (cs := #[.string nm, .int .u8 73, .int .i64 0, .string (⟨#[]⟩ : ByteArray), .slice none 0 0]) BX1.out 2 _ rfl
  exact kept_set (Tb.kept_of HK.out) (g := gb) (j := 2) (.inr rfl)
 by_cases k3 : kd = 108
 ·
  subst k3
  obtain ⟨v1, b1, z1, hv⟩ : ∃ v1 b1 z1, Tb.nm 8 (b, bad) = (v1, b1, z1) := ⟨_, _, _, rfl⟩
  have HV := Zs.mk (HF8.out.trans (by rw [hv]))
  have e1 : Tb.readP (Tb.parseP n) 108 (b, bad) = ((wrap64 v1, ⟨#[]⟩, [], true), (b1, z1)) := by unfold Tb.readP; simp [hv]
  clear hv
  rw [e1]
  clear e1
  go_enter Try.func56, Try.ntmps56
  go_wp2_with (first | (go_at_call 45; (with_reducible refine (octs_In_Int.calls 9 g b bad 8 v1 b1 z1 w0 _ (by (with_reducible repeat (first | apply IsS91.alloc | apply IsS91.drewN | apply IsS91.drew)); exact HI.out) (by repeat (first | (with_reducible first | exact HB.out | apply zba | apply zbn | apply zbd) | exact HB.out)) HV.out).mono ?_); rintro e w1 ⟨rfl, hi, hb, hk⟩; have hbx := (hk.2 gb (blk_lt BX.out) NG.out (by simp)).trans BX.out; have BX1 := Zs.mk hbx; have HK := Zs.mk hk; have HI1 := Zs.mk hi; have HB1 := Zs.mk hb; clear hbx hk hi hb; have hcz0 : w1.cell? ⟨gb, 0, none⟩ = some (.string nm) := (zbc BX1.out 0).trans rfl; have hcz1 : w1.cell? ⟨gb, 1, none⟩ = some (.int .u8 108) := (zbc BX1.out 1).trans rfl; have hcz2 : w1.cell? ⟨gb, 2, none⟩ = some (.int .i64 0) := (zbc BX1.out 2).trans rfl; have hcz3 : w1.cell? ⟨gb, 3, none⟩ = some (.string (⟨#[]⟩ : ByteArray)) := (zbc BX1.out 3).trans rfl; have hcz4 : w1.cell? ⟨gb, 4, none⟩ = some (.slice none 0 0) := (zbc BX1.out 4).trans rfl; have hfz0 := zbf BX1.out 0; have hfz1 := zbf BX1.out 1; have hfz2 := zbf BX1.out 2; have hfz3 := zbf BX1.out 3; have hfz4 := zbf BX1.out 4))
  go_ret
  refine ⟨rfl, ?_, ?_, ⟨.slice none 0 0, ?_, Kd.R_nil _ _ _ _ _⟩, ?_⟩
  ·
   exact IsS91.far (p := ⟨gb, 2, none⟩) HI1.out (fun h => NG.out h.symm) _
  ·
   exact zbs HB1.out HG.out
  ·
   exact blk_put (cs := #[.string nm, .int .u8 108, .int .i64 0, .string (⟨#[]⟩ : ByteArray), .slice none 0 0]) BX1.out 2 _ rfl
  exact kept_set (Tb.kept_of HK.out) (g := gb) (j := 2) (.inr rfl)
 have b1 : (kd == 116) = false := beq_eq_false_iff_ne.mpr k1
 have b2 : (kd == 73) = false := beq_eq_false_iff_ne.mpr k2
 have b3 : (kd == 108) = false := beq_eq_false_iff_ne.mpr k3
 have d1 : decide (kd = 116) = false := decide_eq_false k1
 have d2 : decide (kd = 73) = false := decide_eq_false k2
 have d3 : decide (kd = 108) = false := decide_eq_false k3
 by_cases k4 : kd = 83
 ·
  subst k4
  obtain ⟨v1, b1, z1, hv⟩ : ∃ v1 b1 z1, Tb.tx 4 (b, bad) = (v1, b1, z1) := ⟨_, _, _, rfl⟩
  have HV := Zs.mk (HFL.out.trans (by rw [hv]))
  have e1 : Tb.readP (Tb.parseP n) 83 (b, bad) = ((0, strOfNums v1, [], true), (b1, z1)) := by unfold Tb.readP; simp [hv]
  clear hv
  rw [e1]
  clear e1
  go_enter Try.func56, Try.ntmps56
  go_wp2_with (first | (go_at_call 66; (with_reducible refine (octs_In_Long.calls 9 g b bad v1 b1 z1 w0 _ (by (with_reducible repeat (first | apply IsS91.alloc | apply IsS91.drewN | apply IsS91.drew)); exact HI.out) (by repeat (first | (with_reducible first | exact HB.out | apply zba | apply zbn | apply zbd) | exact HB.out)) HV.out).mono ?_); rintro e w1 ⟨vl, rfl, ho, hi, hb, hk⟩; have HO := Zs.mk ho; clear ho; have hbx := (hk.2 gb (blk_lt BX.out) NG.out (by simp)).trans BX.out; have BX1 := Zs.mk hbx; have HK := Zs.mk hk; have HI1 := Zs.mk hi; have HB1 := Zs.mk hb; clear hbx hk hi hb; have hcz0 : w1.cell? ⟨gb, 0, none⟩ = some (.string nm) := (zbc BX1.out 0).trans rfl; have hcz1 : w1.cell? ⟨gb, 1, none⟩ = some (.int .u8 83) := (zbc BX1.out 1).trans rfl; have hcz2 : w1.cell? ⟨gb, 2, none⟩ = some (.int .i64 0) := (zbc BX1.out 2).trans rfl; have hcz3 : w1.cell? ⟨gb, 3, none⟩ = some (.string (⟨#[]⟩ : ByteArray)) := (zbc BX1.out 3).trans rfl; have hcz4 : w1.cell? ⟨gb, 4, none⟩ = some (.slice none 0 0) := (zbc BX1.out 4).trans rfl; have hfz0 := zbf BX1.out 0; have hfz1 := zbf BX1.out 1; have hfz2 := zbf BX1.out 2; have hfz3 := zbf BX1.out 3; have hfz4 := zbf BX1.out 4; obtain ⟨Al, cl, el⟩ := Kd.R_slice HO.out; subst el; have hcv := Kd.C_string (P := Try.prog) (A := Al) (c := cl) Try.underlying25 Try.underlying5 Try.underlying9 (Kd.R_reads' HO.out).2.2))
  go_ret
  refine ⟨rfl, ?_, ?_, ⟨.slice none 0 0, ?_, Kd.R_nil _ _ _ _ _⟩, ?_⟩
  ·
   exact IsS91.far (p := ⟨gb, 3, none⟩) HI1.out (fun h => NG.out h.symm) _
  ·
   exact zbs HB1.out HG.out
  ·
   exact blk_put (cs := #[.string nm, .int .u8 83, .int .i64 0, .string (⟨#[]⟩ : ByteArray), .slice none 0 0]) BX1.out 3 _ rfl
  exact kept_set (Tb.kept_of HK.out) (g := gb) (j := 3) (.inr rfl)
 by_cases k5 : kd = 70
 ·
  subst k5
  obtain ⟨v1, b1, z1, hv⟩ : ∃ v1 b1 z1, Tb.tx 4 (b, bad) = (v1, b1, z1) := ⟨_, _, _, rfl⟩
  have HV := Zs.mk (HFL.out.trans (by rw [hv]))
  have hv1 : Oct v1 := by have h := (Tb.tx_oct 4 (b, bad) HOc.out).1; rw [hv] at h; exact h
  obtain ⟨t1, o1, hq⟩ : ∃ t1 o1, Tb.parseP n v1 = (t1, o1) := ⟨_, _, rfl⟩
  have HP := Zs.mk (show tabl_parse.f v1 (a1 + 1) = some (t1, o1) from by unfold tabl_parse.f; rw [if_pos ⟨by omega, by omega, hv1⟩, hn, hq])
  have e1 : Tb.readP (Tb.parseP n) 70 (b, bad) = ((0, ⟨#[]⟩, t1, o1), (b1, z1)) := by unfold Tb.readP; simp [hv, hq]
  clear hv hq hv1
  rw [e1]
  clear e1
  go_enter Try.func56, Try.ntmps56
  go_wp2_with (first | (go_at_call 66; (with_reducible refine (octs_In_Long.calls 9 g b bad v1 b1 z1 w0 _ (by (with_reducible repeat (first | apply IsS91.alloc | apply IsS91.drewN | apply IsS91.drew)); exact HI.out) (by repeat (first | (with_reducible first | exact HB.out | apply zba | apply zbn | apply zbd) | exact HB.out)) HV.out).mono ?_); rintro e w1 ⟨vl, rfl, ho, hi, hb, hk⟩; have HO := Zs.mk ho; clear ho; have hbx := (hk.2 gb (blk_lt BX.out) NG.out (by simp)).trans BX.out; have BX1 := Zs.mk hbx; have HK := Zs.mk hk; have HI1 := Zs.mk hi; have HB1 := Zs.mk hb; clear hbx hk hi hb; have hcz0 : w1.cell? ⟨gb, 0, none⟩ = some (.string nm) := (zbc BX1.out 0).trans rfl; have hcz1 : w1.cell? ⟨gb, 1, none⟩ = some (.int .u8 70) := (zbc BX1.out 1).trans rfl; have hcz2 : w1.cell? ⟨gb, 2, none⟩ = some (.int .i64 0) := (zbc BX1.out 2).trans rfl; have hcz3 : w1.cell? ⟨gb, 3, none⟩ = some (.string (⟨#[]⟩ : ByteArray)) := (zbc BX1.out 3).trans rfl; have hcz4 : w1.cell? ⟨gb, 4, none⟩ = some (.slice none 0 0) := (zbc BX1.out 4).trans rfl; have hfz0 := zbf BX1.out 0; have hfz1 := zbf BX1.out 1; have hfz2 := zbf BX1.out 2; have hfz3 := zbf BX1.out 3; have hfz4 := zbf BX1.out 4; obtain ⟨Al, cl, el⟩ := Kd.R_slice HO.out; subst el) | (go_at_call 34; (refine (ih _ _ v1 t1 o1 _ ?s1 ?s2 HP.out).mono ?_); (case s1 => repeat (first | exact (Kd.R_reads' HO.out).2.2 | (with_reducible refine Kd.C_alloc ?_ _) | (with_reducible refine Kd.C_drewN ?_ _) | (with_reducible refine Kd.C_drew ?_))); (case s2 => exact (Kd.R_reads' HO.out).2.1); rintro e w2 ⟨vt, rfl, ho, hb⟩; have HLt := Zs.mk (show gb < w.heap.size from blk_lt BX.out); have HT := Zs.mk (Kd.R_lower ho HK.out.1); have n0_ := Zs.mk (blk_below BX1.out hb); have n1_ := Zs.mk (IsS91.below HI1.out hb); have n2_ := Zs.mk (zbt HB1.out hb); have n3_ := Zs.mk (Kept.below (Tb.kept_of (gb := gb) HK.out) hb); clear BX1 HI1 HB1 HK; have BX1 := n0_; have HI1 := n1_; have HB1 := n2_; have HK := n3_; clear n0_ n1_ n2_ n3_; clear ho hb; obtain ⟨At, ct, et⟩ := Kd.R_slice HT.out; subst et; have hcp0 : w2.cell? ⟨gb, 0, none⟩ = some (.string nm) := (zbc BX1.out 0).trans rfl; have hcp1 : w2.cell? ⟨gb, 1, none⟩ = some (.int .u8 70) := (zbc BX1.out 1).trans rfl; have hcp2 : w2.cell? ⟨gb, 2, none⟩ = some (.int .i64 0) := (zbc BX1.out 2).trans rfl; have hcp3 : w2.cell? ⟨gb, 3, none⟩ = some (.string (⟨#[]⟩ : ByteArray)) := (zbc BX1.out 3).trans rfl; have hcp4 : w2.cell? ⟨gb, 4, none⟩ = some (.slice none 0 0) := (zbc BX1.out 4).trans rfl; have hfp0 := zbf BX1.out 0; have hfp1 := zbf BX1.out 1; have hfp2 := zbf BX1.out 2; have hfp3 := zbf BX1.out 3; have hfp4 := zbf BX1.out 4))
  go_ret
  refine ⟨rfl, ?_, ?_, ⟨.slice At t1.length ct, ?_, ?_⟩, ?_⟩
  ·
   exact IsS91.far (p := ⟨gb, 4, none⟩) HI1.out (fun h => NG.out h.symm) _
  ·
   exact zbs HB1.out HG.out
  ·
   exact blk_put (cs := #[.string nm, .int .u8 70, .int .i64 0, .string (⟨#[]⟩ : ByteArray), .slice none 0 0]) BX1.out 4 _ rfl
  ·
   exact Kd.R_mono (Kd.R_move (Kd.R_bound HT.out) (fun k hk => Below.heap_setCell _ ⟨gb, 4, none⟩ _ k (by have h1 := hk.2.1; have h2 := HLt.out; show k ≠ gb; omega))) (fun _ _ => trivial)
  exact kept_set HK.out (g := gb) (j := 4) (.inr rfl)
 have b4 : (kd == 83) = false := beq_eq_false_iff_ne.mpr k4
 have b5 : (kd == 70) = false := beq_eq_false_iff_ne.mpr k5
 have e1 : Tb.readP (Tb.parseP n) kd (b, bad) = ((0, ⟨#[]⟩, [], true), (b, bad)) := by unfold Tb.readP; rw [if_neg k1, if_neg k2, if_neg k3, if_neg k4, if_neg k5]
 rw [e1]
 clear e1 k1 k2 k3 k4 k5
 go_enter Try.func56, Try.ntmps56
 go_wp2
 go_ret
 exact ⟨rfl, (by (with_reducible repeat (first | apply IsS91.alloc | apply IsS91.drewN | apply IsS91.drew)); exact HI.out), (by repeat (first | (with_reducible first | exact HB.out | apply zba | apply zbn | apply zbd) | exact HB.out)), ⟨.slice none 0 0, (by (with_reducible repeat (first | refine blk_drewN ?_ _ | refine blk_drew ?_ | refine blk_alloc ?_ _)); exact BX.out), Kd.R_nil _ _ _ _ _⟩, Kept.refl _ _⟩
theorem Tb.parseL_round {Q : List Int → List S24 × Bool} {m : Nat} {b : List Int} {out r1 : List S24} {r2 : Bool} (h : Tb.parseL Q (m + 1) b out = (r1, r2)) (hb : b ≠ []) : (if (Tb.readP Q (Tb.nm 1 (Tb.tx 1 (b, false)).2).1 (Tb.nm 1 (Tb.tx 1 (b, false)).2).2).1.2.2.2 = true ∧ (Tb.readP Q (Tb.nm 1 (Tb.tx 1 (b, false)).2).1 (Tb.nm 1 (Tb.tx 1 (b, false)).2).2).2.2 = false then Tb.parseL Q m (Tb.readP Q (Tb.nm 1 (Tb.tx 1 (b, false)).2).1 (Tb.nm 1 (Tb.tx 1 (b, false)).2).2).2.1 (out ++ [⟨strOfNums (Tb.tx 1 (b, false)).1, (Tb.nm 1 (Tb.tx 1 (b, false)).2).1, (Tb.readP Q (Tb.nm 1 (Tb.tx 1 (b, false)).2).1 (Tb.nm 1 (Tb.tx 1 (b, false)).2).2).1.1, (Tb.readP Q (Tb.nm 1 (Tb.tx 1 (b, false)).2).1 (Tb.nm 1 (Tb.tx 1 (b, false)).2).2).1.2.1, (Tb.readP Q (Tb.nm 1 (Tb.tx 1 (b, false)).2).1 (Tb.nm 1 (Tb.tx 1 (b, false)).2).2).1.2.2.1⟩]) else ([], false)) = (r1, r2) := by
 unfold Tb.parseL at h
 rw [if_neg hb] at h
 exact h
set_option maxHeartbeats 8000000 in
set_option maxRecDepth 100000 in
theorem Tb.parse_walk (a1 : Int) (n : Nat) (h1 : 1 ≤ a1) (h8 : a1 ≤ 8) (hn : (9 - (a1 + 1)).toNat = n) (ih : ∀ (A0 : Option Addr) (c0 : Nat) (l0 : List Int) (r1 : List S24) (r2 : Bool) (w : World), Kd.C (Kd.int .u8) w A0 l0.length l0 → l0.length ≤ c0 → tabl_parse.f l0 (a1 + 1) = some (r1, r2) → Calls Try.prog 34 #[.slice A0 l0.length c0, .int .i64 (a1 + 1)] w fun e w' => ∃ v0_ : Value, e = .returned (.tuple #[v0_, .bool r2]) ∧ Kd.R k24 24 w' w.heap.size (fun _ => True) v0_ r1 ∧ Below w.heap.size w w') (A0 : Option Addr) (c0 : Nat) (l0 : List Int) (r1 : List S24) (r2 : Bool) (w : World) (hr0 : Kd.C (Kd.int .u8) w A0 l0.length l0) (hc0 : l0.length ≤ c0) (ho : Oct l0) (h : Tb.parseP (n + 1) l0 = (r1, r2)) :
  Calls Try.prog 34 #[.slice A0 l0.length c0, .int .i64 a1] w fun e w' => ∃ v0_ : Value, e = .returned (.tuple #[v0_, .bool r2]) ∧ Kd.R k24 24 w' w.heap.size (fun _ => True) v0_ r1 ∧ Below w.heap.size w w' := by
 have hu24 := Try.underlying24
 have HR := Zs.mk hr0
 have HCap := Zs.mk hc0
 have HOc := Zs.mk ho
 clear hr0 hc0 ho
 have HB := Zs.mk (Below.refl w.heap.size w)
 have d1 : decide (8 < a1) = false := decide_eq_false (by omega)
 by_cases c2 : l0.length ≤ 2000
 ·
  have d2 : decide (2000 < (l0.length : Int)) = false := decide_eq_false (by omega)
  have d3 : decide (2000 < l0.length) = false := decide_eq_false (by omega)
  have H := Zs.mk (show Tb.parseL (Tb.parseP n) (l0.length + 1) l0 [] = (r1, r2) from by rw [← h]; unfold Tb.parseP; rw [if_pos c2])
  have HC2 := Zs.mk c2
  clear h c2
  go_enter Try.func34, Try.ntmps34
  go_wp2_with (first | (go_at_call 44; (with_reducible refine (octs_From.calls A0 c0 l0 l0 false w _ (by repeat (first | (with_reducible first | exact HB.out | apply zba | apply zbn | apply zbd) | exact HB.out)) HR.out HCap.out rfl).mono ?_); rintro e w1 ⟨g, rfl, hi, hb, hb2, hge⟩; have HI := Zs.mk hi; clear HB; have HB := Zs.mk hb; have HG := Zs.mk (Nat.le_trans (zbz (Below.refl w.heap.size w)) hge); clear hi hb hb2 hge))
  go_loopg [6] (l0.length + 1) (fun kq v6 w' => ∃ (b : List Int) (out : List S24), Zs (b.length < kq) ∧ Zs (Tb.parseL (Tb.parseP n) kq b out = (r1, r2)) ∧ Zs (Oct b) ∧ Zs (b.length ≤ 2000) ∧ Zs (out.length + b.length ≤ 2000) ∧ Zs (IsS91 w w' g b false) ∧ Zs (Kd.R k24 24 w' w.heap.size (fun _ => True) v6 out) ∧ Zs (Below w.heap.size w w'))
  case atStart => exact ⟨l0, [], ⟨Nat.lt_succ_self _⟩, H, HOc, HC2, ⟨by have := HC2.out; simp; omega⟩, ⟨(by (with_reducible repeat (first | apply IsS91.alloc | apply IsS91.drewN | apply IsS91.drew)); exact HI.out)⟩, ⟨Kd.R_nil _ _ _ _ _⟩, ⟨(by repeat (first | (with_reducible first | exact HB.out | apply zba | apply zbn | apply zbd) | exact HB.out))⟩⟩
  case round =>
   clear H HB HI
   obtain ⟨b, out, HLt, H, HOb, HLb, HLo, HI, HO, HB⟩ := hrel
   obtain ⟨k1, rfl⟩ : ∃ k1, gk = k1 + 1 := ⟨gk - 1, by have := HLt.out; omega⟩
   have HO0 := Zs.mk (IsS91.apart HI.out HO.out (by decide))
   have HN0 := Zs.mk (IsS91.own_ne HI.out HO.out (by decide))
   have HKp := Zs.mk (Kept.refl wr (fun k => k = g))
   have HGl := Zs.mk (IsS91.lt HI.out)
   have HBw := Zs.mk (zbz HB.out)
   have HOl := Zs.mk (Kd.R_lt HO.out)
   by_cases cb : b = []
   ·
    have hr : out = r1 ∧ true = r2 := by have h := H.out; unfold Tb.parseL at h; rw [if_pos cb] at h; simpa using h
    have q1 : decide (0 < (b.length : Int)) = false := by rw [cb]; rfl
    have q2 : decide (0 < b.length) = false := by rw [cb]; rfl
    obtain ⟨rfl, rfl⟩ := hr
    clear cb H
    go_wp2_with (first | (go_at_call 55; (with_reducible refine (octs_In_Left.calls g b false (b.length : Int) b false w _ (by (with_reducible repeat (first | apply IsS91.alloc | apply IsS91.drewN | apply IsS91.drew)); exact HI.out) (by repeat (first | (with_reducible first | exact HB.out | apply zba | apply zbn | apply zbd) | exact HB.out)) rfl).mono ?_); rintro e w1 ⟨rfl, hi, hb, hk⟩; have n0_ := Zs.mk hi; have n1_ := Zs.mk hb; have n2_ := Zs.mk (Kept.of_keep HKp.out hk (.inl rfl)); clear HI HB HKp; have HI := n0_; have HB := n1_; have HKp := n2_; clear n0_ n1_ n2_; clear hi hb hk))
    all_goals first | (go_ret2; exact ⟨_, by first | rfl | (simp; done) | (simp; rfl), Kd.R_mono (Kd.R_move (Kd.R_bound HO0.out) (fun k hk => HKp.out.2 k hk.2.2.1 hk.1.2)) (fun _ _ => trivial), (by repeat (first | (with_reducible first | exact HB.out | apply zba | apply zbn | apply zbd) | exact HB.out))⟩) | (exfalso; simp_all; done)
   have q1 : decide (0 < (b.length : Int)) = true := decide_eq_true (by have := List.length_pos_iff.2 cb; omega)
   have q2 : decide (0 < b.length) = true := decide_eq_true (List.length_pos_iff.2 cb)
   have HBp := Zs.mk (show 1 ≤ b.length from List.length_pos_iff.2 cb)
   have HX := Zs.mk (Tb.parseL_round H.out cb)
   clear cb H
   obtain ⟨nl, b1, z1, ht⟩ : ∃ nl b1 z1, Tb.tx 1 (b, false) = (nl, b1, z1) := ⟨_, _, _, rfl⟩
   obtain ⟨nmv, hnm⟩ : ∃ nmv, strOfNums nl = nmv := ⟨_, rfl⟩
   have HFS := Zs.mk (show octs_In_Short.f 9 b false = some (nmv, b1, z1) from by rw [Tb.short_f b false HOb.out (by have := HLb.out; omega), ht, hnm])
   have ho1 : Oct b1 := by have h := (Tb.tx_oct 1 (b, false) HOb.out).2; rw [ht] at h; exact h
   have hl1 : b1.length < b.length := by have h := Tb.tx_less 1 (b, false) (by omega) HBp.out; rw [ht] at h; exact h
   obtain ⟨kv, b2, z2, hk2⟩ : ∃ kv b2 z2, Tb.nm 1 (b1, z1) = (kv, b2, z2) := ⟨_, _, _, rfl⟩
   have HFK := Zs.mk (show octs_In_Int.f 9 b1 z1 1 = some (kv, b2, z2) from by rw [Tb.nm_f 1 1 (by decide) b1 z1 ho1 (by have := HLb.out; omega), hk2])
   have HKv := Zs.mk (show kv % 256 = kv from by have h := Tb.nm_bound 1 (b1, z1) ho1; rw [hk2] at h; simp at h; omega)
   have HO2 := Zs.mk (show Oct b2 from by have h := Tb.nm_oct 1 (b1, z1) ho1; rw [hk2] at h; exact h)
   have HL2 := Zs.mk (show b2.length < b.length from by have h := Tb.nm_len 1 (b1, z1); rw [hk2] at h; exact Nat.lt_of_le_of_lt h hl1)
   obtain ⟨n3, s3, t3, o3, b3, z3, hrd⟩ : ∃ n3 s3 t3 o3 b3 z3, Tb.readP (Tb.parseP n) kv (b2, z2) = ((n3, s3, t3, o3), (b3, z3)) := ⟨_, _, _, _, _, _, rfl⟩
   have HRd := Zs.mk hrd
   have HO3 := Zs.mk (show Oct b3 from by have h := Tb.read_oct (Tb.parseP n) kv (b2, z2) HO2.out; rw [hrd] at h; exact h)
   have HL3 := Zs.mk (show b3.length < b.length from by have h := Tb.read_len (Tb.parseP n) kv (b2, z2); rw [hrd] at h; exact Nat.lt_of_le_of_lt h HL2.out)
   have HY := Zs.mk (show (if o3 = true ∧ z3 = false then Tb.parseL (Tb.parseP n) k1 b3 (out ++ [⟨nmv, kv, n3, s3, t3⟩]) else ([], false)) = (r1, r2) from by have h := HX.out; simp only [ht, hk2, hrd, hnm] at h; exact h)
   clear ht hnm ho1 hl1 hk2 hrd HX
   go_upto_region 8 with (first | (go_at_call 55; (with_reducible refine (octs_In_Left.calls g b false (b.length : Int) b false w _ (by (with_reducible repeat (first | apply IsS91.alloc | apply IsS91.drewN | apply IsS91.drew)); exact HI.out) (by repeat (first | (with_reducible first | exact HB.out | apply zba | apply zbn | apply zbd) | exact HB.out)) rfl).mono ?_); rintro e w1 ⟨rfl, hi, hb, hk⟩; have n0_ := Zs.mk hi; have n1_ := Zs.mk hb; have n2_ := Zs.mk (Kept.of_keep HKp.out hk (.inl rfl)); clear HI HB HKp; have HI := n0_; have HB := n1_; have HKp := n2_; clear n0_ n1_ n2_; clear hi hb hk) | (go_at_call 47; (with_reducible refine (octs_In_Short.calls 9 g b false nmv b1 z1 w _ (by (with_reducible repeat (first | apply IsS91.alloc | apply IsS91.drewN | apply IsS91.drew)); exact HI.out) (by repeat (first | (with_reducible first | exact HB.out | apply zba | apply zbn | apply zbd) | exact HB.out)) HFS.out).mono ?_); rintro e w2 ⟨rfl, hi, hb, hk⟩; have n0_ := Zs.mk hi; have n1_ := Zs.mk hb; have n2_ := Zs.mk (Kept.of_keep HKp.out hk (.inl rfl)); clear HI HB HKp; have HI := n0_; have HB := n1_; have HKp := n2_; clear n0_ n1_ n2_; clear hi hb hk) | ((with_reducible refine gate_dst (N := 8) rfl ?_); refine box_event ?hg (N := 8) ?hd (cs := #[.string (⟨#[]⟩ : ByteArray), .int .u8 0, .int .i64 0, .string (⟨#[]⟩ : ByteArray), .slice none 0 0]) (t := 24) ?hr ?_; (case hd => rfl); (case hg => rfl); (case hr => first | (go_simp; done) | (go_simp; rfl)); intro gb he w3 hbox hb; have GE := Zs.mk (show wr.heap.size ≤ gb from by rw [he]; exact HKp.out.1); have GW := Zs.mk (show w.heap.size ≤ gb from by rw [he]; exact zbz (by repeat (first | (with_reducible first | exact HB.out | apply zba | apply zbn | apply zbd) | exact HB.out))); have BX := Zs.mk hbox; have n0_ := Zs.mk (IsS91.below HI.out hb); have n1_ := Zs.mk (zbt HB.out hb); have n2_ := Zs.mk (Kept.below HKp.out hb); clear HI HB HKp; have HI := n0_; have HB := n1_; have HKp := n2_; clear n0_ n1_ n2_; clear hbox hb he; have NG := Zs.mk (fun h : g = gb => (IsS91.ne_blk HI.out BX.out (by decide)) h); have hcz0 : w3.cell? ⟨gb, 0, none⟩ = some (.string (⟨#[]⟩ : ByteArray)) := (zbc BX.out 0).trans rfl; have hcz1 : w3.cell? ⟨gb, 1, none⟩ = some (.int .u8 0) := (zbc BX.out 1).trans rfl; have hcz2 : w3.cell? ⟨gb, 2, none⟩ = some (.int .i64 0) := (zbc BX.out 2).trans rfl; have hcz3 : w3.cell? ⟨gb, 3, none⟩ = some (.string (⟨#[]⟩ : ByteArray)) := (zbc BX.out 3).trans rfl; have hcz4 : w3.cell? ⟨gb, 4, none⟩ = some (.slice none 0 0) := (zbc BX.out 4).trans rfl; have hfz0 := zbf BX.out 0; have hfz1 := zbf BX.out 1; have hfz2 := zbf BX.out 2; have hfz3 := zbf BX.out 3; have hfz4 := zbf BX.out 4) | ((with_reducible refine gate_store (t := 24) (p := 8) rfl ?_); refine store_event (t := 24) (p := 8) (v := ?vo_w2) (w1 := (((((w3.setCell ⟨gb, 0, none⟩ (.string nmv)).setCell ⟨gb, 1, none⟩ (.int .u8 0)).setCell ⟨gb, 2, none⟩ (.int .i64 0)).setCell ⟨gb, 3, none⟩ (.string (⟨#[]⟩ : ByteArray))).setCell ⟨gb, 4, none⟩ (.slice none 0 0))) ?hg ?ho ?hn ?hr ?_; (case ho => rfl); (case hg => rfl); (case hn => rfl); (case hr => first | (go_simp; done) | (go_simp; rfl)); intro w4 hw; have BX2 : Zs (w4.heap[gb]? = some (.cells #[.string nmv, .int .u8 0, .int .i64 0, .string (⟨#[]⟩ : ByteArray), .slice none 0 0] 24 (0, 0))) := ⟨by rw [hw]; refine blk_put (cs := #[.string nmv, .int .u8 0, .int .i64 0, .string (⟨#[]⟩ : ByteArray), .slice none 0 0]) ?_ 4 _ rfl; refine blk_put (cs := #[.string nmv, .int .u8 0, .int .i64 0, .string (⟨#[]⟩ : ByteArray), .slice none 0 0]) ?_ 3 _ rfl; refine blk_put (cs := #[.string nmv, .int .u8 0, .int .i64 0, .string (⟨#[]⟩ : ByteArray), .slice none 0 0]) ?_ 2 _ rfl; refine blk_put (cs := #[.string nmv, .int .u8 0, .int .i64 0, .string (⟨#[]⟩ : ByteArray), .slice none 0 0]) ?_ 1 _ rfl; refine blk_put (cs := #[.string (⟨#[]⟩ : ByteArray), .int .u8 0, .int .i64 0, .string (⟨#[]⟩ : ByteArray), .slice none 0 0]) ?_ 0 _ rfl; exact BX.out⟩; have n0_ : Zs (IsS91 w w4 g b1 z1) := ⟨by rw [hw]; exact (IsS91.far (p := ⟨gb, 4, none⟩) (IsS91.far (p := ⟨gb, 3, none⟩) (IsS91.far (p := ⟨gb, 2, none⟩) (IsS91.far (p := ⟨gb, 1, none⟩) (IsS91.far (p := ⟨gb, 0, none⟩) HI.out NG.out _) NG.out _) NG.out _) NG.out _) NG.out _)⟩; have n1_ : Zs (Below w.heap.size w w4) := ⟨by rw [hw]; repeat (first | (with_reducible exact HB.out) | (with_reducible refine zbs ?_ GW.out))⟩; have n2_ : Zs (Kept wr w4 (fun k => k = g)) := ⟨by rw [hw]; exact (Kept.setCell (Kept.setCell (Kept.setCell (Kept.setCell (Kept.setCell HKp.out (p := ⟨gb, 0, none⟩) (.inr GE.out) _) (p := ⟨gb, 1, none⟩) (.inr GE.out) _) (p := ⟨gb, 2, none⟩) (.inr GE.out) _) (p := ⟨gb, 3, none⟩) (.inr GE.out) _) (p := ⟨gb, 4, none⟩) (.inr GE.out) _)⟩; clear hw HI HB HKp BX; have HI := n0_; have HB := n1_; have HKp := n2_; clear n0_ n1_ n2_; clear hcz0 hfz0 hcz1 hfz1 hcz2 hfz2 hcz3 hfz3 hcz4 hfz4) | (go_at_call 45; (with_reducible refine (octs_In_Int.calls 9 g b1 z1 1 kv b2 z2 w _ (by (with_reducible repeat (first | apply IsS91.alloc | apply IsS91.drewN | apply IsS91.drew)); exact HI.out) (by repeat (first | (with_reducible first | exact HB.out | apply zba | apply zbn | apply zbd) | exact HB.out)) HFK.out).mono ?_); rintro e w5 ⟨rfl, hi, hb, hk⟩; have n3_ := Zs.mk ((hk.2 gb (blk_lt BX2.out) (fun h => NG.out h.symm) (by simp)).trans BX2.out); have n0_ := Zs.mk hi; have n1_ := Zs.mk hb; have n2_ := Zs.mk (Kept.of_keep HKp.out hk (.inl rfl)); clear HI HB HKp BX2; have HI := n0_; have HB := n1_; have HKp := n2_; have BX2 := n3_; clear n0_ n1_ n2_ n3_; clear hi hb hk; have hcy0 : w5.cell? ⟨gb, 0, none⟩ = some (.string nmv) := (zbc BX2.out 0).trans rfl; have hcy1 : w5.cell? ⟨gb, 1, none⟩ = some (.int .u8 0) := (zbc BX2.out 1).trans rfl; have hcy2 : w5.cell? ⟨gb, 2, none⟩ = some (.int .i64 0) := (zbc BX2.out 2).trans rfl; have hcy3 : w5.cell? ⟨gb, 3, none⟩ = some (.string (⟨#[]⟩ : ByteArray)) := (zbc BX2.out 3).trans rfl; have hcy4 : w5.cell? ⟨gb, 4, none⟩ = some (.slice none 0 0) := (zbc BX2.out 4).trans rfl; have hfy0 := zbf BX2.out 0; have hfy1 := zbf BX2.out 1; have hfy2 := zbf BX2.out 2; have hfy3 := zbf BX2.out 3; have hfy4 := zbf BX2.out 4))
   have n4_ := Zs.mk (show IsS91 w (w5.setCell ⟨gb, 1, none⟩ (.int .u8 kv)) g b2 z2 from IsS91.far (p := ⟨gb, 1, none⟩) HI.out NG.out _)
   have n5_ := Zs.mk (show Below w.heap.size w (w5.setCell ⟨gb, 1, none⟩ (.int .u8 kv)) from zbs HB.out GW.out)
   have n6_ := Zs.mk (Kept.setCell HKp.out (p := ⟨gb, 1, none⟩) (.inr GE.out) (.int .u8 kv))
   have n7_ := Zs.mk (show (w5.setCell ⟨gb, 1, none⟩ (.int .u8 kv)).heap[gb]? = some (.cells #[.string nmv, .int .u8 kv, .int .i64 0, .string (⟨#[]⟩ : ByteArray), .slice none 0 0] 24 (0, 0)) from blk_put (cs := #[.string nmv, .int .u8 0, .int .i64 0, .string (⟨#[]⟩ : ByteArray), .slice none 0 0]) BX2.out 1 _ rfl)
   try rw [HKv.out]
   generalize w5.setCell ⟨gb, 1, none⟩ (.int .u8 kv) = w6 at n4_ n5_ n6_ n7_ ⊢
   clear HI HB HKp BX2 hcy0 hcy1 hcy2 hcy3 hcy4 hfy0 hfy1 hfy2 hfy3 hfy4
   have HI := n4_
   have HB := n5_
   have HKp := n6_
   have BX := n7_
   clear n4_ n5_ n6_ n7_
   cases o3 with
   | false =>
    obtain ⟨rfl, rfl⟩ : r1 = [] ∧ r2 = false := by have h := HY.out; rw [if_neg (by simp)] at h; simpa [eq_comm] using h
    go_wp2_with (first | (go_at_call 56; (with_reducible refine (Tb.read_walk a1 n h1 h8 hn ih g gb b2 z2 nmv kv w _ HI.out HB.out BX.out GW.out HO2.out (Nat.lt_trans (zq5 HL2.out HLb.out) (by decide))).mono ?_); rw [HRd.out]; rintro e w7 ⟨rfl, hi, hb, ⟨vT, hbx, hT⟩, hk⟩; have HW6 := Zs.mk (show wr.heap.size ≤ w6.heap.size from HKp.out.1); have HT := Zs.mk (Kd.R_bound hT); have n0_ := Zs.mk hi; have n1_ := Zs.mk hb; have n2_ := Zs.mk (Kept.then_ HKp.out hk (fun k hk => hk.elim .inl (fun h => .inr (h ▸ GE.out)))); have n3_ := Zs.mk hbx; clear HI HB HKp BX; have HI := n0_; have HB := n1_; have HKp := n2_; have BX := n3_; clear n0_ n1_ n2_ n3_; clear hi hb hk hbx hT; obtain ⟨Av, cv, ev⟩ := Kd.R_slice HT.out; subst ev; have hcv0 : w7.cell? ⟨gb, 0, none⟩ = some (.string nmv) := (zbc BX.out 0).trans rfl; have hcv1 : w7.cell? ⟨gb, 1, none⟩ = some (.int .u8 kv) := (zbc BX.out 1).trans rfl; have hcv2 : w7.cell? ⟨gb, 2, none⟩ = some (.int .i64 n3) := (zbc BX.out 2).trans rfl; have hcv3 : w7.cell? ⟨gb, 3, none⟩ = some (.string s3) := (zbc BX.out 3).trans rfl; have hcv4 : w7.cell? ⟨gb, 4, none⟩ = some (.slice Av t3.length cv) := (zbc BX.out 4).trans rfl))
    all_goals first | (go_ret2; exact ⟨_, by first | rfl | (simp; done) | (simp; rfl), by first | exact Kd.R_nil _ _ _ _ _, (by repeat (first | (with_reducible first | exact HB.out | apply zba | apply zbn | apply zbd) | exact HB.out))⟩) | (exfalso; simp_all; done)
   | true =>
    cases z3 with
    | true =>
     obtain ⟨rfl, rfl⟩ : r1 = [] ∧ r2 = false := by have h := HY.out; rw [if_neg (by simp)] at h; simpa [eq_comm] using h
     go_wp2_with (first | (go_at_call 56; (with_reducible refine (Tb.read_walk a1 n h1 h8 hn ih g gb b2 z2 nmv kv w _ HI.out HB.out BX.out GW.out HO2.out (Nat.lt_trans (zq5 HL2.out HLb.out) (by decide))).mono ?_); rw [HRd.out]; rintro e w7 ⟨rfl, hi, hb, ⟨vT, hbx, hT⟩, hk⟩; have HW6 := Zs.mk (show wr.heap.size ≤ w6.heap.size from HKp.out.1); have HT := Zs.mk (Kd.R_bound hT); have n0_ := Zs.mk hi; have n1_ := Zs.mk hb; have n2_ := Zs.mk (Kept.then_ HKp.out hk (fun k hk => hk.elim .inl (fun h => .inr (h ▸ GE.out)))); have n3_ := Zs.mk hbx; clear HI HB HKp BX; have HI := n0_; have HB := n1_; have HKp := n2_; have BX := n3_; clear n0_ n1_ n2_ n3_; clear hi hb hk hbx hT; obtain ⟨Av, cv, ev⟩ := Kd.R_slice HT.out; subst ev; have hcv0 : w7.cell? ⟨gb, 0, none⟩ = some (.string nmv) := (zbc BX.out 0).trans rfl; have hcv1 : w7.cell? ⟨gb, 1, none⟩ = some (.int .u8 kv) := (zbc BX.out 1).trans rfl; have hcv2 : w7.cell? ⟨gb, 2, none⟩ = some (.int .i64 n3) := (zbc BX.out 2).trans rfl; have hcv3 : w7.cell? ⟨gb, 3, none⟩ = some (.string s3) := (zbc BX.out 3).trans rfl; have hcv4 : w7.cell? ⟨gb, 4, none⟩ = some (.slice Av t3.length cv) := (zbc BX.out 4).trans rfl) | (go_at_call 46; (with_reducible refine (octs_In_Ok.calls g b3 true (!true) b3 true w _ (by (with_reducible repeat (first | apply IsS91.alloc | apply IsS91.drewN | apply IsS91.drew)); exact HI.out) (by repeat (first | (with_reducible first | exact HB.out | apply zba | apply zbn | apply zbd) | exact HB.out)) rfl).mono ?_); rintro e w8 ⟨rfl, hi, hb, hk⟩; have n3_ := Zs.mk ((hk.2 gb (blk_lt BX.out) (fun h => NG.out h.symm) (by simp)).trans BX.out); have n0_ := Zs.mk hi; have n1_ := Zs.mk hb; have n2_ := Zs.mk (Kept.of_keep HKp.out hk (.inl rfl)); have n4_ := Zs.mk (Kd.R_move HT.out (fun k hk' => hk.2 k hk'.2.2.1 (fun he => by have h1 := hk'.2.1; have h2 := HGl.out; have h3 := HW6.out; omega) (by simp))); clear HI HB HKp BX HT; have HI := n0_; have HB := n1_; have HKp := n2_; have BX := n3_; have HT := n4_; clear n0_ n1_ n2_ n3_ n4_; clear hi hb hk; have hcu0 : w8.cell? ⟨gb, 0, none⟩ = some (.string nmv) := (zbc BX.out 0).trans rfl; have hcu1 : w8.cell? ⟨gb, 1, none⟩ = some (.int .u8 kv) := (zbc BX.out 1).trans rfl; have hcu2 : w8.cell? ⟨gb, 2, none⟩ = some (.int .i64 n3) := (zbc BX.out 2).trans rfl; have hcu3 : w8.cell? ⟨gb, 3, none⟩ = some (.string s3) := (zbc BX.out 3).trans rfl; have hcu4 : w8.cell? ⟨gb, 4, none⟩ = some (.slice Av t3.length cv) := (zbc BX.out 4).trans rfl))
     all_goals first | (go_ret2; exact ⟨_, by first | rfl | (simp; done) | (simp; rfl), by first | exact Kd.R_nil _ _ _ _ _, (by repeat (first | (with_reducible first | exact HB.out | apply zba | apply zbn | apply zbd) | exact HB.out))⟩) | (exfalso; simp_all; done)
    | false =>
     have HNX := Zs.mk (show Tb.parseL (Tb.parseP n) k1 b3 (out ++ [⟨nmv, kv, n3, s3, t3⟩]) = (r1, r2) from by have h := HY.out; rw [if_pos ⟨rfl, rfl⟩] at h; exact h)
     go_upto_region 10 with (first | (go_at_call 56; (with_reducible refine (Tb.read_walk a1 n h1 h8 hn ih g gb b2 z2 nmv kv w _ HI.out HB.out BX.out GW.out HO2.out (Nat.lt_trans (zq5 HL2.out HLb.out) (by decide))).mono ?_); rw [HRd.out]; rintro e w7 ⟨rfl, hi, hb, ⟨vT, hbx, hT⟩, hk⟩; have HW6 := Zs.mk (show wr.heap.size ≤ w6.heap.size from HKp.out.1); have HT := Zs.mk (Kd.R_bound hT); have n0_ := Zs.mk hi; have n1_ := Zs.mk hb; have n2_ := Zs.mk (Kept.then_ HKp.out hk (fun k hk => hk.elim .inl (fun h => .inr (h ▸ GE.out)))); have n3_ := Zs.mk hbx; clear HI HB HKp BX; have HI := n0_; have HB := n1_; have HKp := n2_; have BX := n3_; clear n0_ n1_ n2_ n3_; clear hi hb hk hbx hT; obtain ⟨Av, cv, ev⟩ := Kd.R_slice HT.out; subst ev; have hcv0 : w7.cell? ⟨gb, 0, none⟩ = some (.string nmv) := (zbc BX.out 0).trans rfl; have hcv1 : w7.cell? ⟨gb, 1, none⟩ = some (.int .u8 kv) := (zbc BX.out 1).trans rfl; have hcv2 : w7.cell? ⟨gb, 2, none⟩ = some (.int .i64 n3) := (zbc BX.out 2).trans rfl; have hcv3 : w7.cell? ⟨gb, 3, none⟩ = some (.string s3) := (zbc BX.out 3).trans rfl; have hcv4 : w7.cell? ⟨gb, 4, none⟩ = some (.slice Av t3.length cv) := (zbc BX.out 4).trans rfl) | (go_at_call 46; (with_reducible refine (octs_In_Ok.calls g b3 false (!false) b3 false w _ (by (with_reducible repeat (first | apply IsS91.alloc | apply IsS91.drewN | apply IsS91.drew)); exact HI.out) (by repeat (first | (with_reducible first | exact HB.out | apply zba | apply zbn | apply zbd) | exact HB.out)) rfl).mono ?_); rintro e w8 ⟨rfl, hi, hb, hk⟩; have n3_ := Zs.mk ((hk.2 gb (blk_lt BX.out) (fun h => NG.out h.symm) (by simp)).trans BX.out); have n0_ := Zs.mk hi; have n1_ := Zs.mk hb; have n2_ := Zs.mk (Kept.of_keep HKp.out hk (.inl rfl)); have n4_ := Zs.mk (Kd.R_move HT.out (fun k hk' => hk.2 k hk'.2.2.1 (fun he => by have h1 := hk'.2.1; have h2 := HGl.out; have h3 := HW6.out; omega) (by simp))); clear HI HB HKp BX HT; have HI := n0_; have HB := n1_; have HKp := n2_; have BX := n3_; have HT := n4_; clear n0_ n1_ n2_ n3_ n4_; clear hi hb hk; have hcu0 : w8.cell? ⟨gb, 0, none⟩ = some (.string nmv) := (zbc BX.out 0).trans rfl; have hcu1 : w8.cell? ⟨gb, 1, none⟩ = some (.int .u8 kv) := (zbc BX.out 1).trans rfl; have hcu2 : w8.cell? ⟨gb, 2, none⟩ = some (.int .i64 n3) := (zbc BX.out 2).trans rfl; have hcu3 : w8.cell? ⟨gb, 3, none⟩ = some (.string s3) := (zbc BX.out 3).trans rfl; have hcu4 : w8.cell? ⟨gb, 4, none⟩ = some (.slice Av t3.length cv) := (zbc BX.out 4).trans rfl))
     have HOut := Zs.mk (show k24.R 24 w8 w.heap.size (fun _ => True) u6 out from Kd.R_mono (Kd.R_move (Kd.R_bound HO0.out) (fun k hk => HKp.out.2 k hk.2.2.1 hk.1.2)) (fun _ _ => trivial))
     have HT2 := Zs.mk (show k24.R 24 w8 w.heap.size (fun k => True ∧ some k ≠ u6.ownBlock) (.slice Av t3.length cv) t3 from Kd.R_lower (Kd.R_mono HT.out (fun k hk => ⟨trivial, fun he => by have h1 := HOl.out k he.symm; have h2 := hk.2.1; have h3 := HW6.out; omega⟩)) (Nat.le_trans HBw.out HW6.out))
     have HXL := Zs.mk (show out.length ≤ 2000 from by have := HLo.out; omega)
     go_wp2_with (first | ((with_reducible refine gate_builtin (b := .append) (xs := #[.tmp 37, .tmp 39]) rfl ?_); at_builtin; refine Kd.R_append k24 (w0 := w) w.heap.size rfl (.tmp 37) (.tmp 39) 22 24 (.agg #[(.string ⟨#[]⟩), (.int .u8 0), (.int .i64 0), (.string ⟨#[]⟩), (.slice none 0 0)]) 72 rfl Try.underlying22 info24 rfl (by decide) (by omega) u6 out (⟨nmv, kv, n3, s3, t3⟩ : S24) [.string nmv, .int .u8 kv, .int .i64 n3, .string s3, .slice Av t3.length cv] (fun _ => True) (fun k_ => True ∧ some k_ ≠ (u6 : Value).ownBlock) rfl rfl ?aP (fun _ hk => hk) ?aF ?aO ?aB ?aS ?aL ?_; (case aP => exact k24_mkM _ _ _ (⟨nmv, kv, n3, s3, t3⟩ : S24) HT2.out); (case aB => exact (by repeat (first | (with_reducible first | exact HB.out | apply zba | apply zbn | apply zbd) | exact HB.out))); (case aF => exact (fun _ _ => trivial)); (case aO => exact (by (with_reducible repeat (first | apply Kd.R_alloc | apply Kd.R_drewN | apply Kd.R_drew)); exact HOut.out)); (case aS => exact (zbz (by repeat (first | (with_reducible first | exact HB.out | apply zba | apply zbn | apply zbd) | exact HB.out)))); (case aL => have := HXL.out; omega); intro v9 w9 ho hb hg hat; have HO9 := Zs.mk ho; have HB9 := Zs.mk hb; have HI9 := Zs.mk (IsS91.grown HI.out hg HN0.out); clear ho hb hg hat))
     go_roundg k1
     case measure => omega
     case rel => exact ⟨b3, out ++ [⟨nmv, kv, n3, s3, t3⟩], ⟨by have := HLt.out; have := HL3.out; omega⟩, HNX, HO3, ⟨by have := HLb.out; have := HL3.out; omega⟩, ⟨by rw [List.length_append, List.length_singleton]; have := HLo.out; have := HL3.out; omega⟩, ⟨(by (with_reducible repeat (first | apply IsS91.alloc | apply IsS91.drewN | apply IsS91.drew)); exact HI9.out)⟩, ⟨(by (with_reducible repeat (first | apply Kd.R_alloc | apply Kd.R_drewN | apply Kd.R_drew)); exact HO9.out)⟩, ⟨(by repeat (first | (with_reducible first | exact HB9.out | apply zba | apply zbn | apply zbd) | exact HB9.out))⟩⟩
 have d2 : decide (2000 < (l0.length : Int)) = true := decide_eq_true (by omega)
 have d3 : decide (2000 < l0.length) = true := decide_eq_true (by omega)
 have hr : r1 = [] ∧ r2 = false := by
  unfold Tb.parseP at h
  rw [if_neg c2] at h
  simpa [eq_comm] using h
 obtain ⟨rfl, rfl⟩ := hr
 clear h c2
 go_enter Try.func34, Try.ntmps34
 go_wp2
 all_goals first | (go_ret2; exact ⟨_, by first | rfl | (simp; done) | (simp; rfl), by first | exact Kd.R_nil _ _ _ _ _, (by repeat (first | (with_reducible first | exact HB.out | apply zba | apply zbn | apply zbd) | exact HB.out))⟩) | (exfalso; simp_all; done)
set_option maxHeartbeats 8000000 in
set_option maxRecDepth 100000 in
theorem Tb.parse_none (a1 : Int) (h9 : a1 = 9) (A0 : Option Addr) (c0 : Nat) (l0 : List Int) (w : World) :
  Calls Try.prog 34 #[.slice A0 l0.length c0, .int .i64 a1] w fun e w' => ∃ v0_ : Value, e = .returned (.tuple #[v0_, .bool false]) ∧ Kd.R k24 24 w' w.heap.size (fun _ => True) v0_ [] ∧ Below w.heap.size w w' := by
 have d1 : decide (8 < a1) = true := decide_eq_true (by omega)
 have HB := Zs.mk (Below.refl w.heap.size w)
 go_enter Try.func34, Try.ntmps34
 go_wp2
 all_goals first | (go_ret2; exact ⟨_, by first | rfl | (simp; done) | (simp; rfl), by first | exact Kd.R_nil _ _ _ _ _, (by repeat (first | (with_reducible first | exact HB.out | apply zba | apply zbn | apply zbd) | exact HB.out))⟩) | (exfalso; simp_all; done)
theorem Tb.parse_all : ∀ (n : Nat) (a1 : Int), (9 - a1).toNat = n → ParseCalls a1 := by
 intro n
 induction n with
 | zero =>
  intro a1 hn A0 c0 l0 r1 r2 w hr hc h
  unfold tabl_parse.f at h
  rw [hn] at h
  by_cases hg : 1 ≤ a1 ∧ a1 ≤ 9 ∧ Oct l0
  ·
   rw [if_pos hg] at h
   simp only [Tb.parseP, Option.some.injEq, Prod.mk.injEq] at h
   obtain ⟨rfl, rfl⟩ := h
   exact Tb.parse_none a1 (by omega) A0 c0 l0 w
  ·
   rw [if_neg hg] at h
   cases h
 | succ n ih =>
  intro a1 hn A0 c0 l0 r1 r2 w hr hc h
  unfold tabl_parse.f at h
  rw [hn] at h
  by_cases hg : 1 ≤ a1 ∧ a1 ≤ 9 ∧ Oct l0
  ·
   rw [if_pos hg] at h
   have h1 := Option.some.inj h
   exact Tb.parse_walk a1 n hg.1 (by omega) (by omega) (ih (a1 + 1) (by omega)) A0 c0 l0 r1 r2 w hr hc hg.2.2 h1
  rw [if_neg hg] at h
  cases h
theorem tabl_parse.calls (A0 : Option Addr) (c0 : Nat) (l0 : List Int) (a1 : Int) (r1 : List S24) (r2 : Bool) (w : World) (hr0 : Kd.C (Kd.int .u8) w A0 l0.length l0) (hc0 : l0.length ≤ c0) (h : tabl_parse.f l0 a1 = some (r1, r2)) :
  Calls Try.prog 34 #[.slice A0 l0.length c0, .int .i64 a1] w fun e w' => ∃ v0_ : Value, e = .returned (.tuple #[v0_, .bool r2]) ∧ Kd.R k24 24 w' w.heap.size (fun _ => True) v0_ r1 ∧ Below w.heap.size w w' :=
 Tb.parse_all _ a1 rfl A0 c0 l0 r1 r2 w hr0 hc0 h
end Go.Proofs.Ytfhaffpegncdiaa.PT
