/-
tabl.rows: a table's octets, or none: its walk.
Conditions: the depth from one to nine, no text longer than any machine has room for.
-/
import Derived.Test.YtfhaffpegncdiaaShort
import Derived.Test.YtfhaffpegncdiaaTTablCount
namespace Go.Proofs.Ytfhaffpegncdiaa.PT
open Go.RowKit Go.Proofs.Ytfhaffpegncdiaa.Pure Go.Proofs.YtfhaffpegncdiaaW.PrintWords Go.Proofs.YtfhaffpegncdiaaW.PrintLast Go.Proofs.YtfhaffpegncdiaaW.PrintMore
set_option linter.unusedVariables false
set_option linter.unusedSimpArgs false
theorem Mi.is_alloc {P : Program} {w : World} {b : Nat} {E : List (Lit × DataW Unit)} (h : Mi.Is P w b E) (o : Obj) : Mi.Is P (w.alloc o) b E := Mi.below h (zba (Below.refl _ _) o)
theorem Mi.is_drewN {P : Program} {w : World} {b : Nat} {E : List (Lit × DataW Unit)} (h : Mi.Is P w b E) (m : Nat) : Mi.Is P (w.drewN m) b E := Mi.below h (zbn (Below.refl _ _) m)
theorem Mi.is_drew {P : Program} {w : World} {b : Nat} {E : List (Lit × DataW Unit)} (h : Mi.Is P w b E) : Mi.Is P w.drew b E := Mi.below h (zbd (Below.refl _ _))
theorem blk_keep24 {α : Type} {d : Kd α} {base : Nat} {ok : Nat → Prop} {W w1 : World} {v : Value} {xs : List α} {g : Nat} {cs : Array Value} (h : W.heap[g]? = some (.cells cs 24 (0, 0))) (hg : W.grownBy w1 v.ownBlock) (hr : d.R 5 W base ok v xs) : w1.heap[g]? = some (.cells cs 24 (0, 0)) :=
 (hg.block g (blk_lt h) (Kd.R_ne hr h (by decide))).trans h
theorem map_own {P : Program} {α : Type} {d : Kd α} {e base : Nat} {ok : Nat → Prop} {W w1 : World} {v : Value} {xs : List α} {b : Nat} {E : List (Lit × DataW Unit)} (hm : Mi.Is P W b E) (h : d.R e W base ok v xs) (hg : W.grownBy w1 v.ownBlock) : Mi.Is P w1 b E := Mi.kept hm hg (Tb.ne_own hm h)
set_option maxHeartbeats 8000000 in
set_option maxRecDepth 100000 in
theorem Tb.rows_walk (a1 : Int) (n : Nat) (h1 : 1 ≤ a1) (h8 : a1 ≤ 8) (hn : (9 - (a1 + 1)).toNat = n) (ih : RowsCalls (wrap64 (a1 + 1))) (A0 : Option Addr) (c0 : Nat) (l0 : List S24) (r1 : List Int) (r2 : Bool) (w : World) (hr0 : Kd.C k24 w A0 l0.length l0) (hc0 : l0.length ≤ c0) (ht : Tb.tame (n + 1) l0 = true) (h : Tb.rowsP (n + 1) l0 = (r1, r2)) :
  Calls Try.prog 32 #[.slice A0 l0.length c0, .int .i64 a1] w fun e w' => ∃ v0_ : Value, e = .returned (.tuple #[v0_, .bool r2]) ∧ Kd.R (Kd.int .u8) 5 w' w.heap.size (fun _ => True) v0_ r1 ∧ Below w.heap.size w w' := by
 have hu24 := Try.underlying24
 have HR := Zs.mk hr0
 have HCap := Zs.mk hc0
 have HT := Zs.mk ht
 have HMax := Zs.mk (Kd.C_max hr0)
 clear hr0 hc0 ht
 have HB := Zs.mk (Below.refl w.heap.size w)
 have d1 : decide (8 < a1) = false := decide_eq_false (by omega)
 by_cases c2 : l0.length ≤ 2000
 ·
  have d2 : decide (2000 < (l0.length : Int)) = false := decide_eq_false (by omega)
  have H := Zs.mk (show Tb.rowsL (Tb.valP (Tb.rowsP n)) l0 [] [] = (r1, r2) from by rw [← h]; unfold Tb.rowsP; rw [if_pos c2])
  have HC2 := Zs.mk c2
  clear h c2
  go_enter Try.func32, Try.ntmps32
  go_upto_region 5 with (first | ((with_reducible refine gate_dst (N := 19) rfl ?_); refine map_event ?hg (N := 19) ?hd ?hr ?_; (case hd => rfl); (case hg => rfl); (case hr => first | (go_simp; done) | (go_simp; rfl)); intro mb he w1 hm hb; have HM := Zs.mk hm; have HMB := Zs.mk (show w.heap.size ≤ mb from by rw [he]; exact zbz (by repeat (first | (with_reducible first | exact HB.out | apply zba | apply zbn | apply zbd) | exact HB.out))); have n1_ := Zs.mk (zbt (by repeat (first | (with_reducible first | exact HB.out | apply zba | apply zbn | apply zbd) | exact HB.out)) hb); clear HB; have HB := n1_; clear n1_; clear hm he hb))
  go_wp2
  go_loopg [6, 22] (l0.length + 1) (fun kq v6 v22 w' => ∃ (i : Int) (out : List Int) (seen : List (List UInt8)) (E : List (Lit × DataW Unit)), v22 = .int .i64 i ∧ Zs (0 ≤ i) ∧ Zs (i ≤ (l0.length : Int)) ∧ Zs (kq + i.toNat = l0.length + 1) ∧ Zs (Tb.rowsL (Tb.valP (Tb.rowsP n)) (l0.drop i.toNat) out seen = (r1, r2)) ∧ Zs (out.length ≤ 2000) ∧ Zs (Kd.R (Kd.int .u8) 5 w' w.heap.size (fun _ => True) v6 out) ∧ Zs (Mi.Is Try.prog w' mb E) ∧ Zs (Tb.Cnt E seen) ∧ Zs (E.length ≤ i.toNat) ∧ Zs (Below w.heap.size w w'))
  case atStart => exact ⟨0, [], [], [], rfl, ⟨by omega⟩, ⟨by omega⟩, ⟨rfl⟩, H, ⟨Nat.zero_le _⟩, ⟨Kd.R_nil _ _ _ _ _⟩, ⟨(by (with_reducible repeat (first | apply Mi.is_alloc | apply Mi.is_drewN | apply Mi.is_drew)); exact HM.out)⟩, ⟨Tb.cnt_nil⟩, ⟨Nat.zero_le _⟩, ⟨(by repeat (first | (with_reducible first | exact HB.out | apply zba | apply zbn | apply zbd) | exact HB.out))⟩⟩
  case round =>
   clear H HM HB
   obtain ⟨i, out, seen, E, rfl, HP, HJ, HI, H, HLN, HO, HM, HCnt, HEl, HB⟩ := hrel
   have hp := HP.out
   have hj := HJ.out
   by_cases c1 : i < (l0.length : Int)
   ·
    have c1b : decide (i < (l0.length : Int)) = true := decide_eq_true c1
    obtain ⟨k1, rfl⟩ : ∃ k1, gk = k1 + 1 := ⟨gk - 1, by have := HI.out; omega⟩
    obtain ⟨ad, A4, c4, e, hx0, hx1, hx2, hx3, hx4, hl4, hC4⟩ := at_T24 HR.out i hp c1
    cases e
    replace hx0 := (HB.out.cell (zq4 w _ hx0)).trans hx0
    replace hx1 := (HB.out.cell (zq4 w _ hx1)).trans hx1
    replace hx2 := (HB.out.cell (zq4 w _ hx2)).trans hx2
    replace hx3 := (HB.out.cell (zq4 w _ hx3)).trans hx3
    replace hx4 := (HB.out.cell (zq4 w _ hx4)).trans hx4
    have hdrop := Tb.drop24_ l0 i hp c1
    have hmem := Tb.mem24 l0 i hp c1
    obtain ⟨x, hx⟩ : ∃ x_, rd_T24 l0 i = x_ := ⟨_, rfl⟩
    rw [hx] at hx0 hx1 hx2 hx3 hx4 hl4 hC4 hdrop hmem
    clear hx
    have HC4 := Zs.mk hC4
    have HL4 := Zs.mk hl4
    obtain ⟨⟨q4, ht3⟩, ht4⟩ := Tb.tame_mem HT.out hmem
    obtain ⟨V1, V2, hV⟩ : ∃ V1 V2, Tb.valP (Tb.rowsP n) x = (V1, V2) := ⟨_, _, rfl⟩
    have HV := Zs.mk ((Tb.value_f x a1 n h1 h8 hn ht3 ht4).trans (by rw [hV]))
    have HVL := Zs.mk (show V1.length ≤ 1000002008 from by have h := Tb.valP_len n x; rw [hV] at h; exact Nat.le_trans h (by omega))
    have HX := Zs.mk (show Tb.rowsL (Tb.valP (Tb.rowsP n)) (x :: l0.drop (i.toNat + 1)) out seen = (r1, r2) from by have h := H.out; rw [hdrop] at h; exact h)
    have HVV := Zs.mk hV
    clear hC4 hl4 hmem hdrop ht3 ht4 hV H
    have p0 : (0 ≤ i) = True := eq_true hp
    have q0 : (i < (l0.length : Int)) = True := eq_true c1
    have HD := Zs.mk (Below.refl wr.heap.size wr)
    go_upto_region 8 with (first | ((with_reducible refine gate_dst (N := 9) rfl ?_); refine box_event ?hg (N := 9) ?hd (cs := #[.string (⟨#[]⟩ : ByteArray), .int .u8 0, .int .i64 0, .string (⟨#[]⟩ : ByteArray), .slice none 0 0]) (t := 24) ?hr ?_; (case hd => rfl); (case hg => rfl); (case hr => first | (go_simp; done) | (go_simp; rfl)); intro gb he w1 hbox hb; have GE := Zs.mk (show wr.heap.size ≤ gb from by rw [he]; exact zbz (by repeat (first | (with_reducible first | exact HD.out | apply zba | apply zbn | apply zbd) | exact HD.out))); have BK := Zs.mk hbox; have n0_ := Zs.mk (zbt (by repeat (first | (with_reducible first | exact HD.out | apply zba | apply zbn | apply zbd) | exact HD.out)) hb); clear HD; have HD := n0_; clear n0_; clear hbox hb he; have hcz0 : w1.cell? ⟨gb, 0, none⟩ = some (.string (⟨#[]⟩ : ByteArray)) := (zbc BK.out 0).trans rfl; have hcz1 : w1.cell? ⟨gb, 1, none⟩ = some (.int .u8 0) := (zbc BK.out 1).trans rfl; have hcz2 : w1.cell? ⟨gb, 2, none⟩ = some (.int .i64 0) := (zbc BK.out 2).trans rfl; have hcz3 : w1.cell? ⟨gb, 3, none⟩ = some (.string (⟨#[]⟩ : ByteArray)) := (zbc BK.out 3).trans rfl; have hcz4 : w1.cell? ⟨gb, 4, none⟩ = some (.slice none 0 0) := (zbc BK.out 4).trans rfl; have hfz0 := zbf BK.out 0; have hfz1 := zbf BK.out 1; have hfz2 := zbf BK.out 2; have hfz3 := zbf BK.out 3; have hfz4 := zbf BK.out 4) | ((with_reducible refine gate_store (t := 24) (p := 9) rfl ?_); refine store_event (t := 24) (p := 9) (v := ?vo_w2) (w1 := (((((w1.setCell ⟨gb, 0, none⟩ (.string x.f0)).setCell ⟨gb, 1, none⟩ (.int .u8 x.f1)).setCell ⟨gb, 2, none⟩ (.int .i64 x.f2)).setCell ⟨gb, 3, none⟩ (.string x.f3)).setCell ⟨gb, 4, none⟩ (.slice A4 x.f4.length c4))) ?hg ?ho ?hn ?hr ?_; (case ho => rfl); (case hg => rfl); (case hn => rfl); (case hr => first | (go_simp; done) | (go_simp; rfl)); intro w2 hw; have BK2 : Zs (w2.heap[gb]? = some (.cells #[.string x.f0, .int .u8 x.f1, .int .i64 x.f2, .string x.f3, .slice A4 x.f4.length c4] 24 (0, 0))) := ⟨by rw [hw]; refine blk_put (cs := #[.string x.f0, .int .u8 x.f1, .int .i64 x.f2, .string x.f3, .slice none 0 0]) ?_ 4 _ rfl; refine blk_put (cs := #[.string x.f0, .int .u8 x.f1, .int .i64 x.f2, .string (⟨#[]⟩ : ByteArray), .slice none 0 0]) ?_ 3 _ rfl; refine blk_put (cs := #[.string x.f0, .int .u8 x.f1, .int .i64 0, .string (⟨#[]⟩ : ByteArray), .slice none 0 0]) ?_ 2 _ rfl; refine blk_put (cs := #[.string x.f0, .int .u8 0, .int .i64 0, .string (⟨#[]⟩ : ByteArray), .slice none 0 0]) ?_ 1 _ rfl; refine blk_put (cs := #[.string (⟨#[]⟩ : ByteArray), .int .u8 0, .int .i64 0, .string (⟨#[]⟩ : ByteArray), .slice none 0 0]) ?_ 0 _ rfl; exact BK.out⟩; have HD2 := Zs.mk (show Below wr.heap.size wr w2 from by rw [hw]; repeat (first | (with_reducible exact HD.out) | (with_reducible refine zbs ?_ GE.out))); clear hw HD; have HD := HD2; clear HD2; clear hcz0 hfz0 hcz1 hfz1 hcz2 hfz2 hcz3 hfz3 hcz4 hfz4))
    have n0_ := Zs.mk (Kd.R_below HO.out HD.out)
    have n1_ := Zs.mk (Mi.below HM.out HD.out)
    have n2_ := Zs.mk (zbt HB.out HD.out)
    clear HO HM HB BK HD GE hx0 hx1 hx2 hx3 hx4
    have HO := n0_
    have HM := n1_
    have HB := n2_
    clear n0_ n1_ n2_
    have NE := Zs.mk (Tb.ne_blk HM.out BK2.out)
    have hcy0 : w2.cell? ⟨gb, 0, none⟩ = some (.string x.f0) := (zbc BK2.out 0).trans rfl; have hcy1 : w2.cell? ⟨gb, 1, none⟩ = some (.int .u8 x.f1) := (zbc BK2.out 1).trans rfl; have hcy2 : w2.cell? ⟨gb, 2, none⟩ = some (.int .i64 x.f2) := (zbc BK2.out 2).trans rfl; have hcy3 : w2.cell? ⟨gb, 3, none⟩ = some (.string x.f3) := (zbc BK2.out 3).trans rfl; have hcy4 : w2.cell? ⟨gb, 4, none⟩ = some (.slice A4 x.f4.length c4) := (zbc BK2.out 4).trans rfl
    have hz3 : (zeroValue 3).run Try.prog w2 = .ok (.int .i64 0) w2 := by kernel_rfl
    have HSZ := Zs.mk (show x.f0.size ≤ maxLen ∧ x.f0.size ≤ 1000000000 from ⟨by simp only [maxLen]; omega, q4⟩)
    obtain ⟨v0, hlk, hat0⟩ := Mi.look (P := Try.prog) Try.underlying81 Try.underlying9 Try.underlying3 hz3 HM.out x.f0 HSZ.out.1
    have HV0 := Zs.mk (HCnt.out _ _ hat0)
    obtain ⟨w3, hrun, HM3, HG3⟩ := Mi.update (P := Try.prog) Try.underlying81 Try.underlying9 Try.underlying3 HM.out (by have := HEl.out; have := HC2.out; simp only [maxLen]; omega) x.f0 (wrap64 (v0 + 1)) HSZ.out.1 (Tb.wf64 _)
    have HM3A := Zs.mk HM3
    have HG3A := Zs.mk HG3
    clear HM3 HG3 hat0 hz3 q4
    go_upto_region 9 with (fail)
    have n0_ := Zs.mk (Kd.R_grown2 HO.out rfl HG3A.out (fun k hk => by injection hk with hk; rw [← hk]; exact Tb.ne_own HM.out HO.out))
    have n1_ := Zs.mk (Tb.below_grown HB.out HG3A.out HMB.out)
    have BK := Zs.mk (Tb.blk_grown BK2.out HG3A.out NE.out)
    clear hcy0 hcy1 hcy2 hcy3 hcy4 HO HB BK2 HM hlk hrun HG3A NE
    have HO := n0_
    have HB := n1_
    have HM := HM3A
    clear n0_ n1_ HM3A
    have hcx0 : w3.cell? ⟨gb, 0, none⟩ = some (.string x.f0) := (zbc BK.out 0).trans rfl; have hcx1 : w3.cell? ⟨gb, 1, none⟩ = some (.int .u8 x.f1) := (zbc BK.out 1).trans rfl; have hcx2 : w3.cell? ⟨gb, 2, none⟩ = some (.int .i64 x.f2) := (zbc BK.out 2).trans rfl; have hcx3 : w3.cell? ⟨gb, 3, none⟩ = some (.string x.f3) := (zbc BK.out 3).trans rfl; have hcx4 : w3.cell? ⟨gb, 4, none⟩ = some (.slice A4 x.f4.length c4) := (zbc BK.out 4).trans rfl
    go_upto_region 10 with (first | (go_at_call 54; (refine (tabl_value.calls 20 x.f0 x.f1 x.f2 x.f3 A4 c4 x.f4 a1 ih V1 V2 _ ?s1 ?s2 HV.out).mono ?_); (case s1 => exact Kd.C_below HC4.out (by repeat (first | (with_reducible first | exact HB.out | apply zba | apply zbn | apply zbd) | exact HB.out))); (case s2 => exact HL4.out); rintro e w4 ⟨v4, rfl, ho, hb⟩; have HO4 := Zs.mk (Kd.R_new' ho (Kd.R_lt (by (with_reducible repeat (first | apply Kd.R_alloc | apply Kd.R_drewN | apply Kd.R_drew)); exact HO.out))); have n0_ := Zs.mk (Kd.R_below (by (with_reducible repeat (first | apply Kd.R_alloc | apply Kd.R_drewN | apply Kd.R_drew)); exact HO.out) hb); clear HO; have HO := n0_; have n1_ := Zs.mk (Mi.below HM.out hb); clear HM; have HM := n1_; have n2_ := Zs.mk (blk_below BK.out hb); clear BK; have BK := n2_; have n3_ := Zs.mk (zbt (by repeat (first | (with_reducible first | exact HB.out | apply zba | apply zbn | apply zbd) | exact HB.out)) hb); clear HB; have HB := n3_; clear n0_ n1_ n2_ n3_; clear ho hb; obtain ⟨A9, c9, e9⟩ := Kd.R_slice HO4.out; subst e9))
    clear hcx0 hcx1 hcx2 hcx3 hcx4
    have hcw0 : w4.cell? ⟨gb, 0, none⟩ = some (.string x.f0) := (zbc BK.out 0).trans rfl; have hcw1 : w4.cell? ⟨gb, 1, none⟩ = some (.int .u8 x.f1) := (zbc BK.out 1).trans rfl; have hcw2 : w4.cell? ⟨gb, 2, none⟩ = some (.int .i64 x.f2) := (zbc BK.out 2).trans rfl; have hcw3 : w4.cell? ⟨gb, 3, none⟩ = some (.string x.f3) := (zbc BK.out 3).trans rfl; have hcw4 : w4.cell? ⟨gb, 4, none⟩ = some (.slice A4 x.f4.length c4) := (zbc BK.out 4).trans rfl
    have hz3 : (zeroValue 3).run Try.prog w4 = .ok (.int .i64 0) w4 := by kernel_rfl
    obtain ⟨v5, hlk5, hat5⟩ := Mi.look (P := Try.prog) Try.underlying81 Try.underlying9 Try.underlying3 hz3 HM.out x.f0 HSZ.out.1
    have HV5 := Zs.mk (Tb.put_same E x.f0 _ v5 hat5)
    clear hat5 hz3
    by_cases s1 : V2 = true
    ·
     subst s1
     by_cases s2 : x.f0.data.toList ∈ seen
     ·
      have g2 : decide (1 < v5) = true := by have h1 := HV5.out; have h2 := HV0.out; rw [if_pos s2] at h2; exact decide_eq_true (by rw [h1, h2]; unfold wrap64; omega)
      obtain ⟨rfl, rfl⟩ := Tb.rowsL_bad HX.out (fun h => h.2.1 s2)
      clear s2
      go_wp2
      all_goals first | (go_ret2; exact ⟨_, by first | rfl | (simp; done) | (simp; rfl), by first | exact Kd.R_nil _ _ _ _ _, (by repeat (first | (with_reducible first | exact HB.out | apply zba | apply zbn | apply zbd) | exact HB.out))⟩) | (exfalso; simp_all; done)
     have g2 : decide (1 < v5) = false := by have h1 := HV5.out; have h2 := HV0.out; rw [if_neg s2] at h2; exact decide_eq_false (by rw [h1, h2]; unfold wrap64; omega)
     by_cases s3 : x.f0.toList = ([] : List UInt8)
     ·
      obtain ⟨rfl, rfl⟩ := Tb.rowsL_bad HX.out (fun h => by have h1 := h.2.2.1; have h2 := (Tb.nil_iff x.f0).1 s3; omega)
      have g3 : x.f0.toList.isEmpty = true := by rw [s3]; rfl
      have g4 : (x.f0.toList == ([] : List UInt8)) = true := beq_iff_eq.mpr s3
      clear s2 s3
      go_wp2
      all_goals first | (go_ret2; exact ⟨_, by first | rfl | (simp; done) | (simp; rfl), by first | exact Kd.R_nil _ _ _ _ _, (by repeat (first | (with_reducible first | exact HB.out | apply zba | apply zbn | apply zbd) | exact HB.out))⟩) | (exfalso; simp_all; done)
     have g3 : x.f0.toList.isEmpty = false := by simpa using s3
     have g4 : (x.f0.toList == ([] : List UInt8)) = false := beq_eq_false_iff_ne.mpr s3
     by_cases s4 : x.f0.size ≤ 128
     ·
      have g5 : decide (128 < (x.f0.size : Int)) = false := decide_eq_false (by omega)
      have HG := Zs.mk (show (Tb.valP (Tb.rowsP n) x).2 = true ∧ x.f0.data.toList ∉ seen ∧ 1 ≤ x.f0.size ∧ x.f0.size ≤ 128 from ⟨by rw [HVV.out], s2, by have h2 := mt (Tb.nil_iff x.f0).2 s3; omega, s4⟩)
      have HV1 := Zs.mk (show wrap64 (v0 + 1) = 1 from by have h2 := HV0.out; rw [if_neg s2] at h2; rw [h2]; unfold wrap64; omega)
      have HS2 := Zs.mk s2
      clear s2 s3
      obtain ⟨y1, hy1⟩ : ∃ y_ : List Int, y_ = out ++ [(x.f0.size : Int)] := ⟨_, rfl⟩
      obtain ⟨y2, hy2⟩ : ∃ y_ : List Int, y_ = y1 ++ bytesOf x.f0 := ⟨_, rfl⟩
      obtain ⟨y3, hy3⟩ : ∃ y_ : List Int, y_ = y2 ++ [x.f1] := ⟨_, rfl⟩
      obtain ⟨y4, hy4⟩ : ∃ y_ : List Int, y_ = y3 ++ V1 := ⟨_, rfl⟩
      have l1 : y1.length = out.length + 1 := by rw [hy1]; simp
      have l2 : y2.length = y1.length + x.f0.size := by rw [hy2, List.length_append, Tb.bytesOf_len]
      have l3 : y3.length = y2.length + 1 := by rw [hy3]; simp
      have HY1 := Zs.mk (show out.length ≤ 100000 from by have := HLN.out; omega)
      have HY2 := Zs.mk (show y1.length ≤ 100000 ∧ x.f0.size ≤ 128 from by have := HLN.out; omega)
      have HY3 := Zs.mk (show y2.length ≤ 100000 from by have := HLN.out; omega)
      have HY4 := Zs.mk (show y3.length ≤ 100000 ∧ V1.length ≤ 1000002008 from by have := HLN.out; have := HVL.out; omega)
      have HYY := Zs.mk (show y4 = out ++ Tb.rowP x (Tb.valP (Tb.rowsP n) x).1 from by have h1 : (x.f0.size : Int) % 256 = (x.f0.size : Int) := (by omega); rw [hy4, hy3, hy2, hy1, HVV.out]; simp [Tb.rowP, List.append_assoc, h1])
      have Ny1 := Zs.mk hy1
      have Ny2 := Zs.mk hy2
      have Ny3 := Zs.mk hy3
      have Ny4 := Zs.mk hy4
      clear l1 l2 l3 hy1 hy2 hy3 hy4
      go_upto_if 78 with (first | ((with_reducible refine gate_builtin (b := .append) (xs := #[.tmp 57, .tmp 62]) rfl ?_); at_builtin; refine Kd.R_append (Kd.int .u8) (w0 := w) w.heap.size rfl (.tmp 57) (.tmp 62) 25 5 (.int .u8 0) 1 rfl Try.underlying25 info5 rfl (by decide) (by omega) u6 out ((x.f0.size : Int)) [.int .u8 ((x.f0.size : Int))] (fun _ => True) (fun _ => False) rfl rfl ?aP (fun _ hk => hk.elim) ?aF ?aO ?aB ?aS ?aL ?_; (case aP => exact rfl); (case aB => exact (by repeat (first | (with_reducible first | exact HB.out | apply zba | apply zbn | apply zbd) | exact HB.out))); (case aF => exact (fun _ _ => trivial)); (case aO => exact (by (with_reducible repeat (first | apply Kd.R_alloc | apply Kd.R_drewN | apply Kd.R_drew)); exact HO.out)); (case aS => exact (zbz (by repeat (first | (with_reducible first | exact HB.out | apply zba | apply zbn | apply zbd) | exact HB.out)))); (case aL => have := HY1.out; omega); intro vo1 wo1 ho hb hg hat; rw [← Ny1.out] at ho; have n0_ := Zs.mk (Kd.R_after (ok := (fun _ => True)) (by (with_reducible repeat (first | apply Kd.R_alloc | apply Kd.R_drewN | apply Kd.R_drew)); exact HO4.out) hg hat); have n1_ := Zs.mk (map_own (by (with_reducible repeat (first | apply Mi.is_alloc | apply Mi.is_drewN | apply Mi.is_drew)); exact HM.out) (by (with_reducible repeat (first | apply Kd.R_alloc | apply Kd.R_drewN | apply Kd.R_drew)); exact HO.out) hg); have n2_ := Zs.mk (blk_keep24 (g := gb) (cs := #[.string x.f0, .int .u8 x.f1, .int .i64 x.f2, .string x.f3, .slice A4 x.f4.length c4]) (by (with_reducible repeat (first | refine blk_drewN ?_ _ | refine blk_drew ?_ | refine blk_alloc ?_ _)); exact BK.out) hg (by (with_reducible repeat (first | apply Kd.R_alloc | apply Kd.R_drewN | apply Kd.R_drew)); exact HO.out)); have n3_ := Zs.mk hb; have n4_ := Zs.mk ho; clear HO4 HM BK HB HO; have HO4 := n0_; have HM := n1_; have BK := n2_; have HB := n3_; have HO := n4_; clear n0_ n1_ n2_ n3_ n4_; clear ho hb hg hat; have hcp1_0 : wo1.cell? ⟨gb, 0, none⟩ = some (.string x.f0) := (zbc BK.out 0).trans rfl; have hcp1_1 : wo1.cell? ⟨gb, 1, none⟩ = some (.int .u8 x.f1) := (zbc BK.out 1).trans rfl; have hcp1_2 : wo1.cell? ⟨gb, 2, none⟩ = some (.int .i64 x.f2) := (zbc BK.out 2).trans rfl; have hcp1_3 : wo1.cell? ⟨gb, 3, none⟩ = some (.string x.f3) := (zbc BK.out 3).trans rfl; have hcp1_4 : wo1.cell? ⟨gb, 4, none⟩ = some (.slice A4 x.f4.length c4) := (zbc BK.out 4).trans rfl) | ((with_reducible refine gate_builtin (b := .append) (xs := #[.tmp 64, .tmp 66]) rfl ?_); at_builtin; refine Kd.R_append_str (w0 := w) w.heap.size rfl (.tmp 64) (.tmp 66) 25 9 5 rfl Try.underlying25 Try.underlying9 info5 vo1 y1 x.f0 (fun _ => True) rfl rfl ?aO ?aF ?aB ?aS ?aL ?_; (case aB => exact (by repeat (first | (with_reducible first | exact HB.out | apply zba | apply zbn | apply zbd) | exact HB.out))); (case aF => exact (fun _ _ => trivial)); (case aO => exact (by (with_reducible repeat (first | apply Kd.R_alloc | apply Kd.R_drewN | apply Kd.R_drew)); exact HO.out)); (case aS => exact (zbz (by repeat (first | (with_reducible first | exact HB.out | apply zba | apply zbn | apply zbd) | exact HB.out)))); (case aL => have := HY2.out; omega); intro vo2 wo2 ho hb hg hat; rw [← Ny2.out] at ho; have n0_ := Zs.mk (Kd.R_after (ok := (fun _ => True)) (by (with_reducible repeat (first | apply Kd.R_alloc | apply Kd.R_drewN | apply Kd.R_drew)); exact HO4.out) hg hat); have n1_ := Zs.mk (map_own (by (with_reducible repeat (first | apply Mi.is_alloc | apply Mi.is_drewN | apply Mi.is_drew)); exact HM.out) (by (with_reducible repeat (first | apply Kd.R_alloc | apply Kd.R_drewN | apply Kd.R_drew)); exact HO.out) hg); have n2_ := Zs.mk (blk_keep24 (g := gb) (cs := #[.string x.f0, .int .u8 x.f1, .int .i64 x.f2, .string x.f3, .slice A4 x.f4.length c4]) (by (with_reducible repeat (first | refine blk_drewN ?_ _ | refine blk_drew ?_ | refine blk_alloc ?_ _)); exact BK.out) hg (by (with_reducible repeat (first | apply Kd.R_alloc | apply Kd.R_drewN | apply Kd.R_drew)); exact HO.out)); have n3_ := Zs.mk hb; have n4_ := Zs.mk ho; clear HO4 HM BK HB HO; have HO4 := n0_; have HM := n1_; have BK := n2_; have HB := n3_; have HO := n4_; clear n0_ n1_ n2_ n3_ n4_; clear ho hb hg hat; have hcp2_0 : wo2.cell? ⟨gb, 0, none⟩ = some (.string x.f0) := (zbc BK.out 0).trans rfl; have hcp2_1 : wo2.cell? ⟨gb, 1, none⟩ = some (.int .u8 x.f1) := (zbc BK.out 1).trans rfl; have hcp2_2 : wo2.cell? ⟨gb, 2, none⟩ = some (.int .i64 x.f2) := (zbc BK.out 2).trans rfl; have hcp2_3 : wo2.cell? ⟨gb, 3, none⟩ = some (.string x.f3) := (zbc BK.out 3).trans rfl; have hcp2_4 : wo2.cell? ⟨gb, 4, none⟩ = some (.slice A4 x.f4.length c4) := (zbc BK.out 4).trans rfl) | ((with_reducible refine gate_builtin (b := .append) (xs := #[.tmp 68, .tmp 71]) rfl ?_); at_builtin; refine Kd.R_append (Kd.int .u8) (w0 := w) w.heap.size rfl (.tmp 68) (.tmp 71) 25 5 (.int .u8 0) 1 rfl Try.underlying25 info5 rfl (by decide) (by omega) vo2 y2 (x.f1) [.int .u8 (x.f1)] (fun _ => True) (fun _ => False) rfl rfl ?aP (fun _ hk => hk.elim) ?aF ?aO ?aB ?aS ?aL ?_; (case aP => exact rfl); (case aB => exact (by repeat (first | (with_reducible first | exact HB.out | apply zba | apply zbn | apply zbd) | exact HB.out))); (case aF => exact (fun _ _ => trivial)); (case aO => exact (by (with_reducible repeat (first | apply Kd.R_alloc | apply Kd.R_drewN | apply Kd.R_drew)); exact HO.out)); (case aS => exact (zbz (by repeat (first | (with_reducible first | exact HB.out | apply zba | apply zbn | apply zbd) | exact HB.out)))); (case aL => have := HY3.out; omega); intro vo3 wo3 ho hb hg hat; rw [← Ny3.out] at ho; have n0_ := Zs.mk (Kd.R_after (ok := (fun _ => True)) (by (with_reducible repeat (first | apply Kd.R_alloc | apply Kd.R_drewN | apply Kd.R_drew)); exact HO4.out) hg hat); have n1_ := Zs.mk (map_own (by (with_reducible repeat (first | apply Mi.is_alloc | apply Mi.is_drewN | apply Mi.is_drew)); exact HM.out) (by (with_reducible repeat (first | apply Kd.R_alloc | apply Kd.R_drewN | apply Kd.R_drew)); exact HO.out) hg); have n2_ := Zs.mk (blk_keep24 (g := gb) (cs := #[.string x.f0, .int .u8 x.f1, .int .i64 x.f2, .string x.f3, .slice A4 x.f4.length c4]) (by (with_reducible repeat (first | refine blk_drewN ?_ _ | refine blk_drew ?_ | refine blk_alloc ?_ _)); exact BK.out) hg (by (with_reducible repeat (first | apply Kd.R_alloc | apply Kd.R_drewN | apply Kd.R_drew)); exact HO.out)); have n3_ := Zs.mk hb; have n4_ := Zs.mk ho; clear HO4 HM BK HB HO; have HO4 := n0_; have HM := n1_; have BK := n2_; have HB := n3_; have HO := n4_; clear n0_ n1_ n2_ n3_ n4_; clear ho hb hg hat; have hcp3_0 : wo3.cell? ⟨gb, 0, none⟩ = some (.string x.f0) := (zbc BK.out 0).trans rfl; have hcp3_1 : wo3.cell? ⟨gb, 1, none⟩ = some (.int .u8 x.f1) := (zbc BK.out 1).trans rfl; have hcp3_2 : wo3.cell? ⟨gb, 2, none⟩ = some (.int .i64 x.f2) := (zbc BK.out 2).trans rfl; have hcp3_3 : wo3.cell? ⟨gb, 3, none⟩ = some (.string x.f3) := (zbc BK.out 3).trans rfl; have hcp3_4 : wo3.cell? ⟨gb, 4, none⟩ = some (.slice A4 x.f4.length c4) := (zbc BK.out 4).trans rfl) | ((with_reducible refine gate_builtin (b := .append) (xs := #[.tmp 73, .tmp 74]) rfl ?_); at_builtin; refine Kd.R_append_rows (Kd.int .u8) (w0 := w) w.heap.size rfl (.tmp 73) (.tmp 74) 25 5 (.int .u8 0) 1 rfl Try.underlying25 info5 rfl (by decide) (by omega) vo3 y3 V1 _ _ _ (fun _ => True) (fun _ => False) rfl rfl ?aO ?aR (fun _ _ h => h) (fun _ h => h.elim) ?aF ?aB ?aS ?aL ?_; (case aR => repeat (first | exact (Kd.R_reads' HO4.out).2.2 | (with_reducible refine Kd.C_alloc ?_ _) | (with_reducible refine Kd.C_drewN ?_ _) | (with_reducible refine Kd.C_drew ?_))); (case aB => exact (by repeat (first | (with_reducible first | exact HB.out | apply zba | apply zbn | apply zbd) | exact HB.out))); (case aF => exact (fun _ _ => trivial)); (case aO => exact (by (with_reducible repeat (first | apply Kd.R_alloc | apply Kd.R_drewN | apply Kd.R_drew)); exact HO.out)); (case aS => exact (zbz (by repeat (first | (with_reducible first | exact HB.out | apply zba | apply zbn | apply zbd) | exact HB.out)))); (case aL => have := HY4.out; omega); intro vo4 wo4 ho hb hg hat; rw [← Ny4.out] at ho; have n0_ := Zs.mk (Kd.R_after (ok := (fun _ => True)) (by (with_reducible repeat (first | apply Kd.R_alloc | apply Kd.R_drewN | apply Kd.R_drew)); exact HO4.out) hg hat); have n1_ := Zs.mk (map_own (by (with_reducible repeat (first | apply Mi.is_alloc | apply Mi.is_drewN | apply Mi.is_drew)); exact HM.out) (by (with_reducible repeat (first | apply Kd.R_alloc | apply Kd.R_drewN | apply Kd.R_drew)); exact HO.out) hg); have n2_ := Zs.mk (blk_keep24 (g := gb) (cs := #[.string x.f0, .int .u8 x.f1, .int .i64 x.f2, .string x.f3, .slice A4 x.f4.length c4]) (by (with_reducible repeat (first | refine blk_drewN ?_ _ | refine blk_drew ?_ | refine blk_alloc ?_ _)); exact BK.out) hg (by (with_reducible repeat (first | apply Kd.R_alloc | apply Kd.R_drewN | apply Kd.R_drew)); exact HO.out)); have n3_ := Zs.mk hb; have n4_ := Zs.mk ho; clear HO4 HM BK HB HO; have HO4 := n0_; have HM := n1_; have BK := n2_; have HB := n3_; have HO := n4_; clear n0_ n1_ n2_ n3_ n4_; clear ho hb hg hat; have hcp4_0 : wo4.cell? ⟨gb, 0, none⟩ = some (.string x.f0) := (zbc BK.out 0).trans rfl; have hcp4_1 : wo4.cell? ⟨gb, 1, none⟩ = some (.int .u8 x.f1) := (zbc BK.out 1).trans rfl; have hcp4_2 : wo4.cell? ⟨gb, 2, none⟩ = some (.int .i64 x.f2) := (zbc BK.out 2).trans rfl; have hcp4_3 : wo4.cell? ⟨gb, 3, none⟩ = some (.string x.f3) := (zbc BK.out 3).trans rfl; have hcp4_4 : wo4.cell? ⟨gb, 4, none⟩ = some (.slice A4 x.f4.length c4) := (zbc BK.out 4).trans rfl; obtain ⟨A7, c7, e7⟩ := Kd.R_slice HO.out; subst e7))
      by_cases c5 : y4.length ≤ 2000
      ·
       have g6 : decide (2000 < (y4.length : Int)) = false := decide_eq_false (by omega)
       have g7 : decide (2000 < y4.length) = false := decide_eq_false (by omega)
       (first | rw [g6] | rw [g7] | skip)
       have HNX := Zs.mk (Tb.rowsL_step HX.out HG.out (by rw [← HYY.out]; exact c5))
       have HW := Zs.mk (show wrap64 (i + 1) = i + 1 from by have := HMax.out; unfold wrap64; omega)
       have HC5 := Zs.mk c5
       clear c5
       go_wp2
       go_roundg k1
       case measure => omega
       case rel =>
        refine ⟨i + 1, y4, x.f0.data.toList :: seen, ChangeMaps.putKey (Mi.key x.f0) (Mi.val 1) E, by rw [HW.out], ⟨by omega⟩, ⟨by omega⟩, ⟨by have := HI.out; omega⟩, ⟨?_⟩, HC5, ⟨(by (with_reducible repeat (first | apply Kd.R_alloc | apply Kd.R_drewN | apply Kd.R_drew)); exact HO.out)⟩, ⟨?_⟩, ⟨Tb.cnt_put HCnt.out x.f0 HS2.out⟩, ⟨?_⟩, ⟨(by repeat (first | (with_reducible first | exact HB.out | apply zba | apply zbn | apply zbd) | exact HB.out))⟩⟩
        ·
         rw [show (i + 1).toNat = i.toNat + 1 by omega, HYY.out]; exact HNX.out
        ·
         have h := HM.out; rw [HV1.out] at h; (with_reducible repeat (first | apply Mi.is_alloc | apply Mi.is_drewN | apply Mi.is_drew)); exact h
        have h1 := Tb.put_len E (Mi.key x.f0) (Mi.val 1); have h2 := HEl.out; omega
      have g6 : decide (2000 < (y4.length : Int)) = true := decide_eq_true (by omega)
      have g7 : decide (2000 < y4.length) = true := decide_eq_true (by omega)
      (first | rw [g6] | rw [g7] | skip)
      obtain ⟨rfl, rfl⟩ := Tb.rowsL_long HX.out HG.out (by rw [← HYY.out]; exact c5)
      clear c5
      go_wp2
      all_goals first | (go_ret2; exact ⟨_, by first | rfl | (simp; done) | (simp; rfl), by first | exact Kd.R_nil _ _ _ _ _, (by repeat (first | (with_reducible first | exact HB.out | apply zba | apply zbn | apply zbd) | exact HB.out))⟩) | (exfalso; simp_all; done)
     have g5 : decide (128 < (x.f0.size : Int)) = true := decide_eq_true (by omega)
     obtain ⟨rfl, rfl⟩ := Tb.rowsL_bad HX.out (fun h => s4 h.2.2.2)
     clear s2 s3 s4
     go_wp2
     all_goals first | (go_ret2; exact ⟨_, by first | rfl | (simp; done) | (simp; rfl), by first | exact Kd.R_nil _ _ _ _ _, (by repeat (first | (with_reducible first | exact HB.out | apply zba | apply zbn | apply zbd) | exact HB.out))⟩) | (exfalso; simp_all; done)
    have s1 : V2 = false := by simpa using s1
    subst s1
    obtain ⟨rfl, rfl⟩ := Tb.rowsL_bad HX.out (fun h => by have h1 := h.1; rw [HVV.out] at h1; exact absurd h1 (by simp))
    go_wp2
    all_goals first | (go_ret2; exact ⟨_, by first | rfl | (simp; done) | (simp; rfl), by first | exact Kd.R_nil _ _ _ _ _, (by repeat (first | (with_reducible first | exact HB.out | apply zba | apply zbn | apply zbd) | exact HB.out))⟩) | (exfalso; simp_all; done)
   have c1b : decide (i < (l0.length : Int)) = false := decide_eq_false c1
   have hr : out = r1 ∧ true = r2 := by
    have h := H.out
    rw [List.drop_eq_nil_of_le (by omega)] at h
    simpa [Tb.rowsL] using h
   obtain ⟨rfl, rfl⟩ := hr
   go_wp2
   all_goals first | (go_ret2; exact ⟨_, by first | rfl | (simp; done) | (simp; rfl), (by (with_reducible repeat (first | apply Kd.R_alloc | apply Kd.R_drewN | apply Kd.R_drew)); exact HO.out), (by repeat (first | (with_reducible first | exact HB.out | apply zba | apply zbn | apply zbd) | exact HB.out))⟩) | (exfalso; simp_all; done)
 have d2 : decide (2000 < (l0.length : Int)) = true := decide_eq_true (by omega)
 have hr : r1 = [] ∧ r2 = false := by
  unfold Tb.rowsP at h
  rw [if_neg c2] at h
  simpa [eq_comm] using h
 obtain ⟨rfl, rfl⟩ := hr
 clear h c2
 go_enter Try.func32, Try.ntmps32
 go_wp2
 all_goals first | (go_ret2; exact ⟨_, by first | rfl | (simp; done) | (simp; rfl), by first | exact Kd.R_nil _ _ _ _ _, (by repeat (first | (with_reducible first | exact HB.out | apply zba | apply zbn | apply zbd) | exact HB.out))⟩) | (exfalso; simp_all; done)

set_option maxHeartbeats 8000000 in
set_option maxRecDepth 100000 in
theorem Tb.rows_none (a1 : Int) (h9 : a1 = 9) (A0 : Option Addr) (c0 : Nat) (l0 : List S24) (w : World) :
  Calls Try.prog 32 #[.slice A0 l0.length c0, .int .i64 a1] w fun e w' => ∃ v0_ : Value, e = .returned (.tuple #[v0_, .bool false]) ∧ Kd.R (Kd.int .u8) 5 w' w.heap.size (fun _ => True) v0_ [] ∧ Below w.heap.size w w' := by
 have d1 : decide (8 < a1) = true := decide_eq_true (by omega)
 have HB := Zs.mk (Below.refl w.heap.size w)
 go_enter Try.func32, Try.ntmps32
 go_wp2
 all_goals first | (go_ret2; exact ⟨_, by first | rfl | (simp; done) | (simp; rfl), by first | exact Kd.R_nil _ _ _ _ _, (by repeat (first | (with_reducible first | exact HB.out | apply zba | apply zbn | apply zbd) | exact HB.out))⟩) | (exfalso; simp_all; done)
theorem Tb.rows_all : ∀ (n : Nat) (a1 : Int), (9 - a1).toNat = n → RowsCalls a1 := by
 intro n
 induction n with
 | zero =>
  intro a1 hn A0 c0 l0 r1 r2 w hr hc h
  unfold tabl_rows.f at h
  rw [hn] at h
  by_cases hg : 1 ≤ a1 ∧ a1 ≤ 9 ∧ Tb.tame 0 l0 = true
  ·
   rw [if_pos hg] at h
   simp only [Tb.rowsP, Option.some.injEq, Prod.mk.injEq] at h
   obtain ⟨rfl, rfl⟩ := h
   exact Tb.rows_none a1 (by omega) A0 c0 l0 w
  ·
   rw [if_neg hg] at h
   cases h
 | succ n ih =>
  intro a1 hn A0 c0 l0 r1 r2 w hr hc h
  unfold tabl_rows.f at h
  rw [hn] at h
  by_cases hg : 1 ≤ a1 ∧ a1 ≤ 9 ∧ Tb.tame (n + 1) l0 = true
  ·
   rw [if_pos hg] at h
   have h1 := Option.some.inj h
   refine Tb.rows_walk a1 n hg.1 (by omega) (by omega) ?_ A0 c0 l0 r1 r2 w hr hc hg.2.2 h1
   rw [w64_id _ (by omega) (by omega)]
   exact ih (a1 + 1) (by omega)
  rw [if_neg hg] at h
  cases h
theorem tabl_rows.calls (A0 : Option Addr) (c0 : Nat) (l0 : List S24) (a1 : Int) (r1 : List Int) (r2 : Bool) (w : World) (hr0 : Kd.C k24 w A0 l0.length l0) (hc0 : l0.length ≤ c0) (h : tabl_rows.f l0 a1 = some (r1, r2)) :
  Calls Try.prog 32 #[.slice A0 l0.length c0, .int .i64 a1] w fun e w' => ∃ v0_ : Value, e = .returned (.tuple #[v0_, .bool r2]) ∧ Kd.R (Kd.int .u8) 5 w' w.heap.size (fun _ => True) v0_ r1 ∧ Below w.heap.size w w' :=
 Tb.rows_all _ a1 rfl A0 c0 l0 r1 r2 w hr0 hc0 h
end Go.Proofs.Ytfhaffpegncdiaa.PT
