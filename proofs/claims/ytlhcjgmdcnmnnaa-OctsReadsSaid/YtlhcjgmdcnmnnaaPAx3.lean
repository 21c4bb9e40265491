/- What functions of the given program come to, and that they do: written out of the translation by a program of this session; Lean checks it. -/
import Derived.Test.YtlhcjgmdcnmnnaaPAx0
import Derived.Test.YtlhcjgmdcnmnnaaPAx1
import Derived.Test.YtlhcjgmdcnmnnaaPAx2
namespace Go.Proofs.Ytlhcjgmdcnmnnaa.PA
open Go.RowKit Go.Proofs.YtlhcjgmdcnmnnaaW.PrintWords Go.Proofs.YtlhcjgmdcnmnnaaW.PrintLast Go.Proofs.YtlhcjgmdcnmnnaaW.PrintMore
attribute [local go_sem] max2_int min2_int max_two min_two max_three min_three max_four min_four   -- for this text's walks alone
set_option linter.unusedVariables false
set_option linter.unusedSimpArgs false

/-! ### waybilllaw1_awake: function 28 -/
def waybilllaw1_awake.f (k : Nat)  : Option (Bool) := (octs_From.f (([1, 2, 1, 97, 9] : List Int))).bind fun bt125 => ((octs_In_Int.f k bt125.1 bt125.2 2).bind fun bt128 => ((octs_In_Short.f k bt128.2.1 bt128.2.2).bind fun bt131 => ((octs_Int.f k ([] : List Int) 2 258).bind fun t134 => (if bt128.1 = 258 then (if bt131.1.toList = ([97] : List UInt8) then ((octs_In_Left.f bt131.2.1 bt131.2.2).bind fun bt137 => (if bt137.1 = 1 then ((octs_In_Ok.f bt137.2.1 bt137.2.2).bind fun bt140 => (if bt140.1 = true then (if (t134.length : Int) = 2 then (if 0 < (t134.length : Int) then (if (rd t134 0) = 1 then (if 1 < (t134.length : Int) then (some ((rd t134 1) == 2)) else (none)) else (none)) else (none)) else (none)) else (none))) else (none))) else (none)) else (none)))))
theorem waybilllaw1_awake.mono : ∀ k, LeO (waybilllaw1_awake.f k ) (waybilllaw1_awake.f (k + 1) ) := by
  intro  k
  unfold waybilllaw1_awake.f
  repeat' first
      | (with_reducible exact octs_In_Int.mono _ _ _ _)
      | (with_reducible exact octs_In_Short.mono _ _ _)
      | (with_reducible exact octs_Int.mono _ _ _ _)
      | (with_reducible exact LeO.refl _)
      | (with_reducible exact LeO.none _)
      | (with_reducible refine LeO.ite ?_ ?_)
      | (with_reducible refine LeO.bind ?_ (fun _ => ?_))
      | exact octs_In_Int.mono _ _ _ _
      | exact octs_In_Short.mono _ _ _
      | exact octs_Int.mono _ _ _ _
      | exact LeO.none _
      | refine LeO.ite ?_ ?_
      | refine LeO.bind ?_ (fun _ => ?_)
set_option maxHeartbeats 8000000 in
set_option maxRecDepth 100000 in
theorem waybilllaw1_awake.calls (k : Nat)  (r : Bool) (w : World) (h : waybilllaw1_awake.f k  = some r) :
    Calls Try.prog 28 #[] w fun e w' => e = .returned (.bool r) ∧ Below w.heap.size w w' := by
  have hpe45 := fun (W : World) (p : Option Addr) => run_eql_pointer_nil (P := Try.prog) (w := W) 45 p (by kernel_rfl)
  have hpn45 := fun (W : World) (p : Option Addr) => run_neq_pointer_nil (P := Try.prog) (w := W) 45 p (by kernel_rfl)
  have HB := Aside0.mk (Below.refl w.heap.size w)
  have H : ((octs_From.f (([1, 2, 1, 97, 9] : List Int))).bind fun bt125 => ((octs_In_Int.f k bt125.1 bt125.2 2).bind fun bt128 => ((octs_In_Short.f k bt128.2.1 bt128.2.2).bind fun bt131 => ((octs_Int.f k ([] : List Int) 2 258).bind fun t134 => (if bt128.1 = 258 then (if bt131.1.toList = ([97] : List UInt8) then ((octs_In_Left.f bt131.2.1 bt131.2.2).bind fun bt137 => (if bt137.1 = 1 then ((octs_In_Ok.f bt137.2.1 bt137.2.2).bind fun bt140 => (if bt140.1 = true then (if (t134.length : Int) = 2 then (if 0 < (t134.length : Int) then (if (rd t134 0) = 1 then (if 1 < (t134.length : Int) then (some ((rd t134 1) == 2)) else (none)) else (none)) else (none)) else (none)) else (none))) else (none))) else (none)) else (none)))))) = some r := h
  clear h
  obtain ⟨y122, hy122⟩ : ∃ y_ : List Int, y_ = (([1, 2, 1, 97, 9] : List Int)) := ⟨_, rfl⟩
  replace H : ((octs_From.f y122).bind fun bt125 => ((octs_In_Int.f k bt125.1 bt125.2 2).bind fun bt128 => ((octs_In_Short.f k bt128.2.1 bt128.2.2).bind fun bt131 => ((octs_Int.f k ([] : List Int) 2 258).bind fun t134 => (if bt128.1 = 258 then (if bt131.1.toList = ([97] : List UInt8) then ((octs_In_Left.f bt131.2.1 bt131.2.2).bind fun bt137 => (if bt137.1 = 1 then ((octs_In_Ok.f bt137.2.1 bt137.2.2).bind fun bt140 => (if bt140.1 = true then (if (t134.length : Int) = 2 then (if 0 < (t134.length : Int) then (if (rd t134 0) = 1 then (if 1 < (t134.length : Int) then (some ((rd t134 1) == 2)) else (none)) else (none)) else (none)) else (none)) else (none))) else (none))) else (none)) else (none)))))) = some r := by first | (rw [hy122]; with_reducible exact H) | (have H2_ := (Option.bind_some _ _).symm.trans H; rw [hy122]; with_reducible exact H2_) | (have H2_ := (Option.bind_some _ _).symm.trans H; with_reducible exact H2_) | with_reducible exact H | (rw [hy122]; exact H) | exact H
  have Ny122 := Aside0.mk hy122
  clear hy122
  replace H := Option.bind_eq_some_iff.mp H
  obtain ⟨⟨t125, t126⟩, A10, H⟩ := H
  replace H : ((octs_In_Int.f k t125 t126 2).bind fun bt128 => ((octs_In_Short.f k bt128.2.1 bt128.2.2).bind fun bt131 => ((octs_Int.f k ([] : List Int) 2 258).bind fun t134 => (if bt128.1 = 258 then (if bt131.1.toList = ([97] : List UInt8) then ((octs_In_Left.f bt131.2.1 bt131.2.2).bind fun bt137 => (if bt137.1 = 1 then ((octs_In_Ok.f bt137.2.1 bt137.2.2).bind fun bt140 => (if bt140.1 = true then (if (t134.length : Int) = 2 then (if 0 < (t134.length : Int) then (if (rd t134 0) = 1 then (if 1 < (t134.length : Int) then (some ((rd t134 1) == 2)) else (none)) else (none)) else (none)) else (none)) else (none))) else (none))) else (none)) else (none))))) = some r := H
  have A1 := Aside0.mk A10
  clear A10
  replace H := Option.bind_eq_some_iff.mp H
  obtain ⟨⟨t128, t129, t130⟩, A20, H⟩ := H
  replace H : ((octs_In_Short.f k t129 t130).bind fun bt131 => ((octs_Int.f k ([] : List Int) 2 258).bind fun t134 => (if t128 = 258 then (if bt131.1.toList = ([97] : List UInt8) then ((octs_In_Left.f bt131.2.1 bt131.2.2).bind fun bt137 => (if bt137.1 = 1 then ((octs_In_Ok.f bt137.2.1 bt137.2.2).bind fun bt140 => (if bt140.1 = true then (if (t134.length : Int) = 2 then (if 0 < (t134.length : Int) then (if (rd t134 0) = 1 then (if 1 < (t134.length : Int) then (some ((rd t134 1) == 2)) else (none)) else (none)) else (none)) else (none)) else (none))) else (none))) else (none)) else (none)))) = some r := H
  have A2 := Aside0.mk A20
  clear A20
  replace H := Option.bind_eq_some_iff.mp H
  obtain ⟨⟨t131, t132, t133⟩, A30, H⟩ := H
  replace H : ((octs_Int.f k ([] : List Int) 2 258).bind fun t134 => (if t128 = 258 then (if t131.toList = ([97] : List UInt8) then ((octs_In_Left.f t132 t133).bind fun bt137 => (if bt137.1 = 1 then ((octs_In_Ok.f bt137.2.1 bt137.2.2).bind fun bt140 => (if bt140.1 = true then (if (t134.length : Int) = 2 then (if 0 < (t134.length : Int) then (if (rd t134 0) = 1 then (if 1 < (t134.length : Int) then (some ((rd t134 1) == 2)) else (none)) else (none)) else (none)) else (none)) else (none))) else (none))) else (none)) else (none))) = some r := H
  have A3 := Aside0.mk A30
  clear A30
  replace H := Option.bind_eq_some_iff.mp H
  obtain ⟨t134, A40, H⟩ := H
  replace H : (if t128 = 258 then (if t131.toList = ([97] : List UInt8) then ((octs_In_Left.f t132 t133).bind fun bt137 => (if bt137.1 = 1 then ((octs_In_Ok.f bt137.2.1 bt137.2.2).bind fun bt140 => (if bt140.1 = true then (if (t134.length : Int) = 2 then (if 0 < (t134.length : Int) then (if (rd t134 0) = 1 then (if 1 < (t134.length : Int) then (some ((rd t134 1) == 2)) else (none)) else (none)) else (none)) else (none)) else (none))) else (none))) else (none)) else (none)) = some r := H
  have A4 := Aside0.mk A40
  clear A40
  by_cases c5 : t128 = 258
  · rw [if_pos c5] at H
    have c5b0 : (t128 == 258) = true := beq_iff_eq.mpr c5
    have c5b1 : (t128 != 258) = false := bne_eq_false_iff_eq.mpr c5
    clear c5
    by_cases c6 : t131.toList = ([97] : List UInt8)
    · rw [if_pos c6] at H
      have c6b0 : (t131.toList == ([97] : List UInt8)) = true := beq_iff_eq.mpr c6
      have c6b1 : (t131.toList != ([97] : List UInt8)) = false := bne_eq_false_iff_eq.mpr c6
      clear c6
      replace H := Option.bind_eq_some_iff.mp H
      obtain ⟨⟨t137, t138, t139⟩, A70, H⟩ := H
      replace H : (if t137 = 1 then ((octs_In_Ok.f t138 t139).bind fun bt140 => (if bt140.1 = true then (if (t134.length : Int) = 2 then (if 0 < (t134.length : Int) then (if (rd t134 0) = 1 then (if 1 < (t134.length : Int) then (some ((rd t134 1) == 2)) else (none)) else (none)) else (none)) else (none)) else (none))) else (none)) = some r := H
      have A7 := Aside0.mk A70
      clear A70
      by_cases c8 : t137 = 1
      · rw [if_pos c8] at H
        have c8b0 : (t137 == 1) = true := beq_iff_eq.mpr c8
        have c8b1 : (t137 != 1) = false := bne_eq_false_iff_eq.mpr c8
        clear c8
        replace H := Option.bind_eq_some_iff.mp H
        obtain ⟨⟨t140, t141, t142⟩, A90, H⟩ := H
        replace H : (if t140 = true then (if (t134.length : Int) = 2 then (if 0 < (t134.length : Int) then (if (rd t134 0) = 1 then (if 1 < (t134.length : Int) then (some ((rd t134 1) == 2)) else (none)) else (none)) else (none)) else (none)) else (none)) = some r := H
        have A9 := Aside0.mk A90
        clear A90
        by_cases c10 : t140 = true
        · subst c10
          have H1 : (if (t134.length : Int) = 2 then (if 0 < (t134.length : Int) then (if (rd t134 0) = 1 then (if 1 < (t134.length : Int) then (some ((rd t134 1) == 2)) else (none)) else (none)) else (none)) else (none)) = some r := by rw [if_pos rfl] at H; exact H
          clear H
          have H := H1
          clear H1
          by_cases c11 : (t134.length : Int) = 2
          · rw [if_pos c11] at H
            have c11b0 : ((t134.length : Int) == 2) = true := beq_iff_eq.mpr c11
            have c11b1 : ((t134.length : Int) != 2) = false := bne_eq_false_iff_eq.mpr c11
            clear c11
            by_cases c12 : 0 < (t134.length : Int)
            · rw [if_pos c12] at H
              have c12b0 : decide (0 < (t134.length : Int)) = true := decide_eq_true c12
              have c12b1 : decide (0 < t134.length) = true := decide_eq_true (by omega)
              clear c12
              by_cases c13 : (rd t134 0) = 1
              · rw [if_pos c13] at H
                have c13b0 : ((rd t134 0) == 1) = true := beq_iff_eq.mpr c13
                have c13b1 : ((rd t134 0) != 1) = false := bne_eq_false_iff_eq.mpr c13
                clear c13
                by_cases c14 : 1 < (t134.length : Int)
                · rw [if_pos c14] at H
                  have c14b0 : decide (1 < (t134.length : Int)) = true := decide_eq_true c14
                  have c14b1 : decide (1 < t134.length) = true := decide_eq_true (by omega)
                  clear c14
                  obtain rfl := Option.some.inj H
                  go_enter Try.func28, Try.ntmps28
                  go_wp2_with (first | ((with_reducible refine gate_dst (N := 5) rfl ?_); (try (refine gate_guard (by rfl) ?_; dsimp only)); refine Kd.R_lit (Kd.int .u8) _ 5 ?hg (N := 5) ?hd (xs := ([1, 2, 1, 97, 9] : List Int)) (inner := [.int .u8 1, .int .u8 2, .int .u8 1, .int .u8 97, .int .u8 9]) (ok := fun _ => True) (okp := fun _ => True) ?hr ?hp (fun _ hk => hk) trivial (Below.refl _ _) (Nat.le_refl _) (by simp) ?_; (case hd => rfl); (case hg => rfl); (case hr => first | (go_simp; done) | (go_simp; rfl)); (case hp => exact (Reps.one (show Kd.M (Kd.int .u8) _ _ _ 1 [.int .u8 1] from rfl) (Reps.one (show Kd.M (Kd.int .u8) _ _ _ 2 [.int .u8 2] from rfl) (Reps.one (show Kd.M (Kd.int .u8) _ _ _ 1 [.int .u8 1] from rfl) (Reps.one (show Kd.M (Kd.int .u8) _ _ _ 97 [.int .u8 97] from rfl) (Reps.one (show Kd.M (Kd.int .u8) _ _ _ 9 [.int .u8 9] from rfl) (Reps.none _ _))))))); intro v123 w15 ho16 hb hg_ hnew_; clear hg_ hnew_; (first | rw [← Ny122.out] at ho16 | (simp only [Int.reduceToNat] at ho16; rw [← Ny122.out] at ho16)); have n0_ := Aside0.mk (Kd.R_lower ho16 (below_size (by repeat (first | (with_reducible first | exact HB.out | apply below_alloc | apply pw_below_drewN | apply below_drew1) | exact HB.out)))); have n1_ := Aside0.mk (below_step (by repeat (first | (with_reducible first | exact HB.out | apply below_alloc | apply pw_below_drewN | apply below_drew1) | exact HB.out)) hb); clear HB; have HO124 := n0_; have HB := n1_; clear n0_ n1_; clear hb ho16; obtain ⟨Ao17, co17, eo17⟩ := Kd.R_slice HO124.out; subst eo17) | ((with_reducible refine gate_callee (f := 25) rfl ?_); refine goesL_ (some 6) rfl rfl Try.func25 (by kernel_rfl) rfl #[.slice Ao17 y122.length co17] rfl (by (try simp only [List.map_toArray, List.map_cons, List.map_nil]); first | done | rfl | (simp only [List.length_drop, List.length_take]; rfl)) ?_; (with_reducible refine (octs_From.callsB _ _ y122 t125 t126 w _ ?side1 ?side2 ?side3 A1.out).mono ?_); (case side1 => repeat (first | (with_reducible first | exact HB.out | apply below_alloc | apply pw_below_drewN | apply below_drew1) | exact HB.out)); (case side2 => repeat (first | exact (Kd.R_reads' HO124.out).2.2 | (with_reducible refine Kd.C_alloc ?_ _) | (with_reducible refine Kd.C_drewN ?_ _) | (with_reducible refine Kd.C_drew ?_))); (case side3 => exact (Kd.R_reads' HO124.out).2.1); rintro e w18 ⟨g127, rfl, hi, hb, hb2, hge⟩; refine ⟨_, rfl, ?_⟩; have n0_ := Aside0.mk (Kd.R_below (by (with_reducible repeat (first | apply Kd.R_alloc | apply Kd.R_drewN | apply Kd.R_drew)); exact HO124.out) hb2); have n1_ := Aside0.mk (hb); have n2_ := Aside0.mk (hi); clear HO124; clear HB; have HO124 := n0_; have HB := n1_; have HI127 := n2_; clear n0_ n1_ n2_; (try clear hb); (try clear hb2); (try clear hk); (try clear hi); (try clear hge)) | ((with_reducible refine gate_callee (f := 26) rfl ?_); refine goesL_ (some 10) rfl rfl Try.func26 (by kernel_rfl) rfl #[.pointer (some ⟨g127, 0, none⟩), .int .i64 2] rfl (by (try simp only [List.map_toArray, List.map_cons, List.map_nil]); first | done | rfl | (simp only [List.length_drop, List.length_take]; rfl)) ?_; (with_reducible refine (octs_In_Int.callsB k g127 t125 t126 2 t128 t129 t130 w _ ?side1 ?side2 A2.out).mono ?_); (case side1 => repeat (first | (with_reducible first | exact HI127.out | apply IsB91.alloc | apply IsB91.drewN | apply IsB91.drew | apply IsB91.set_1) | exact HI127.out)); (case side2 => repeat (first | (with_reducible first | exact HB.out | apply below_alloc | apply pw_below_drewN | apply below_drew1 | refine below_set ?_ (IsB91.ge HI127.out)) | exact HB.out)); rintro e w19 ⟨rfl, hi, hb, hk⟩; refine ⟨_, rfl, ?_⟩; have n0_ := Aside0.mk (Kd.R_mono (Kd.R_keep (IsB91.apart (show IsB91 w _ g127 t125 t126 from by repeat (first | (with_reducible first | exact HI127.out | apply IsB91.alloc | apply IsB91.drewN | apply IsB91.drew | apply IsB91.set_1) | exact HI127.out)) (by (with_reducible repeat (first | apply Kd.R_alloc | apply Kd.R_drewN | apply Kd.R_drew)); exact HO124.out) (by decide)) hk (fun _ h => h.2)) (fun _ h => h.1)); have n1_ := Aside0.mk (hb); have n2_ := Aside0.mk (hi); clear HO124; clear HB; clear HI127; have HO124 := n0_; have HB := n1_; have HI127 := n2_; clear n0_ n1_ n2_; (try clear hb); (try clear hb2); (try clear hk); (try clear hi); (try clear hge)) | ((with_reducible refine gate_callee (f := 31) rfl ?_); refine goesL_ (some 12) rfl rfl Try.func31 (by kernel_rfl) rfl #[.pointer (some ⟨g127, 0, none⟩)] rfl (by (try simp only [List.map_toArray, List.map_cons, List.map_nil]); first | done | rfl | (simp only [List.length_drop, List.length_take]; rfl)) ?_; (with_reducible refine (octs_In_Short.callsB k g127 t129 t130 t131 t132 t133 w _ ?side1 ?side2 A3.out).mono ?_); (case side1 => repeat (first | (with_reducible first | exact HI127.out | apply IsB91.alloc | apply IsB91.drewN | apply IsB91.drew | apply IsB91.set_1) | exact HI127.out)); (case side2 => repeat (first | (with_reducible first | exact HB.out | apply below_alloc | apply pw_below_drewN | apply below_drew1 | refine below_set ?_ (IsB91.ge HI127.out)) | exact HB.out)); rintro e w20 ⟨rfl, hi, hb, hk⟩; refine ⟨_, rfl, ?_⟩; have n0_ := Aside0.mk (Kd.R_mono (Kd.R_keep (IsB91.apart (show IsB91 w _ g127 t129 t130 from by repeat (first | (with_reducible first | exact HI127.out | apply IsB91.alloc | apply IsB91.drewN | apply IsB91.drew | apply IsB91.set_1) | exact HI127.out)) (by (with_reducible repeat (first | apply Kd.R_alloc | apply Kd.R_drewN | apply Kd.R_drew)); exact HO124.out) (by decide)) hk (fun _ h => h.2)) (fun _ h => h.1)); have n1_ := Aside0.mk (hb); have n2_ := Aside0.mk (hi); clear HO124; clear HB; clear HI127; have HO124 := n0_; have HB := n1_; have HI127 := n2_; clear n0_ n1_ n2_; (try clear hb); (try clear hb2); (try clear hk); (try clear hi); (try clear hge)) | ((with_reducible refine gate_callee (f := 24) rfl ?_); refine goesL_ (some 13) rfl rfl Try.func24 (by kernel_rfl) rfl #[.slice none 0 0, .int .i64 2, .int .u64 258] rfl (by (try simp only [List.map_toArray, List.map_cons, List.map_nil]); first | done | rfl | (simp only [List.length_drop, List.length_take]; rfl)) ?_; (refine (octs_Int.calls k _ _ ([] : List Int) 2 258 t134 _ ?side1 ?side2 A4.out).mono ?_); (case side1 => exact Kd.C_nil _ _); (case side2 => exact Nat.le_refl _); rintro e w21 ⟨v135, rfl, ho0, hb⟩; refine ⟨_, rfl, ?_⟩; have n0_ := Aside0.mk (Kd.R_elder' (by (with_reducible repeat (first | apply Kd.R_alloc | apply Kd.R_drewN | apply Kd.R_drew)); exact HO124.out) (Kd.R_base ho0) hb); have n1_ := Aside0.mk (Kd.R_lower (Kd.R_new' ho0 (Kd.R_lt (by (with_reducible repeat (first | apply Kd.R_alloc | apply Kd.R_drewN | apply Kd.R_drew)); exact HO124.out))) (below_size (by repeat (first | (with_reducible first | exact HB.out | apply below_alloc | apply pw_below_drewN | apply below_drew1 | refine below_set ?_ (IsB91.ge HI127.out)) | exact HB.out)))); have n2_ := Aside0.mk (IsB91.below (by repeat (first | (with_reducible first | exact HI127.out | apply IsB91.alloc | apply IsB91.drewN | apply IsB91.drew | apply IsB91.set_1) | exact HI127.out)) hb); have n3_ := Aside0.mk (below_step (by repeat (first | (with_reducible first | exact HB.out | apply below_alloc | apply pw_below_drewN | apply below_drew1 | refine below_set ?_ (IsB91.ge HI127.out)) | exact HB.out)) hb); clear HO124; clear HI127; clear HB; have HO124 := n0_; have HO136 := n1_; have HI127 := n2_; have HB := n3_; clear n0_ n1_ n2_ n3_; (try clear hb); (try clear hb2); (try clear hk); (try clear hi); (try clear hge); (try clear ho0)) | (go_at_call 35; (with_reducible refine (octs_In_Left.callsB g127 t132 t133 t137 t138 t139 w _ ?side1 ?side2 A7.out).mono ?_); (case side1 => repeat (first | (with_reducible first | exact HI127.out | apply IsB91.alloc | apply IsB91.drewN | apply IsB91.drew | apply IsB91.set_1) | exact HI127.out)); (case side2 => repeat (first | (with_reducible first | exact HB.out | apply below_alloc | apply pw_below_drewN | apply below_drew1 | refine below_set ?_ (IsB91.ge HI127.out)) | exact HB.out)); rintro e w22 ⟨rfl, hi, hb, hk⟩; have n0_ := Aside0.mk (Kd.R_mono (Kd.R_keep (IsB91.apart (show IsB91 w _ g127 t132 t133 from by repeat (first | (with_reducible first | exact HI127.out | apply IsB91.alloc | apply IsB91.drewN | apply IsB91.drew | apply IsB91.set_1) | exact HI127.out)) (by (with_reducible repeat (first | apply Kd.R_alloc | apply Kd.R_drewN | apply Kd.R_drew)); exact HO124.out) (by decide)) hk (fun _ h => h.2)) (fun _ h => h.1)); have n1_ := Aside0.mk (Kd.R_mono (Kd.R_keep (IsB91.apart (show IsB91 w _ g127 t132 t133 from by repeat (first | (with_reducible first | exact HI127.out | apply IsB91.alloc | apply IsB91.drewN | apply IsB91.drew | apply IsB91.set_1) | exact HI127.out)) (by (with_reducible repeat (first | apply Kd.R_alloc | apply Kd.R_drewN | apply Kd.R_drew)); exact HO136.out) (by decide)) hk (fun _ h => h.2)) (fun _ h => h.1)); have n2_ := Aside0.mk (hb); have n3_ := Aside0.mk (hi); clear HO124; clear HO136; clear HB; clear HI127; have HO124 := n0_; have HO136 := n1_; have HB := n2_; have HI127 := n3_; clear n0_ n1_ n2_ n3_; (try clear hb); (try clear hb2); (try clear hk); (try clear hi); (try clear hge)) | (go_at_call 27; (with_reducible refine (octs_In_Ok.callsB g127 t138 t139 true t141 t142 w _ ?side1 ?side2 A9.out).mono ?_); (case side1 => repeat (first | (with_reducible first | exact HI127.out | apply IsB91.alloc | apply IsB91.drewN | apply IsB91.drew | apply IsB91.set_1) | exact HI127.out)); (case side2 => repeat (first | (with_reducible first | exact HB.out | apply below_alloc | apply pw_below_drewN | apply below_drew1 | refine below_set ?_ (IsB91.ge HI127.out)) | exact HB.out)); rintro e w23 ⟨rfl, hi, hb, hk⟩; have n0_ := Aside0.mk (Kd.R_mono (Kd.R_keep (IsB91.apart (show IsB91 w _ g127 t138 t139 from by repeat (first | (with_reducible first | exact HI127.out | apply IsB91.alloc | apply IsB91.drewN | apply IsB91.drew | apply IsB91.set_1) | exact HI127.out)) (by (with_reducible repeat (first | apply Kd.R_alloc | apply Kd.R_drewN | apply Kd.R_drew)); exact HO124.out) (by decide)) hk (fun _ h => h.2)) (fun _ h => h.1)); have n1_ := Aside0.mk (Kd.R_mono (Kd.R_keep (IsB91.apart (show IsB91 w _ g127 t138 t139 from by repeat (first | (with_reducible first | exact HI127.out | apply IsB91.alloc | apply IsB91.drewN | apply IsB91.drew | apply IsB91.set_1) | exact HI127.out)) (by (with_reducible repeat (first | apply Kd.R_alloc | apply Kd.R_drewN | apply Kd.R_drew)); exact HO136.out) (by decide)) hk (fun _ h => h.2)) (fun _ h => h.1)); have n2_ := Aside0.mk (hb); have n3_ := Aside0.mk (hi); clear HO124; clear HO136; clear HB; clear HI127; have HO124 := n0_; have HO136 := n1_; have HB := n2_; have HI127 := n3_; clear n0_ n1_ n2_ n3_; (try clear hb); (try clear hb2); (try clear hk); (try clear hi); (try clear hge); obtain ⟨Ao24, co24, eo24⟩ := Kd.R_slice HO136.out; subst eo24; have p143 : 0 ≤ (0 : Int) := (by omega); have q143 : 0 < (t134.length : Int) := of_decide_eq_true (by first | (with_reducible assumption) | assumption); obtain ⟨ad143, e143, hx143_0⟩ := Kd.at_int (Kd.R_reads' HO136.out).2.2 0 p143 q143; cases e143; have qi143 : (0 < t134.length) = True := eq_true (by omega); (try rw [show ((0 : Int)).toNat = 0 from rfl] at hx143_0); (try rw [Addr.add_zero'] at hx143_0); replace p143 := eq_true p143; replace q143 := eq_true q143; have p144 : 0 ≤ (1 : Int) := (by omega); have q144 : 1 < (t134.length : Int) := of_decide_eq_true (by first | (with_reducible assumption) | assumption); obtain ⟨ad144, e144, hx144_0⟩ := Kd.at_int (Kd.R_reads' HO136.out).2.2 1 p144 q144; obtain rfl : ad143 = ad144 := (by injection e144); (try simp only [show (1 : Int).toNat = 1 from rfl, Nat.reduceMul, Nat.reduceEqDiff, Go.Addr.add, ↓reduceIte] at hx144_0); have qi144 : (1 < t134.length) = True := eq_true (by omega); (try rw [show ((1 : Int)).toNat = 1 from rfl] at hx144_0); replace p144 := eq_true p144; replace q144 := eq_true q144))
                  all_goals first | (go_ret; exact ⟨by first | rfl | (simp [errW_none, errW_some]; done) | (simp [errW_none, errW_some]; rfl) | (simp [*, errW_none, errW_some]; done) | (simp [*, errW_none, errW_some]; rfl), by repeat (first | (with_reducible first | exact HB.out | apply below_alloc | apply pw_below_drewN | apply below_drew1 | refine below_set ?_ (IsB91.ge HI127.out)) | exact HB.out)⟩) | (exfalso; simp_all; done)
                · rw [if_neg c14] at H
                  exact absurd H (by simp)
              · rw [if_neg c13] at H
                exact absurd H (by simp)
            · rw [if_neg c12] at H
              exact absurd H (by simp)
          · rw [if_neg c11] at H
            exact absurd H (by simp)
        · replace c10 := Bool.eq_false_iff.mpr c10
          subst c10
          have H1 : (none) = some r := by rw [if_neg (show ¬ (false = true) by decide)] at H; exact H
          clear H
          have H := H1
          clear H1
          exact absurd H (by simp)
      · rw [if_neg c8] at H
        exact absurd H (by simp)
    · rw [if_neg c6] at H
      exact absurd H (by simp)
  · rw [if_neg c5] at H
    exact absurd H (by simp)

/-! ### waybilllaw1_OctsBits: function 5 -/
def waybilllaw1_OctsBits.j0 : Nat → Int → Int → List Int → Bool → Option (Bool)
  | 0, _, _, _, _ => none
  | k + 1, x0, x1, x5, x19 => if x19 = true then (none) else (if 1 ≤ (x5.length : Int) then ((octs_From.f (x5.drop 1)).bind fun bt156 => (if 0 ≤ (wrap64 (8 - (wrap64 (Int.tdiv (Go.bits .and .i64 x1 63) 8)))) then (if (wrap64 (8 - (wrap64 (Int.tdiv (Go.bits .and .i64 x1 63) 8)))) < (x5.length : Int) then (if 0 ≤ (IntKind.u64.wrap (Int.tmod (Go.bits .and .i64 x1 63) 8)) then (if 0 ≤ (IntKind.u64.wrap (Go.bits .and .i64 x1 63)) then (if (((Go.bits .and .u8 (shr .u8 (rd x5 (wrap64 (8 - (wrap64 (Int.tdiv (Go.bits .and .i64 x1 63) 8))))) (IntKind.u64.wrap (Int.tmod (Go.bits .and .i64 x1 63) 8))) 1) == 1) == ((Go.bits .and .u64 (shr .u64 x0 (IntKind.u64.wrap (Go.bits .and .i64 x1 63))) 1) == 1)) = true then ((octs_In_Int.f k bt156.1 bt156.2 8).bind fun bt160 => (if bt160.1 = x0 then ((octs_In_Ok.f bt160.2.1 bt160.2.2).bind fun bt163 => (if bt163.1 = true then ((waybilllaw1_awake.f k).bind fun t166 => (some t166)) else (none))) else (none))) else (none)) else (none)) else (none)) else (none)) else (none))) else (none))
def waybilllaw1_OctsBits.f (k : Nat) (a0 : Int) (a1 : Int) : Option (Bool) := (octs_Int.f k (([9] : List Int)) 8 a0).bind fun t148 => (if (t148.length : Int) = 9 then (if 0 < (t148.length : Int) then (waybilllaw1_OctsBits.j0 k a0 a1 t148 ((rd t148 0) != 9)) else (none)) else (waybilllaw1_OctsBits.j0 k a0 a1 t148 true))
theorem waybilllaw1_OctsBits.mono_l : ∀ k, (∀ y0 y1 y2 y3, LeO (waybilllaw1_OctsBits.j0 k y0 y1 y2 y3) (waybilllaw1_OctsBits.j0 (k + 1) y0 y1 y2 y3))
  | 0 => fun _ _ _ _ r h => by simp [waybilllaw1_OctsBits.j0] at h
  | k + 1 => by
    have ih0 := waybilllaw1_OctsBits.mono_l k
    · intro y0 y1 y2 y3
      unfold waybilllaw1_OctsBits.j0
      repeat' first
      | (with_reducible exact ih0 _ _ _ _)
      | (with_reducible exact octs_In_Int.mono _ _ _ _)
      | (with_reducible exact octs_Int.mono _ _ _ _)
      | (with_reducible exact waybilllaw1_awake.mono _)
      | (with_reducible exact LeO.refl _)
      | (with_reducible exact LeO.none _)
      | (with_reducible refine LeO.ite ?_ ?_)
      | (with_reducible refine LeO.bind ?_ (fun _ => ?_))
      | exact ih0 _ _ _ _
      | exact octs_In_Int.mono _ _ _ _
      | exact octs_Int.mono _ _ _ _
      | exact waybilllaw1_awake.mono _
      | exact LeO.none _
      | refine LeO.ite ?_ ?_
      | refine LeO.bind ?_ (fun _ => ?_)
theorem waybilllaw1_OctsBits.mono : ∀ a0 a1 k, LeO (waybilllaw1_OctsBits.f k a0 a1) (waybilllaw1_OctsBits.f (k + 1) a0 a1) := by
  intro a0 a1 k
  have ih0 := waybilllaw1_OctsBits.mono_l k
  unfold waybilllaw1_OctsBits.f
  repeat' first
      | (with_reducible exact ih0 _ _ _ _)
      | (with_reducible exact octs_In_Int.mono _ _ _ _)
      | (with_reducible exact octs_Int.mono _ _ _ _)
      | (with_reducible exact waybilllaw1_awake.mono _)
      | (with_reducible exact LeO.refl _)
      | (with_reducible exact LeO.none _)
      | (with_reducible refine LeO.ite ?_ ?_)
      | (with_reducible refine LeO.bind ?_ (fun _ => ?_))
      | exact ih0 _ _ _ _
      | exact octs_In_Int.mono _ _ _ _
      | exact octs_Int.mono _ _ _ _
      | exact waybilllaw1_awake.mono _
      | exact LeO.none _
      | refine LeO.ite ?_ ?_
      | refine LeO.bind ?_ (fun _ => ?_)
set_option maxHeartbeats 8000000 in
set_option maxRecDepth 100000 in
theorem waybilllaw1_OctsBits.calls (k : Nat) (a0 : Int) (a1 : Int) (r : Bool) (w : World) (h : waybilllaw1_OctsBits.f k a0 a1 = some r) :
    Calls Try.prog 5 #[.int .u64 a0, .int .i64 a1] w fun e w' => e = .returned (.bool r) ∧ Below w.heap.size w w' := by
  have hpe45 := fun (W : World) (p : Option Addr) => run_eql_pointer_nil (P := Try.prog) (w := W) 45 p (by kernel_rfl)
  have hpn45 := fun (W : World) (p : Option Addr) => run_neq_pointer_nil (P := Try.prog) (w := W) 45 p (by kernel_rfl)
  have HB := Aside0.mk (Below.refl w.heap.size w)
  have H : ((octs_Int.f k (([9] : List Int)) 8 a0).bind fun t148 => (if (t148.length : Int) = 9 then (if 0 < (t148.length : Int) then (waybilllaw1_OctsBits.j0 k a0 a1 t148 ((rd t148 0) != 9)) else (none)) else (waybilllaw1_OctsBits.j0 k a0 a1 t148 true))) = some r := h
  clear h
  obtain ⟨y145, hy145⟩ : ∃ y_ : List Int, y_ = (([9] : List Int)) := ⟨_, rfl⟩
  replace H : ((octs_Int.f k y145 8 a0).bind fun t148 => (if (t148.length : Int) = 9 then (if 0 < (t148.length : Int) then (waybilllaw1_OctsBits.j0 k a0 a1 t148 ((rd t148 0) != 9)) else (none)) else (waybilllaw1_OctsBits.j0 k a0 a1 t148 true))) = some r := by first | (rw [hy145]; with_reducible exact H) | (have H2_ := (Option.bind_some _ _).symm.trans H; rw [hy145]; with_reducible exact H2_) | (have H2_ := (Option.bind_some _ _).symm.trans H; with_reducible exact H2_) | with_reducible exact H | (rw [hy145]; exact H) | exact H
  have Ny145 := Aside0.mk hy145
  clear hy145
  replace H := Option.bind_eq_some_iff.mp H
  obtain ⟨t148, A30, H⟩ := H
  replace H : (if (t148.length : Int) = 9 then (if 0 < (t148.length : Int) then (waybilllaw1_OctsBits.j0 k a0 a1 t148 ((rd t148 0) != 9)) else (none)) else (waybilllaw1_OctsBits.j0 k a0 a1 t148 true)) = some r := H
  have A3 := Aside0.mk A30
  clear A30
  have HC4 := Aside0.mk H
  clear H
  go_enter Try.func5, Try.ntmps5
  go_upto_region 2 with (first | ((with_reducible refine gate_dst (N := 8) rfl ?_); refine Kd.R_lit (Kd.int .u8) _ 5 ?hg (N := 8) ?hd (xs := ([9] : List Int)) (inner := [.int .u8 9]) (ok := fun _ => True) (okp := fun _ => True) ?hr ?hp (fun _ hk => hk) trivial (Below.refl _ _) (Nat.le_refl _) (by simp) ?_; (case hd => rfl); (case hg => rfl); (case hr => first | (go_simp; done) | (go_simp; rfl)); (case hp => exact (Reps.one (show Kd.M (Kd.int .u8) _ _ _ 9 [.int .u8 9] from rfl) (Reps.none _ _))); intro v146 w5 ho6 hb hg_ hnew_; clear hg_ hnew_; (first | rw [← Ny145.out] at ho6 | (simp only [Int.reduceToNat] at ho6; rw [← Ny145.out] at ho6)); have n0_ := Aside0.mk (Kd.R_lower ho6 (below_size (by repeat (first | (with_reducible first | exact HB.out | apply below_alloc | apply pw_below_drewN | apply below_drew1) | exact HB.out)))); have n1_ := Aside0.mk (below_step (by repeat (first | (with_reducible first | exact HB.out | apply below_alloc | apply pw_below_drewN | apply below_drew1) | exact HB.out)) hb); clear HB; have HO147 := n0_; have HB := n1_; clear n0_ n1_; clear hb ho6; obtain ⟨Ao7, co7, eo7⟩ := Kd.R_slice HO147.out; subst eo7) | ((with_reducible refine gate_callee (f := 24) rfl ?_); refine goesL_ (some 10) rfl rfl Try.func24 (by kernel_rfl) rfl #[.slice Ao7 y145.length co7, .int .i64 8, .int .u64 a0] rfl (by (try simp only [List.map_toArray, List.map_cons, List.map_nil]); first | done | rfl | (simp only [List.length_drop, List.length_take]; rfl)) ?_; (with_reducible refine (octs_Int.calls k _ _ y145 8 a0 t148 _ ?side1 ?side2 A3.out).mono ?_); (case side1 => repeat (first | exact (Kd.R_reads' HO147.out).2.2 | (with_reducible refine Kd.C_alloc ?_ _) | (with_reducible refine Kd.C_drewN ?_ _) | (with_reducible refine Kd.C_drew ?_))); (case side2 => exact (Kd.R_reads' HO147.out).2.1); rintro e w8 ⟨v149, rfl, ho0, hb⟩; refine ⟨_, rfl, ?_⟩; have n0_ := Aside0.mk (Kd.R_elder' (by (with_reducible repeat (first | apply Kd.R_alloc | apply Kd.R_drewN | apply Kd.R_drew)); exact HO147.out) (Kd.R_base ho0) hb); have n1_ := Aside0.mk (Kd.R_lower (Kd.R_new' ho0 (Kd.R_lt (by (with_reducible repeat (first | apply Kd.R_alloc | apply Kd.R_drewN | apply Kd.R_drew)); exact HO147.out))) (below_size (by repeat (first | (with_reducible first | exact HB.out | apply below_alloc | apply pw_below_drewN | apply below_drew1) | exact HB.out)))); have n2_ := Aside0.mk (below_step (by repeat (first | (with_reducible first | exact HB.out | apply below_alloc | apply pw_below_drewN | apply below_drew1) | exact HB.out)) hb); clear HO147; clear HB; have HO147 := n0_; have HO150 := n1_; have HB := n2_; clear n0_ n1_ n2_; (try clear hb); (try clear hb2); (try clear hk); (try clear hi); (try clear hge); (try clear ho0)))
  (try simp only [Act.put, List.setIfInBounds_toArray, List.set_cons_zero, List.set_cons_succ])
  go_cut [19] (fun v19 wc => ∃ (kq : Nat) (x19_3 : Bool), v19 = .bool x19_3 ∧ Aside0 (waybilllaw1_OctsBits.j0 kq a0 a1 t148 x19_3 = some r) ∧ Aside0 (kq ≤ k) ∧ Aside0 (Kd.R (Kd.int .u8) 5 wc w.heap.size (fun _ => True) v149 t148) ∧ Aside0 (Below w.heap.size w wc))
  case first =>
    have H := HC4.out
    clear HC4
    by_cases c9 : (t148.length : Int) = 9
    · rw [if_pos c9] at H
      have c9b0 : ((t148.length : Int) == 9) = true := beq_iff_eq.mpr c9
      have c9b1 : ((t148.length : Int) != 9) = false := bne_eq_false_iff_eq.mpr c9
      clear c9
      (first | rw [c9b0] | rw [c9b2] | (simp only [i64_w, i32_w]; rw [c9b0]) | skip)
      by_cases c10 : 0 < (t148.length : Int)
      · rw [if_pos c10] at H
        have c10b0 : decide (0 < (t148.length : Int)) = true := decide_eq_true c10
        have c10b1 : decide (0 < t148.length) = true := decide_eq_true (by omega)
        clear c10
        have H' := Aside0.mk H
        clear H
        obtain ⟨Ao11, co11, eo11⟩ := Kd.R_slice HO150.out
        subst eo11
        have p151 : 0 ≤ (0 : Int) := (by omega)
        have q151 : 0 < (t148.length : Int) := of_decide_eq_true (by first | (with_reducible assumption) | assumption)
        obtain ⟨ad151, e151, hx151_0⟩ := Kd.at_int (Kd.R_reads' HO150.out).2.2 0 p151 q151
        cases e151
        have qi151 : (0 < t148.length) = True := eq_true (by omega)
        (try rw [show ((0 : Int)).toNat = 0 from rfl] at hx151_0)
        (try rw [Addr.add_zero'] at hx151_0)
        replace p151 := eq_true p151
        replace q151 := eq_true q151
        go_wp2
        go_meet
        case rel => exact ⟨_, (((rd t148 0) != 9)), (by first | rfl | (simp; done) | (simp [*]; done)), H', ⟨by first | omega | exact Nat.le_refl _⟩, ⟨by (with_reducible repeat (first | apply Kd.R_alloc | apply Kd.R_drewN | apply Kd.R_drew)); exact Kd.R_mono HO150.out (fun _ hk => trivial)⟩, ⟨by repeat (first | (with_reducible first | exact HB.out | apply below_alloc | apply pw_below_drewN | apply below_drew1) | exact HB.out)⟩⟩
      · rw [if_neg c10] at H
        exact absurd H (by simp)
    · rw [if_neg c9] at H
      have c9b0 : ((t148.length : Int) == 9) = false := beq_eq_false_iff_ne.mpr c9
      have c9b1 : ((t148.length : Int) != 9) = true := bne_iff_ne.mpr c9
      (first | rw [c9b0] | rw [c9b2] | (simp only [i64_w, i32_w]; rw [c9b0]) | skip)
      have H' := Aside0.mk H
      clear H
      obtain ⟨Ao12, co12, eo12⟩ := Kd.R_slice HO150.out
      subst eo12
      go_wp2
      go_meet
      case rel => exact ⟨_, (true), (by first | rfl | (simp; done) | (simp [*]; done)), H', ⟨by first | omega | exact Nat.le_refl _⟩, ⟨by (with_reducible repeat (first | apply Kd.R_alloc | apply Kd.R_drewN | apply Kd.R_drew)); exact Kd.R_mono HO150.out (fun _ hk => trivial)⟩, ⟨by repeat (first | (with_reducible first | exact HB.out | apply below_alloc | apply pw_below_drewN | apply below_drew1) | exact HB.out)⟩⟩
  case rest =>
    clear HC4
    try clear c1
    try clear p1
    try clear q1
    try clear hx1
    try clear qi1
    try clear c2
    try clear p2
    try clear c5
    try clear c9
    try clear c9b0
    try clear c9b1
    try clear c10
    try clear c10b0
    try clear c10b1
    try clear hx151_0
    try clear p151
    try clear q151
    obtain ⟨kq, x19_3, rfl, HA, HJ3, HO_5, HB⟩ := hcut
    cases kq with
    | zero => exact absurd HA.out (by simp [waybilllaw1_OctsBits.j0])
    | succ kj3 =>
      have H := HA.out
      clear HA
      simp only [waybilllaw1_OctsBits.j0] at H
      by_cases c13 : x19_3 = true
      · subst c13
        have H1 : (none) = some r := by rw [if_pos rfl] at H; exact H
        clear H
        have H := H1
        clear H1
        exact absurd H (by simp)
      · replace c13 := Bool.eq_false_iff.mpr c13
        subst c13
        have H1 : (if 1 ≤ (t148.length : Int) then ((octs_From.f (t148.drop 1)).bind fun bt156 => (if 0 ≤ (wrap64 (8 - (wrap64 (Int.tdiv (Go.bits .and .i64 a1 63) 8)))) then (if (wrap64 (8 - (wrap64 (Int.tdiv (Go.bits .and .i64 a1 63) 8)))) < (t148.length : Int) then (if 0 ≤ (IntKind.u64.wrap (Int.tmod (Go.bits .and .i64 a1 63) 8)) then (if 0 ≤ (IntKind.u64.wrap (Go.bits .and .i64 a1 63)) then (if (((Go.bits .and .u8 (shr .u8 (rd t148 (wrap64 (8 - (wrap64 (Int.tdiv (Go.bits .and .i64 a1 63) 8))))) (IntKind.u64.wrap (Int.tmod (Go.bits .and .i64 a1 63) 8))) 1) == 1) == ((Go.bits .and .u64 (shr .u64 a0 (IntKind.u64.wrap (Go.bits .and .i64 a1 63))) 1) == 1)) = true then ((octs_In_Int.f kj3 bt156.1 bt156.2 8).bind fun bt160 => (if bt160.1 = a0 then ((octs_In_Ok.f bt160.2.1 bt160.2.2).bind fun bt163 => (if bt163.1 = true then ((waybilllaw1_awake.f kj3).bind fun t166 => (some t166)) else (none))) else (none))) else (none)) else (none)) else (none)) else (none)) else (none))) else (none)) = some r := by rw [if_neg (show ¬ (false = true) by decide)] at H; exact H
        clear H
        have H := H1
        clear H1
        by_cases c14 : 1 ≤ (t148.length : Int)
        · rw [if_pos c14] at H
          have c14b0 := eq_true c14
          have c14b1 : decide (1 ≤ (t148.length : Int)) = true := decide_eq_true c14
          clear c14
          obtain ⟨y152, hy152⟩ : ∃ y_ : List Int, y_ = (t148.drop 1) := ⟨_, rfl⟩
          replace H : ((octs_From.f y152).bind fun bt156 => (if 0 ≤ (wrap64 (8 - (wrap64 (Int.tdiv (Go.bits .and .i64 a1 63) 8)))) then (if (wrap64 (8 - (wrap64 (Int.tdiv (Go.bits .and .i64 a1 63) 8)))) < (t148.length : Int) then (if 0 ≤ (IntKind.u64.wrap (Int.tmod (Go.bits .and .i64 a1 63) 8)) then (if 0 ≤ (IntKind.u64.wrap (Go.bits .and .i64 a1 63)) then (if (((Go.bits .and .u8 (shr .u8 (rd t148 (wrap64 (8 - (wrap64 (Int.tdiv (Go.bits .and .i64 a1 63) 8))))) (IntKind.u64.wrap (Int.tmod (Go.bits .and .i64 a1 63) 8))) 1) == 1) == ((Go.bits .and .u64 (shr .u64 a0 (IntKind.u64.wrap (Go.bits .and .i64 a1 63))) 1) == 1)) = true then ((octs_In_Int.f kj3 bt156.1 bt156.2 8).bind fun bt160 => (if bt160.1 = a0 then ((octs_In_Ok.f bt160.2.1 bt160.2.2).bind fun bt163 => (if bt163.1 = true then ((waybilllaw1_awake.f kj3).bind fun t166 => (some t166)) else (none))) else (none))) else (none)) else (none)) else (none)) else (none)) else (none))) = some r := by first | (rw [hy152]; with_reducible exact H) | (have H2_ := (Option.bind_some _ _).symm.trans H; rw [hy152]; with_reducible exact H2_) | (have H2_ := (Option.bind_some _ _).symm.trans H; with_reducible exact H2_) | with_reducible exact H | (rw [hy152]; exact H) | exact H
          have Ny152 := Aside0.mk hy152
          clear hy152
          replace H := Option.bind_eq_some_iff.mp H
          obtain ⟨⟨t156, t157⟩, A150, H⟩ := H
          replace H : (if 0 ≤ (wrap64 (8 - (wrap64 (Int.tdiv (Go.bits .and .i64 a1 63) 8)))) then (if (wrap64 (8 - (wrap64 (Int.tdiv (Go.bits .and .i64 a1 63) 8)))) < (t148.length : Int) then (if 0 ≤ (IntKind.u64.wrap (Int.tmod (Go.bits .and .i64 a1 63) 8)) then (if 0 ≤ (IntKind.u64.wrap (Go.bits .and .i64 a1 63)) then (if (((Go.bits .and .u8 (shr .u8 (rd t148 (wrap64 (8 - (wrap64 (Int.tdiv (Go.bits .and .i64 a1 63) 8))))) (IntKind.u64.wrap (Int.tmod (Go.bits .and .i64 a1 63) 8))) 1) == 1) == ((Go.bits .and .u64 (shr .u64 a0 (IntKind.u64.wrap (Go.bits .and .i64 a1 63))) 1) == 1)) = true then ((octs_In_Int.f kj3 t156 t157 8).bind fun bt160 => (if bt160.1 = a0 then ((octs_In_Ok.f bt160.2.1 bt160.2.2).bind fun bt163 => (if bt163.1 = true then ((waybilllaw1_awake.f kj3).bind fun t166 => (some t166)) else (none))) else (none))) else (none)) else (none)) else (none)) else (none)) else (none)) = some r := H
          have A15 := Aside0.mk A150
          clear A150
          obtain ⟨ji16, hji16⟩ : ∃ j_ : Int, (wrap64 (8 - (wrap64 (Int.tdiv (Go.bits .and .i64 a1 63) 8)))) = j_ := ⟨_, rfl⟩
          replace H : (if 0 ≤ (ji16) then (if (ji16) < (t148.length : Int) then (if 0 ≤ (IntKind.u64.wrap (Int.tmod (Go.bits .and .i64 a1 63) 8)) then (if 0 ≤ (IntKind.u64.wrap (Go.bits .and .i64 a1 63)) then (if (((Go.bits .and .u8 (shr .u8 (rd t148 (ji16)) (IntKind.u64.wrap (Int.tmod (Go.bits .and .i64 a1 63) 8))) 1) == 1) == ((Go.bits .and .u64 (shr .u64 a0 (IntKind.u64.wrap (Go.bits .and .i64 a1 63))) 1) == 1)) = true then ((octs_In_Int.f kj3 t156 t157 8).bind fun bt160 => (if bt160.1 = a0 then ((octs_In_Ok.f bt160.2.1 bt160.2.2).bind fun bt163 => (if bt163.1 = true then ((waybilllaw1_awake.f kj3).bind fun t166 => (some t166)) else (none))) else (none))) else (none)) else (none)) else (none)) else (none)) else (none)) = some r := by first | (rw [hji16] at H; exact H) | (simp only [hji16] at H ⊢; exact H)
          (try rw [hji16] at A15)
          have hji16w : (IntKind.i64.wrap (8 - (wrap64 (Int.tdiv (Go.bits .and .i64 a1 63) 8)))) = ji16 := (i64_w _).trans hji16
          by_cases c17 : 0 ≤ (ji16)
          · rw [if_pos c17] at H
            have c17b0 : decide (0 ≤ (ji16)) = true := decide_eq_true c17
            clear c17
            by_cases c18 : (ji16) < (t148.length : Int)
            · rw [if_pos c18] at H
              have c18b0 : decide ((ji16) < (t148.length : Int)) = true := decide_eq_true c18
              clear c18
              obtain ⟨ji19, hji19⟩ : ∃ j_ : Int, (IntKind.u64.wrap (Int.tmod (Go.bits .and .i64 a1 63) 8)) = j_ := ⟨_, rfl⟩
              replace H : (if 0 ≤ (ji19) then (if 0 ≤ (IntKind.u64.wrap (Go.bits .and .i64 a1 63)) then (if (((Go.bits .and .u8 (shr .u8 (rd t148 (ji16)) (ji19)) 1) == 1) == ((Go.bits .and .u64 (shr .u64 a0 (IntKind.u64.wrap (Go.bits .and .i64 a1 63))) 1) == 1)) = true then ((octs_In_Int.f kj3 t156 t157 8).bind fun bt160 => (if bt160.1 = a0 then ((octs_In_Ok.f bt160.2.1 bt160.2.2).bind fun bt163 => (if bt163.1 = true then ((waybilllaw1_awake.f kj3).bind fun t166 => (some t166)) else (none))) else (none))) else (none)) else (none)) else (none)) = some r := by first | (rw [hji19] at H; exact H) | (simp only [hji19] at H ⊢; exact H)
              (try rw [hji19] at A15)
              by_cases c20 : 0 ≤ (ji19)
              · rw [if_pos c20] at H
                have c20b0 := eq_true c20
                have c20b1 : decide (0 ≤ (ji19)) = true := decide_eq_true c20
                clear c20
                obtain ⟨ji21, hji21⟩ : ∃ j_ : Int, (shr .u8 (rd t148 (ji16)) (ji19)) = j_ := ⟨_, rfl⟩
                replace H : (if 0 ≤ (IntKind.u64.wrap (Go.bits .and .i64 a1 63)) then (if (((Go.bits .and .u8 (ji21) 1) == 1) == ((Go.bits .and .u64 (shr .u64 a0 (IntKind.u64.wrap (Go.bits .and .i64 a1 63))) 1) == 1)) = true then ((octs_In_Int.f kj3 t156 t157 8).bind fun bt160 => (if bt160.1 = a0 then ((octs_In_Ok.f bt160.2.1 bt160.2.2).bind fun bt163 => (if bt163.1 = true then ((waybilllaw1_awake.f kj3).bind fun t166 => (some t166)) else (none))) else (none))) else (none)) else (none)) = some r := by first | (rw [hji21] at H; exact H) | (simp only [hji21] at H ⊢; exact H)
                (try rw [hji21] at A15)
                have hji21_ : ((rd t148 (ji16)) / 2 ^ min (ji19).toNat 8) = ji21 := hji21
                have hji21z : (ji19) ≤ 8 → ((rd t148 (ji16)) / 2 ^ (ji19).toNat) = ji21 := shr_small hji21
                obtain ⟨ji22, hji22⟩ : ∃ j_ : Int, (IntKind.u64.wrap (Go.bits .and .i64 a1 63)) = j_ := ⟨_, rfl⟩
                replace H : (if 0 ≤ (ji22) then (if (((Go.bits .and .u8 (ji21) 1) == 1) == ((Go.bits .and .u64 (shr .u64 a0 (ji22)) 1) == 1)) = true then ((octs_In_Int.f kj3 t156 t157 8).bind fun bt160 => (if bt160.1 = a0 then ((octs_In_Ok.f bt160.2.1 bt160.2.2).bind fun bt163 => (if bt163.1 = true then ((waybilllaw1_awake.f kj3).bind fun t166 => (some t166)) else (none))) else (none))) else (none)) else (none)) = some r := by first | (rw [hji22] at H; exact H) | (simp only [hji22] at H ⊢; exact H)
                (try rw [hji22] at A15)
                by_cases c23 : 0 ≤ (ji22)
                · rw [if_pos c23] at H
                  have c23b0 := eq_true c23
                  have c23b1 : decide (0 ≤ (ji22)) = true := decide_eq_true c23
                  clear c23
                  obtain ⟨ji24, hji24⟩ : ∃ j_ : Int, (shr .u64 a0 (ji22)) = j_ := ⟨_, rfl⟩
                  replace H : (if (((Go.bits .and .u8 (ji21) 1) == 1) == ((Go.bits .and .u64 (ji24) 1) == 1)) = true then ((octs_In_Int.f kj3 t156 t157 8).bind fun bt160 => (if bt160.1 = a0 then ((octs_In_Ok.f bt160.2.1 bt160.2.2).bind fun bt163 => (if bt163.1 = true then ((waybilllaw1_awake.f kj3).bind fun t166 => (some t166)) else (none))) else (none))) else (none)) = some r := by first | (rw [hji24] at H; exact H) | (simp only [hji24] at H ⊢; exact H)
                  (try rw [hji24] at A15)
                  have hji24_ : (a0 / 2 ^ min (ji22).toNat 64) = ji24 := hji24
                  have hji24z : (ji22) ≤ 64 → (a0 / 2 ^ (ji22).toNat) = ji24 := shr_small hji24
                  by_cases c25 : (((Go.bits .and .u8 (ji21) 1) == 1) == ((Go.bits .and .u64 (ji24) 1) == 1)) = true
                  · rw [if_pos c25] at H
                    have c25b0 : (((Go.bits .and .u8 (ji21) 1) == 1) == ((Go.bits .and .u64 (ji24) 1) == 1)) = true := c25
                    (try (have c25b1 : decide (((Go.bits .and .u8 (ji21) 1) == 1) = ((Go.bits .and .u64 (ji24) 1) == 1)) = true := by simpa using c25))
                    (try (have c25b2 : (((Go.bits .and .u8 (ji21) 1) == 1) == ((Go.bits .and .u64 (ji24) 1) == 1)) = true := by simpa using c25))
                    clear c25
                    replace H := Option.bind_eq_some_iff.mp H
                    obtain ⟨⟨t160, t161, t162⟩, A260, H⟩ := H
                    replace H : (if t160 = a0 then ((octs_In_Ok.f t161 t162).bind fun bt163 => (if bt163.1 = true then ((waybilllaw1_awake.f kj3).bind fun t166 => (some t166)) else (none))) else (none)) = some r := H
                    have A26 := Aside0.mk A260
                    clear A260
                    by_cases c27 : t160 = a0
                    · rw [if_pos c27] at H
                      have c27b0 : (t160 == a0) = true := beq_iff_eq.mpr c27
                      have c27b1 : (t160 != a0) = false := bne_eq_false_iff_eq.mpr c27
                      clear c27
                      replace H := Option.bind_eq_some_iff.mp H
                      obtain ⟨⟨t163, t164, t165⟩, A280, H⟩ := H
                      replace H : (if t163 = true then ((waybilllaw1_awake.f kj3).bind fun t166 => (some t166)) else (none)) = some r := H
                      have A28 := Aside0.mk A280
                      clear A280
                      by_cases c29 : t163 = true
                      · subst c29
                        have H1 : ((waybilllaw1_awake.f kj3).bind fun t166 => (some t166)) = some r := by rw [if_pos rfl] at H; exact H
                        clear H
                        have H := H1
                        clear H1
                        replace H := Option.bind_eq_some_iff.mp H
                        obtain ⟨t166, A300, H⟩ := H
                        replace H : (some t166) = some r := H
                        have A30 := Aside0.mk A300
                        clear A300
                        obtain rfl := Option.some.inj H
                        obtain ⟨Ao32, co32, eo32⟩ := Kd.R_slice HO_5.out
                        subst eo32
                        have q31 : (1 : Int) ≤ ((t148.length : Int) : Int) := of_decide_eq_true (by first | (with_reducible assumption) | assumption)
                        obtain ⟨i031, hi031, _, hsz31, _⟩ := info_parts info5
                        have hroom31 : t148.length ≤ co32 := (Kd.R_reads' HO_5.out).2.1
                        have hC31 : Kd.C (Kd.int .u8) _ Ao32 t148.length t148 := (Kd.R_reads' HO_5.out).2.2
                        have hcut31 := cut_from (P := Try.prog) 26 5 .i64 Try.underlying26 hi031 1 hsz31 Ao32 t148.length co32 1 (by omega) q31
                        have hr31 := Kd.C_drop (m := (1 : Int).toNat) (c := co32) hC31 (by omega) hroom31
                        obtain ⟨A31, hA31⟩ : ∃ A1, A1 = (if co32 = (1 : Int).toNat then Ao32 else (Ao32 : Option Addr).map (·.add ((1 : Int).toNat * 1))) := ⟨_, rfl⟩
                        obtain ⟨c31, hc31⟩ : ∃ c1, c1 = co32 - (1 : Int).toNat := ⟨_, rfl⟩
                        have hy31 : y152.length = t148.length - (1 : Int).toNat := (by rw [Ny152.out, List.length_drop] <;> omega)
                        rw [show (t148).drop (1 : Int).toNat = y152 from Ny152.out.symm] at hr31
                        replace hr31 : Kd.C (Kd.int .u8) _ A31 y152.length y152 := (by rw [hA31]; exact hr31)
                        rw [← hy31, ← hA31, ← hc31] at hcut31
                        have HR155 := Aside0.mk hr31
                        have HC155 := Aside0.mk (show y152.length ≤ c31 from by rw [hy31, hc31]; exact Nat.sub_le_sub_right hroom31 _)
                        clear hr31 hC31 hroom31 hi031 hsz31 hc31
                        have KY31 := Aside0.mk hy31
                        have KA31 := Aside0.mk hA31
                        clear hy31 hA31
                        have KL31 := Aside0.mk (show 1 ≤ t148.length from by omega)
                        replace q31 := eq_true q31
                        go_wp2_with (first | ((with_reducible refine gate_callee (f := 25) rfl ?_); refine goesL_ (some 24) rfl rfl Try.func25 (by kernel_rfl) rfl #[.slice A31 y152.length c31] rfl (by (try simp only [List.map_toArray, List.map_cons, List.map_nil]); first | done | rfl | (simp only [List.length_drop, List.length_take]; rfl)) ?_; (with_reducible refine (octs_From.callsB _ _ y152 t156 t157 w _ ?side1 ?side2 ?side3 A15.out).mono ?_); (case side1 => repeat (first | (with_reducible first | exact HB.out | apply below_alloc | apply pw_below_drewN | apply below_drew1) | exact HB.out)); (case side2 => repeat (first | exact (by repeat (first | (with_reducible exact HR155.out) | (with_reducible refine Kd.C_alloc ?_ _) | (with_reducible refine Kd.C_drewN ?_ _) | (with_reducible refine Kd.C_drew ?_) | exact HR155.out)) | (with_reducible refine Kd.C_alloc ?_ _) | (with_reducible refine Kd.C_drewN ?_ _) | (with_reducible refine Kd.C_drew ?_))); (case side3 => exact HC155.out); rintro e w33 ⟨g158, rfl, hi, hb, hb2, hge⟩; refine ⟨_, rfl, ?_⟩; have n0_ := Aside0.mk (Kd.R_below (by (with_reducible repeat (first | apply Kd.R_alloc | apply Kd.R_drewN | apply Kd.R_drew)); exact HO_5.out) hb2); have n1_ := Aside0.mk (Kd.C_below (by repeat (first | (with_reducible exact HR155.out) | (with_reducible refine Kd.C_alloc ?_ _) | (with_reducible refine Kd.C_drewN ?_ _) | (with_reducible refine Kd.C_drew ?_) | exact HR155.out)) hb2); have n2_ := Aside0.mk (hb); have n3_ := Aside0.mk (hi); clear HO_5; clear HR155; clear HB; have HO_5 := n0_; have HR155 := n1_; have HB := n2_; have HI158 := n3_; clear n0_ n1_ n2_ n3_; (try clear hb); (try clear hb2); (try clear hk); (try clear hi); (try clear hge); have p159 : 0 ≤ ((ji16) : Int) := of_decide_eq_true (by first | (with_reducible assumption) | assumption); have q159 : (ji16) < (t148.length : Int) := of_decide_eq_true (by first | (with_reducible assumption) | assumption); obtain ⟨ad159, e159, hx159_0⟩ := Kd.at_int (Kd.R_reads' HO_5.out).2.2 (ji16) p159 q159; cases e159; replace p159 := eq_true p159; replace q159 := eq_true q159) | (go_at_call 26; (with_reducible refine (octs_In_Int.callsB kj3 g158 t156 t157 8 t160 t161 t162 w _ ?side1 ?side2 A26.out).mono ?_); (case side1 => repeat (first | (with_reducible first | exact HI158.out | apply IsB91.alloc | apply IsB91.drewN | apply IsB91.drew | apply IsB91.set_1) | exact HI158.out)); (case side2 => repeat (first | (with_reducible first | exact HB.out | apply below_alloc | apply pw_below_drewN | apply below_drew1 | refine below_set ?_ (IsB91.ge HI158.out)) | exact HB.out)); rintro e w34 ⟨rfl, hi, hb, hk⟩; have n0_ := Aside0.mk (Kd.R_mono (Kd.R_keep (IsB91.apart (show IsB91 w _ g158 t156 t157 from by repeat (first | (with_reducible first | exact HI158.out | apply IsB91.alloc | apply IsB91.drewN | apply IsB91.drew | apply IsB91.set_1) | exact HI158.out)) (by (with_reducible repeat (first | apply Kd.R_alloc | apply Kd.R_drewN | apply Kd.R_drew)); exact HO_5.out) (by decide)) hk (fun _ h => h.2)) (fun _ h => h.1)); have n1_ := Aside0.mk (hb); have n2_ := Aside0.mk (hi); clear HO_5; clear HB; clear HI158; have HO_5 := n0_; have HB := n1_; have HI158 := n2_; clear n0_ n1_ n2_; (try clear hb); (try clear hb2); (try clear hk); (try clear hi); (try clear hge)) | (go_at_call 27; (with_reducible refine (octs_In_Ok.callsB g158 t161 t162 true t164 t165 w _ ?side1 ?side2 A28.out).mono ?_); (case side1 => repeat (first | (with_reducible first | exact HI158.out | apply IsB91.alloc | apply IsB91.drewN | apply IsB91.drew | apply IsB91.set_1) | exact HI158.out)); (case side2 => repeat (first | (with_reducible first | exact HB.out | apply below_alloc | apply pw_below_drewN | apply below_drew1 | refine below_set ?_ (IsB91.ge HI158.out)) | exact HB.out)); rintro e w35 ⟨rfl, hi, hb, hk⟩; have n0_ := Aside0.mk (Kd.R_mono (Kd.R_keep (IsB91.apart (show IsB91 w _ g158 t161 t162 from by repeat (first | (with_reducible first | exact HI158.out | apply IsB91.alloc | apply IsB91.drewN | apply IsB91.drew | apply IsB91.set_1) | exact HI158.out)) (by (with_reducible repeat (first | apply Kd.R_alloc | apply Kd.R_drewN | apply Kd.R_drew)); exact HO_5.out) (by decide)) hk (fun _ h => h.2)) (fun _ h => h.1)); have n1_ := Aside0.mk (hb); have n2_ := Aside0.mk (hi); clear HO_5; clear HB; clear HI158; have HO_5 := n0_; have HB := n1_; have HI158 := n2_; clear n0_ n1_ n2_; (try clear hb); (try clear hb2); (try clear hk); (try clear hi); (try clear hge)) | (go_at_call 28; (with_reducible refine (waybilllaw1_awake.calls kj3  t166 _ A30.out).mono ?_); rintro e w36 ⟨rfl, hb⟩; have n0_ := Aside0.mk (Kd.R_below (by (with_reducible repeat (first | apply Kd.R_alloc | apply Kd.R_drewN | apply Kd.R_drew)); exact HO_5.out) hb); have n1_ := Aside0.mk (IsB91.below (by repeat (first | (with_reducible first | exact HI158.out | apply IsB91.alloc | apply IsB91.drewN | apply IsB91.drew | apply IsB91.set_1) | exact HI158.out)) hb); have n2_ := Aside0.mk (below_step (by repeat (first | (with_reducible first | exact HB.out | apply below_alloc | apply pw_below_drewN | apply below_drew1 | refine below_set ?_ (IsB91.ge HI158.out)) | exact HB.out)) hb); clear HO_5; clear HI158; clear HB; have HO_5 := n0_; have HI158 := n1_; have HB := n2_; clear n0_ n1_ n2_; (try clear hb); (try clear hb2); (try clear hk); (try clear hi); (try clear hge)))
                        all_goals first | (go_ret; exact ⟨by first | rfl | (simp [errW_none, errW_some]; done) | (simp [errW_none, errW_some]; rfl) | (simp only [← hji16, ← hji19, ← hji21, ← hji22, ← hji24]; first | rfl | (simp [errW_none, errW_some]; done) | (simp [errW_none, errW_some]; rfl)) | (simp [*, errW_none, errW_some]; done) | (simp [*, errW_none, errW_some]; rfl), by repeat (first | (with_reducible first | exact HB.out | apply below_alloc | apply pw_below_drewN | apply below_drew1 | refine below_set ?_ (IsB91.ge HI158.out)) | exact HB.out)⟩) | (exfalso; simp_all; done)
                      · replace c29 := Bool.eq_false_iff.mpr c29
                        subst c29
                        have H1 : (none) = some r := by rw [if_neg (show ¬ (false = true) by decide)] at H; exact H
                        clear H
                        have H := H1
                        clear H1
                        exact absurd H (by simp)
                    · rw [if_neg c27] at H
                      exact absurd H (by simp)
                  · rw [if_neg c25] at H
                    exact absurd H (by simp)
                · rw [if_neg c23] at H
                  exact absurd H (by simp)
              · rw [if_neg c20] at H
                exact absurd H (by simp)
            · rw [if_neg c18] at H
              exact absurd H (by simp)
          · rw [if_neg c17] at H
            exact absurd H (by simp)
        · rw [if_neg c14] at H
          exact absurd H (by simp)

/-- THE ONE PURE STATEMENT of waybilllaw1_OctsBits: yours. -/
def waybilllaw1_OctsBits.Pure : Prop := ∀ (a0 : Int) (a1 : Int), (Lit.int .u64 a0).wf = true → (Lit.int .i64 a1).wf = true → ∃ k, waybilllaw1_OctsBits.f k a0 a1 = some true
theorem waybilllaw1_OctsBits.walk (P : waybilllaw1_OctsBits.Pure) (a0 : Int) (a1 : Int) (w : World) (w0 : (Lit.int .u64 a0).wf = true) (w1 : (Lit.int .i64 a1).wf = true) :
    Calls Try.prog 5 #[.int .u64 a0, .int .i64 a1] w fun e w' => e = .returned (.bool true) ∧ Below w.heap.size w w' := by
  obtain ⟨k, h⟩ := P a0 a1 w0 w1
  refine (waybilllaw1_OctsBits.calls k a0 a1 true w h).mono ?_
  rintro e w' ⟨rfl, hd⟩
  exact ⟨rfl, hd⟩

end Go.Proofs.Ytlhcjgmdcnmnnaa.PA
