/- What functions of the given program come to, and that they do: written out of the translation by a program of this session; Lean checks it. -/
import Derived.Test.YtpjkaodbcclecaaPUx0
import Derived.Test.YtpjkaodbcclecaaPUx12
namespace Go.Proofs.Ytpjkaodbcclecaa.PU
open Go.RowKit Go.Proofs.YtpjkaodbcclecaaW.PrintWords Go.Proofs.YtpjkaodbcclecaaW.PrintLast Go.Proofs.YtpjkaodbcclecaaW.PrintMore
attribute [local go_sem] max2_int min2_int max_two min_two max_three min_three max_four min_four   -- for this text's walks alone
set_option linter.unusedVariables false
set_option linter.unusedSimpArgs false

/-! ### waybillref7_Ops: function 25 -/
def waybillref7_Ops.l0 : Nat → List Int → List (S51) → List (S38) → Int → Option ((List (S38)) × Bool)
  | 0, _, _, _, _ => none
  | k + 1, x0, x4, x6, x7 => if x7 < (x4.length : Int) then (if 0 ≤ x7 then (if ((rd_T51 x4 x7).f1 = true) then (if x6.length < 2932031007402 then (waybillref7_Ops.l0 k x0 x4 (x6 ++ [(⟨(rd_T51 x4 x7).f0, (rd_T51 x4 x7).f1, ([] : List Int)⟩ : S38)]) (wrap64 (x7 + 1))) else (none)) else (if 0 ≤ ((rd_T51 x4 x7).f2) then (if ((rd_T51 x4 x7).f2) ≤ (wrap64 (((rd_T51 x4 x7).f2) + ((rd_T51 x4 x7).f3))) then (if (wrap64 (((rd_T51 x4 x7).f2) + ((rd_T51 x4 x7).f3))) ≤ (x0.length : Int) then (if x6.length < 2932031007402 then (waybillref7_Ops.l0 k x0 x4 (x6 ++ [(⟨(rd_T51 x4 x7).f0, (rd_T51 x4 x7).f1, ((x0.take ((wrap64 (((rd_T51 x4 x7).f2) + ((rd_T51 x4 x7).f3))) : Int).toNat).drop (((rd_T51 x4 x7).f2) : Int).toNat)⟩ : S38)]) (wrap64 (x7 + 1))) else (none)) else (none)) else (none)) else (none))) else (none)) else (some (x6, true))
def waybillref7_Ops.f (k : Nat) (l0 : List Int) : Option ((List (S38)) × Bool) := (waybillref7_Places.f k l0).bind fun bt294 => (if bt294.2 = true then (waybillref7_Ops.l0 k l0 bt294.1 ([] : List (S38)) 0) else (some (([] : List (S38)), false)))
theorem waybillref7_Ops.mono_l : ∀ k, (∀ y0 y1 y2 y3, LeO (waybillref7_Ops.l0 k y0 y1 y2 y3) (waybillref7_Ops.l0 (k + 1) y0 y1 y2 y3))
  | 0 => fun _ _ _ _ r h => by simp [waybillref7_Ops.l0] at h
  | k + 1 => by
    have ih0 := waybillref7_Ops.mono_l k
    · intro y0 y1 y2 y3
      unfold waybillref7_Ops.l0
      repeat' first
      | (with_reducible exact ih0 _ _ _ _)
      | (with_reducible exact waybillref7_Places.mono _ _)
      | (with_reducible exact LeO.refl _)
      | (with_reducible exact LeO.none _)
      | (with_reducible refine LeO.ite ?_ ?_)
      | (with_reducible refine LeO.bind ?_ (fun _ => ?_))
      | exact ih0 _ _ _ _
      | exact waybillref7_Places.mono _ _
      | exact LeO.none _
      | refine LeO.ite ?_ ?_
      | refine LeO.bind ?_ (fun _ => ?_)
theorem waybillref7_Ops.mono : ∀ a0 k, LeO (waybillref7_Ops.f k a0) (waybillref7_Ops.f (k + 1) a0) := by
  intro a0 k
  have ih0 := waybillref7_Ops.mono_l k
  unfold waybillref7_Ops.f
  repeat' first
      | (with_reducible exact ih0 _ _ _ _)
      | (with_reducible exact waybillref7_Places.mono _ _)
      | (with_reducible exact LeO.refl _)
      | (with_reducible exact LeO.none _)
      | (with_reducible refine LeO.ite ?_ ?_)
      | (with_reducible refine LeO.bind ?_ (fun _ => ?_))
      | exact ih0 _ _ _ _
      | exact waybillref7_Places.mono _ _
      | exact LeO.none _
      | refine LeO.ite ?_ ?_
      | refine LeO.bind ?_ (fun _ => ?_)
def waybillref7_Ops.T8 : Bool × List (List Nat × List Nat) := (true, [([], []), ([], []), ([0, 1], [0, 1]), ([2], [2]), ([3], [3]), ([], []), ([], []), ([5, 6], [5, 6]), ([7], [7]), ([8], [8]), ([4, 9], [4, 9]), ([], []), ([11, 10, 0, 1, 2, 3, 4, 5, 6, 7, 8, 9, 10, 11], [10, 11])])
def waybillref7_Ops.B8 : List Nat := [0, 0, 3, 7, 15, 0, 0, 96, 224, 480, 1023, 0, 4095]
theorem waybillref7_Ops.tab8 : rtab .any (opsOf Try.f25 8) = waybillref7_Ops.T8 := by kernel_rfl
theorem waybillref7_Ops.bits8 : waitsOk waybillref7_Ops.T8.2 waybillref7_Ops.B8 = true := by kernel_rfl
def waybillref7_Ops.T10 : Bool × List (List Nat × List Nat) := (true, [([], []), ([], []), ([], []), ([1, 2], [1, 2]), ([3], [3]), ([4], [4]), ([], []), ([], []), ([6, 7], [6, 7]), ([8], [8]), ([9], [9]), ([], []), ([], []), ([11, 12], [11, 12]), ([13], [13]), ([14], [14]), ([10, 15], [10, 15]), ([0, 5, 16], [0, 5, 16]), ([0, 1, 2, 3, 4, 5, 6, 7, 8, 9, 10, 11, 12, 13, 14, 15, 16, 17], []), ([18, 17, 0, 1, 2, 3, 4, 5, 6, 7, 8, 9, 10, 11, 12, 13, 14, 15, 16, 17], [17, 18])])
def waybillref7_Ops.B10 : List Nat := [0, 0, 0, 6, 14, 30, 0, 0, 192, 448, 960, 0, 0, 6144, 14336, 30720, 65472, 131071, 262143, 524287]
theorem waybillref7_Ops.tab10 : rtab .any (opsOf Try.f25 10) = waybillref7_Ops.T10 := by kernel_rfl
theorem waybillref7_Ops.bits10 : waitsOk waybillref7_Ops.T10.2 waybillref7_Ops.B10 = true := by kernel_rfl
set_option maxHeartbeats 8000000 in
set_option maxRecDepth 100000 in
theorem waybillref7_Ops.calls (k : Nat) (P0_ : Nat → Prop) (A0 : Option Addr) (c0 : Nat) (l0 : List Int) (r1 : List (S38)) (r2 : Bool) (w : World) (hs0 : Kd.V (Kd.int .u8) 5 w w.heap.size (fun k_ => P0_ k_) (.slice A0 l0.length c0) l0) (h : waybillref7_Ops.f k l0 = some (r1, r2)) :
    Calls Try.prog 25 #[.slice A0 l0.length c0] w fun e w' => ∃ v0_ : Value, e = .returned (.tuple #[v0_, .bool r2]) ∧ Kd.N k38 38 w' w.heap.size (fun k_ => (P0_ k_ ∨ w.heap.size ≤ k_)) v0_ r1 ∧ Below w.heap.size w w' := by
  have hu38 := Try.underlying38
  have HO0 := Aside0.mk (show Kd.V (Kd.int .u8) 5 w w.heap.size (fun k_ => (P0_ k_ ∨ w.heap.size ≤ k_)) (.slice A0 l0.length c0) l0 from Kd.V_mono hs0 (fun k_ hk => .inl hk))
  have HB := Aside0.mk (Below.refl w.heap.size w)
  have H : ((waybillref7_Places.f k l0).bind fun bt294 => (if bt294.2 = true then (waybillref7_Ops.l0 k l0 bt294.1 ([] : List (S38)) 0) else (some (([] : List (S38)), false)))) = some (r1, r2) := h
  clear h
  replace H := Option.bind_eq_some_iff.mp H
  obtain ⟨⟨t294, t295⟩, A20, H⟩ := H
  replace H : (if t295 = true then (waybillref7_Ops.l0 k l0 t294 ([] : List (S38)) 0) else (some (([] : List (S38)), false))) = some (r1, r2) := H
  have A2 := Aside0.mk A20
  clear A20
  by_cases c3 : t295 = true
  · subst c3
    have H1 : (waybillref7_Ops.l0 k l0 t294 ([] : List (S38)) 0) = some (r1, r2) := by rw [if_pos rfl] at H; exact H
    clear H
    have H := H1
    clear H1
    have H' := Aside0.mk H
    clear H
    go_enter Try.func25, Try.ntmps25
    go_wp2_with (first | ((with_reducible refine gate_callee (f := 27) rfl ?_); refine goesL_ (some 11) rfl rfl Try.func27 (by kernel_rfl) rfl #[.slice A0 l0.length c0] rfl (by (try simp only [List.map_toArray, List.map_cons, List.map_nil]); first | done | rfl | (simp only [List.length_drop, List.length_take]; rfl)) ?_; (with_reducible refine (waybillref7_Places.calls k _ _ l0 t294 true _ ?side1 ?side2 A2.out).mono ?_); (case side1 => repeat (first | exact (Kd.V_reads' HO0.out).2.2 | (with_reducible refine Kd.C_alloc ?_ _) | (with_reducible refine Kd.C_drewN ?_ _) | (with_reducible refine Kd.C_drew ?_))); (case side2 => exact (Kd.V_reads' HO0.out).2.1); rintro e w4 ⟨v296, rfl, ho0, hb⟩; refine ⟨_, rfl, ?_⟩; have n0_ := Aside0.mk (Kd.V_elder' (by (with_reducible repeat (first | apply Kd.V_alloc | apply Kd.V_drewN | apply Kd.V_drew)); exact HO0.out) (Kd.R_base ho0) hb); have n1_ := Aside0.mk (Kd.R_lower (Kd.R_newM (M := fun k_ => (w.heap.size ≤ k_)) ho0 (below_size (by repeat (first | (with_reducible first | exact HB.out | apply below_alloc | apply pw_below_drewN | apply below_drew1) | exact HB.out))) (fun k_ h_ => h_)) (below_size (by repeat (first | (with_reducible first | exact HB.out | apply below_alloc | apply pw_below_drewN | apply below_drew1) | exact HB.out)))); have n2_ := Aside0.mk (below_step (by repeat (first | (with_reducible first | exact HB.out | apply below_alloc | apply pw_below_drewN | apply below_drew1) | exact HB.out)) hb); clear HO0; clear HB; have HO0 := n0_; have HO297 := n1_; have HB := n2_; clear n0_ n1_ n2_; (try clear hb); (try clear hb2); (try clear hk); (try clear hi); (try clear hge); (try clear ho0)))
    go_loopg [6, 7] k (fun kq v6 v7 w' => ∃ (x6_1 : List (S38)) (x7_1 : Int), v7 = .int .i64 x7_1 ∧ Aside0 (waybillref7_Ops.l0 kq l0 t294 x6_1 x7_1 = some (r1, r2)) ∧ Aside0 (kq ≤ k) ∧ Aside0 (Kd.V (Kd.int .u8) 5 w' w.heap.size (fun k_ => (P0_ k_ ∨ w.heap.size ≤ k_) ∧ some k_ ≠ (v296 : Value).ownBlock ∧ some k_ ≠ (v6 : Value).ownBlock) (.slice A0 l0.length c0) l0) ∧ Aside0 (Kd.R k51 51 w' w.heap.size (fun k_ => (w.heap.size ≤ k_)) v296 t294) ∧ Aside0 (Kd.N k38 38 w' w.heap.size (fun k_ => (P0_ k_ ∨ w.heap.size ≤ k_) ∧ some k_ ≠ (v296 : Value).ownBlock) v6 x6_1) ∧ Aside0 (Below w.heap.size w w'))
    case atStart => exact ⟨(([] : List (S38))), (0), (by first | rfl | (simp; done) | (simp [*]; done)), H', ⟨Nat.le_refl _⟩, ⟨by (with_reducible repeat (first | apply Kd.V_alloc | apply Kd.V_drewN | apply Kd.V_drew)); exact Kd.V_mono HO0.out (fun _ hk => ⟨hk.1, ⟨hk.2, (by simp [Value.ownBlock])⟩⟩)⟩, ⟨by (with_reducible repeat (first | apply Kd.R_alloc | apply Kd.R_drewN | apply Kd.R_drew)); exact Kd.R_mono HO297.out (fun _ hk => hk.1)⟩, ⟨by first | exact Kd.S_nil _ _ _ _ _ | exact Kd.N_nil _ _ _ _ _ | exact Kd.V_nil _ _ _ _ _ | exact Kd.Q_nil _ _ _ _ _ | exact Kd.R_nil _ _ _ _ _⟩, ⟨by repeat (first | (with_reducible first | exact HB.out | apply below_alloc | apply pw_below_drewN | apply below_drew1) | exact HB.out)⟩⟩
    case round =>
      clear H'
      try clear c2
      try clear p2
      try clear c3
      obtain ⟨x6_1, x7_1, rfl, HA, HK1, HO_0, HO_4, HO_6, HB⟩ := hrel
      cases gk with
      | zero => exact absurd HA.out (by simp [waybillref7_Ops.l0])
      | succ k1 =>
        have H := HA.out
        clear HA
        simp only [waybillref7_Ops.l0] at H
        by_cases c5 : x7_1 < (t294.length : Int)
        · rw [if_pos c5] at H
          have c5b0 : decide (x7_1 < (t294.length : Int)) = true := decide_eq_true c5
          clear c5
          by_cases c6 : 0 ≤ x7_1
          · rw [if_pos c6] at H
            have c6b0 : decide (0 ≤ x7_1) = true := decide_eq_true c6
            clear c6
            obtain ⟨bq7, hbq7⟩ : ∃ b_ : Bool, b_ = ((rd_T51 t294 x7_1).f1) := ⟨_, rfl⟩
            replace H : (if (bq7 = true) then (if x6_1.length < 2932031007402 then (waybillref7_Ops.l0 k1 l0 t294 (x6_1 ++ [(⟨(rd_T51 t294 x7_1).f0, bq7, ([] : List Int)⟩ : S38)]) (wrap64 (x7_1 + 1))) else (none)) else (if 0 ≤ ((rd_T51 t294 x7_1).f2) then (if ((rd_T51 t294 x7_1).f2) ≤ (wrap64 (((rd_T51 t294 x7_1).f2) + ((rd_T51 t294 x7_1).f3))) then (if (wrap64 (((rd_T51 t294 x7_1).f2) + ((rd_T51 t294 x7_1).f3))) ≤ (l0.length : Int) then (if x6_1.length < 2932031007402 then (waybillref7_Ops.l0 k1 l0 t294 (x6_1 ++ [(⟨(rd_T51 t294 x7_1).f0, bq7, ((l0.take ((wrap64 (((rd_T51 t294 x7_1).f2) + ((rd_T51 t294 x7_1).f3))) : Int).toNat).drop (((rd_T51 t294 x7_1).f2) : Int).toNat)⟩ : S38)]) (wrap64 (x7_1 + 1))) else (none)) else (none)) else (none)) else (none))) = some (r1, r2) := by rw [← hbq7] at H; exact H
            have Nbq7 := Aside0.mk hbq7
            clear hbq7
            by_cases c8 : (bq7 = true)
            · subst c8
              have H1 : (if x6_1.length < 2932031007402 then (waybillref7_Ops.l0 k1 l0 t294 (x6_1 ++ [(⟨(rd_T51 t294 x7_1).f0, true, ([] : List Int)⟩ : S38)]) (wrap64 (x7_1 + 1))) else (none)) = some (r1, r2) := by rw [if_pos rfl] at H; exact H
              clear H
              have H := H1
              clear H1
              by_cases c9 : x6_1.length < 2932031007402
              · rw [if_pos c9] at H
                have LMc9 := Aside0.mk c9
                clear c9
                obtain ⟨y301, hy301⟩ : ∃ y_ : List (S38), y_ = (x6_1 ++ [(⟨(rd_T51 t294 x7_1).f0, true, ([] : List Int)⟩ : S38)]) := ⟨_, rfl⟩
                replace H : (waybillref7_Ops.l0 k1 l0 t294 y301 (wrap64 (x7_1 + 1))) = some (r1, r2) := by first | (rw [hy301]; with_reducible exact H) | (have H2_ := (Option.bind_some _ _).symm.trans H; rw [hy301]; with_reducible exact H2_) | (have H2_ := (Option.bind_some _ _).symm.trans H; with_reducible exact H2_) | with_reducible exact H | (rw [hy301]; exact H) | exact H
                have Ny301 := Aside0.mk hy301
                clear hy301
                have H' := Aside0.mk H
                clear H
                obtain ⟨Ao10, co10, eo10⟩ := Kd.R_slice HO_4.out
                subst eo10
                try go_wp2
                have n0_ := Aside0.mk (Kd.V_drew HO_0.out)
                have n1_ := Aside0.mk (Kd.R_drew HO_4.out)
                have n2_ := Aside0.mk (Kd.N_drew HO_6.out)
                have n3_ := Aside0.mk (below_drew1 HB.out)
                clear HO_0
                clear HO_4
                clear HO_6
                clear HB
                have HO_0 := n0_
                have HO_4 := n1_
                have HO_6 := n2_
                have HB := n3_
                clear n0_ n1_ n2_ n3_
                have p298 : 0 ≤ (x7_1 : Int) := of_decide_eq_true (by first | (with_reducible assumption) | assumption)
                have q298 : x7_1 < (t294.length : Int) := of_decide_eq_true (by first | (with_reducible assumption) | assumption)
                obtain ⟨ad298, e298, hx298_0, hx298_1, hx298_2, hx298_3⟩ := at_T51 (Kd.R_reads' HO_4.out).2.2 x7_1 p298 q298
                (try rw [← Nbq7.out] at hx298_1)
                cases e298
                replace p298 := eq_true p298
                replace q298 := eq_true q298
                have p299 : 0 ≤ (x7_1 : Int) := of_decide_eq_true (by first | (with_reducible assumption) | assumption)
                have q299 : x7_1 < (t294.length : Int) := of_decide_eq_true (by first | (with_reducible assumption) | assumption)
                obtain ⟨ad299, e299, hx299_0, hx299_1, hx299_2, hx299_3⟩ := at_T51 (Kd.R_reads' HO_4.out).2.2 x7_1 p299 q299
                (try rw [← Nbq7.out] at hx299_1)
                obtain rfl : ad298 = ad299 := (by injection e299)
                replace p299 := eq_true p299
                replace q299 := eq_true q299
                refine start_ (n := 13) (S := fun w' => w'.cell? (ad298.add ((x7_1).toNat * 4)) = some (.string ((rd_T51 t294 x7_1).f0)) ∧ w'.cell? ⟨(ad298.add ((x7_1).toNat * 4)).block, (ad298.add ((x7_1).toNat * 4)).off + 1, none⟩ = some (.bool true) ∧ w'.cell? ⟨(ad298.add ((x7_1).toNat * 4)).block, (ad298.add ((x7_1).toNat * 4)).off + 2, none⟩ = some (.int .i64 ((rd_T51 t294 x7_1).f2)) ∧ w'.cell? ⟨(ad298.add ((x7_1).toNat * 4)).block, (ad298.add ((x7_1).toNat * 4)).off + 3, none⟩ = some (.int .i64 ((rd_T51 t294 x7_1).f3)) ∧ w'.cell? (ad298.add ((x7_1).toNat * 4)) = some (.string ((rd_T51 t294 x7_1).f0)) ∧ w'.cell? ⟨(ad298.add ((x7_1).toNat * 4)).block, (ad298.add ((x7_1).toNat * 4)).off + 1, none⟩ = some (.bool true) ∧ w'.cell? ⟨(ad298.add ((x7_1).toNat * 4)).block, (ad298.add ((x7_1).toNat * 4)).off + 2, none⟩ = some (.int .i64 ((rd_T51 t294 x7_1).f2)) ∧ w'.cell? ⟨(ad298.add ((x7_1).toNat * 4)).block, (ad298.add ((x7_1).toNat * 4)).off + 3, none⟩ = some (.int .i64 ((rd_T51 t294 x7_1).f3))) (ds := []) #[false, false, false, false, false, false, false, false, false, false, false, false, false] (by kernel_rfl) rfl rfl ⟨hx298_0, hx298_1, hx298_2, hx298_3, hx299_0, hx299_1, hx299_2, hx299_3⟩ (fun hHeld => ?_); refine with_tabW waybillref7_Ops.tab8 waybillref7_Ops.bits8 (fun HT_ HW_ => ?_)
                generalize wr.drew = w11 at HO_0 HO_4 HO_6 HB hx298_0 hx298_1 hx298_2 hx298_3 hx299_0 hx299_1 hx299_2 hx299_3 hHeld ⊢
                refine pure_ (i := 0) (N := some 22) (v := ?_) (a' := ?_) #[true, false, false, false, false, false, false, false, false, false, false, false, false] rfl rfl (any_of HT_.out (by kernel_rfl)) (fun _ _ _ h => h) (Or.inl ⟨by rfl, ?_⟩) ?_ ?_
                rotate_left
                · intro w'
                  go_simp
                  with_reducible rfl
                rotate_left
                · simp only [Act.put, List.setIfInBounds_toArray, List.set_cons_zero, List.set_cons_succ, i64_w, i32_w]
                  rfl
                refine pure_ (i := 1) (N := some 23) (v := ?_) (a' := ?_) #[true, true, false, false, false, false, false, false, false, false, false, false, false] rfl rfl (any_of HT_.out (by kernel_rfl)) (fun _ _ _ h => h) (Or.inl ⟨by rfl, ?_⟩) ?_ ?_
                rotate_left
                · intro w'
                  go_simp
                  with_reducible rfl
                rotate_left
                · simp only [Act.put, List.setIfInBounds_toArray, List.set_cons_zero, List.set_cons_succ, i64_w, i32_w]
                  rfl
                refine pure_ (i := 2) (N := some 24) (v := ?_) (a' := ?_) #[true, true, true, false, false, false, false, false, false, false, false, false, false] rfl rfl (any_of HT_.out (by kernel_rfl)) (fun _ _ _ h => h) (Or.inl ⟨by rfl, ?_⟩) ?_ ?_
                rotate_left
                · intro w'
                  go_simp
                  with_reducible rfl
                rotate_left
                · simp only [Act.put, List.setIfInBounds_toArray, List.set_cons_zero, List.set_cons_succ, i64_w, i32_w]
                  rfl
                refine pure_ (i := 3) (N := some 25) (v := ?_) (a' := ?_) #[true, true, true, true, false, false, false, false, false, false, false, false, false] rfl rfl (any_of HT_.out (by kernel_rfl)) (fun _ _ _ h => h) (Or.inl ⟨by rfl, ?_⟩) ?_ ?_
                rotate_left
                · intro w'
                  go_simp
                  with_reducible rfl
                rotate_left
                · simp only [Act.put, List.setIfInBounds_toArray, List.set_cons_zero, List.set_cons_succ, i64_w, i32_w]
                  rfl
                refine pure_ (i := 5) (N := some 27) (v := ?_) (a' := ?_) #[true, true, true, true, false, true, false, false, false, false, false, false, false] rfl rfl (any_of HT_.out (by kernel_rfl)) (fun _ _ _ h => h) (Or.inl ⟨by rfl, ?_⟩) ?_ ?_
                rotate_left
                · intro w'
                  go_simp
                  with_reducible rfl
                rotate_left
                · simp only [Act.put, List.setIfInBounds_toArray, List.set_cons_zero, List.set_cons_succ, i64_w, i32_w]
                  rfl
                refine pure_ (i := 6) (N := some 28) (v := ?_) (a' := ?_) #[true, true, true, true, false, true, true, false, false, false, false, false, false] rfl rfl (any_of HT_.out (by kernel_rfl)) (fun _ _ _ h => h) (Or.inl ⟨by rfl, ?_⟩) ?_ ?_
                rotate_left
                · intro w'
                  go_simp
                  with_reducible rfl
                rotate_left
                · simp only [Act.put, List.setIfInBounds_toArray, List.set_cons_zero, List.set_cons_succ, i64_w, i32_w]
                  rfl
                refine pure_ (i := 7) (N := some 29) (v := ?_) (a' := ?_) #[true, true, true, true, false, true, true, true, false, false, false, false, false] rfl rfl (any_of HT_.out (by kernel_rfl)) (fun _ _ _ h => h) (Or.inl ⟨by rfl, ?_⟩) ?_ ?_
                rotate_left
                · intro w'
                  go_simp
                  with_reducible rfl
                rotate_left
                · simp only [Act.put, List.setIfInBounds_toArray, List.set_cons_zero, List.set_cons_succ, i64_w, i32_w]
                  rfl
                refine pure_ (i := 8) (N := some 30) (v := ?_) (a' := ?_) #[true, true, true, true, false, true, true, true, true, false, false, false, false] rfl rfl (any_of HT_.out (by kernel_rfl)) (fun _ _ _ h => h) (Or.inl ⟨by rfl, ?_⟩) ?_ ?_
                rotate_left
                · intro w'
                  go_simp
                  with_reducible rfl
                rotate_left
                · simp only [Act.put, List.setIfInBounds_toArray, List.set_cons_zero, List.set_cons_succ, i64_w, i32_w]
                  rfl
                refine take_ (i := 4) (N := some 26) (v := ?_) (a' := ?_) #[true, true, true, true, true, true, true, true, true, false, false, false, false] rfl rfl (take_ofW HT_.out HW_.out (by kernel_rfl)) (fun _ _ _ h => h) (Or.inl ⟨by rfl, ?_⟩) hHeld ?_ ?_
                rotate_left
                · rintro w' ⟨s0, s1, s2, s3, s4, s5, s6, s7⟩
                  go_simp
                  with_reducible rfl
                rotate_left
                · simp only [Act.put, List.setIfInBounds_toArray, List.set_cons_zero, List.set_cons_succ, i64_w, i32_w]
                  rfl
                refine take_ (i := 9) (N := some 31) (v := ?_) (a' := ?_) #[true, true, true, true, true, true, true, true, true, true, false, false, false] rfl rfl (take_ofW HT_.out HW_.out (by kernel_rfl)) (fun _ _ _ h => h) (Or.inl ⟨by rfl, ?_⟩) hHeld ?_ ?_
                rotate_left
                · rintro w' ⟨s0, s1, s2, s3, s4, s5, s6, s7⟩
                  go_simp
                  with_reducible rfl
                rotate_left
                · simp only [Act.put, List.setIfInBounds_toArray, List.set_cons_zero, List.set_cons_succ, i64_w, i32_w]
                  rfl
                refine pure_ (i := 10) (N := some 32) (v := ?_) (a' := ?_) #[true, true, true, true, true, true, true, true, true, true, true, false, false] rfl rfl (any_of HT_.out (by kernel_rfl)) (fun _ _ _ h => h) (Or.inl ⟨by rfl, ?_⟩) ?_ ?_
                rotate_left
                · intro w'
                  go_simp
                  with_reducible rfl
                rotate_left
                · simp only [Act.put, List.setIfInBounds_toArray, List.set_cons_zero, List.set_cons_succ, i64_w, i32_w]
                  rfl
                refine one_ (i := 11) (N := some 8) #[true, true, true, true, true, true, true, true, true, true, true, true, false] rfl rfl (one_of HT_.out (by kernel_rfl)) (by decide) (fun K hK => ?_)
                refine box_step ?hg (N := 8) ?hd (cs := #[.string (⟨#[]⟩ : ByteArray), .bool false, .slice none 0 0]) (t := 38) ?hr ?_; (case hd => rfl); (case hg => rfl); (case hr => first | (go_simp; done) | (go_simp; rfl))
                intro gb300 hg w12 hbox hb
                have HS0_ := (hb.cell (World.block_lt_of_cell? _ _ (hHeld.1))).trans (hHeld.1)
                have HS1_ := (hb.cell (World.block_lt_of_cell? _ _ (hHeld.2.1))).trans (hHeld.2.1)
                have HS2_ := (hb.cell (World.block_lt_of_cell? _ _ (hHeld.2.2.1))).trans (hHeld.2.2.1)
                have HS3_ := (hb.cell (World.block_lt_of_cell? _ _ (hHeld.2.2.2.1))).trans (hHeld.2.2.2.1)
                have HS4_ := (hb.cell (World.block_lt_of_cell? _ _ (hHeld.2.2.2.2.1))).trans (hHeld.2.2.2.2.1)
                have HS5_ := (hb.cell (World.block_lt_of_cell? _ _ (hHeld.2.2.2.2.2.1))).trans (hHeld.2.2.2.2.2.1)
                have HS6_ := (hb.cell (World.block_lt_of_cell? _ _ (hHeld.2.2.2.2.2.2.1))).trans (hHeld.2.2.2.2.2.2.1)
                have HS7_ := (hb.cell (World.block_lt_of_cell? _ _ (hHeld.2.2.2.2.2.2.2))).trans (hHeld.2.2.2.2.2.2.2)
                have n0_ := Aside0.mk (Kd.V_below (Kd.V_elderB (by (with_reducible repeat (first | apply Kd.V_alloc | apply Kd.V_drewN | apply Kd.V_drew)); exact HO_0.out) gb300 (Nat.le_of_eq hg.symm)) hb)
                have n1_ := Aside0.mk (Kd.R_below (by (with_reducible repeat (first | apply Kd.R_alloc | apply Kd.R_drewN | apply Kd.R_drew)); exact HO_4.out) hb)
                have n2_ := Aside0.mk (Kd.N_below (Kd.N_elderB (by (with_reducible repeat (first | apply Kd.N_alloc | apply Kd.N_drewN | apply Kd.N_drew)); exact HO_6.out) gb300 (Nat.le_of_eq hg.symm)) hb)
                have n3_ := Aside0.mk (below_step (by repeat (first | (with_reducible first | exact HB.out | apply below_alloc | apply pw_below_drewN | apply below_drew1) | exact HB.out)) hb)
                have n4_ := Aside0.mk (hbox)
                have n5_ := Aside0.mk ((by rw [hg]; exact (below_size (by repeat (first | (with_reducible first | exact HB.out | apply below_alloc | apply pw_below_drewN | apply below_drew1) | exact HB.out))) : w.heap.size ≤ gb300))
                have n6_ := Aside0.mk ((by rw [hg]; exact (below_size (by repeat (first | (with_reducible first | exact HB.out | apply below_alloc | apply pw_below_drewN | apply below_drew1) | exact HB.out))) : w.heap.size ≤ gb300))
                clear HO_0
                clear HO_4
                clear HO_6
                clear HB
                have HO_0 := n0_
                have HO_4 := n1_
                have HO_6 := n2_
                have HB := n3_
                have BK300 := n4_
                have GW300 := n5_
                have GE300 := n6_
                clear n0_ n1_ n2_ n3_ n4_ n5_ n6_
                clear hb hbox hg
                refine hK.out _ _ ⟨HS0_, HS1_, HS2_, HS3_, HS4_, HS5_, HS6_, HS7_⟩ (fun hHeld => ?_)
                clear hK K
                refine norm_ (a' := ?_) ?_ ?_
                rotate_left
                · show Act.put _ (some 8) _ = _
                  simp only [Act.put, List.setIfInBounds_toArray, List.set_cons_zero, List.set_cons_succ, i64_w, i32_w]
                  rfl
                refine one_ (i := 12) (N := none) #[true, true, true, true, true, true, true, true, true, true, true, true, true] rfl rfl (one_of HT_.out (by kernel_rfl)) (by decide) (fun K hK => ?_)
                have hs13 : w12.cell? ⟨gb300, 0, none⟩ = some (.string (⟨#[]⟩ : ByteArray)) := (blk_cell BK300.out 0).trans rfl
                have hfs13 := blk_frozen BK300.out 0
                have hs14 : w12.cell? ⟨gb300, 1, none⟩ = some (.bool false) := (blk_cell BK300.out 1).trans rfl
                have hfs14 := blk_frozen BK300.out 1
                have hs15 : w12.cell? ⟨gb300, 2, none⟩ = some (.slice none 0 0) := (blk_cell BK300.out 2).trans rfl
                have hfs15 := blk_frozen BK300.out 2
                refine skip_ (w1 := ?_) (by rfl) rfl ?_ ?_
                rotate_left
                · go_simp
                  rfl
                refine hK.out _ _ ⟨((cell_far (p := ⟨gb300, _, none⟩) (by first | exact Kd.own_blk (Kd.R_ne HO_4.out BK300.out (by decide)) | (rw [add_block]; exact Kd.own_blk (Kd.R_ne HO_4.out BK300.out (by decide))) | (show (Addr.add _ _).block ≠ _; rw [add_block]; exact Kd.own_blk (Kd.R_ne HO_4.out BK300.out (by decide))) | (dsimp only; exact Kd.own_blk (Kd.R_ne HO_4.out BK300.out (by decide)))) _).trans (((cell_far (p := ⟨gb300, _, none⟩) (by first | exact Kd.own_blk (Kd.R_ne HO_4.out BK300.out (by decide)) | (rw [add_block]; exact Kd.own_blk (Kd.R_ne HO_4.out BK300.out (by decide))) | (show (Addr.add _ _).block ≠ _; rw [add_block]; exact Kd.own_blk (Kd.R_ne HO_4.out BK300.out (by decide))) | (dsimp only; exact Kd.own_blk (Kd.R_ne HO_4.out BK300.out (by decide)))) _).trans (((cell_far (p := ⟨gb300, _, none⟩) (by first | exact Kd.own_blk (Kd.R_ne HO_4.out BK300.out (by decide)) | (rw [add_block]; exact Kd.own_blk (Kd.R_ne HO_4.out BK300.out (by decide))) | (show (Addr.add _ _).block ≠ _; rw [add_block]; exact Kd.own_blk (Kd.R_ne HO_4.out BK300.out (by decide))) | (dsimp only; exact Kd.own_blk (Kd.R_ne HO_4.out BK300.out (by decide)))) _).trans (hHeld.1)))))), ((cell_far (p := ⟨gb300, _, none⟩) (by first | exact Kd.own_blk (Kd.R_ne HO_4.out BK300.out (by decide)) | (rw [add_block]; exact Kd.own_blk (Kd.R_ne HO_4.out BK300.out (by decide))) | (show (Addr.add _ _).block ≠ _; rw [add_block]; exact Kd.own_blk (Kd.R_ne HO_4.out BK300.out (by decide))) | (dsimp only; exact Kd.own_blk (Kd.R_ne HO_4.out BK300.out (by decide)))) _).trans (((cell_far (p := ⟨gb300, _, none⟩) (by first | exact Kd.own_blk (Kd.R_ne HO_4.out BK300.out (by decide)) | (rw [add_block]; exact Kd.own_blk (Kd.R_ne HO_4.out BK300.out (by decide))) | (show (Addr.add _ _).block ≠ _; rw [add_block]; exact Kd.own_blk (Kd.R_ne HO_4.out BK300.out (by decide))) | (dsimp only; exact Kd.own_blk (Kd.R_ne HO_4.out BK300.out (by decide)))) _).trans (((cell_far (p := ⟨gb300, _, none⟩) (by first | exact Kd.own_blk (Kd.R_ne HO_4.out BK300.out (by decide)) | (rw [add_block]; exact Kd.own_blk (Kd.R_ne HO_4.out BK300.out (by decide))) | (show (Addr.add _ _).block ≠ _; rw [add_block]; exact Kd.own_blk (Kd.R_ne HO_4.out BK300.out (by decide))) | (dsimp only; exact Kd.own_blk (Kd.R_ne HO_4.out BK300.out (by decide)))) _).trans (hHeld.2.1)))))), ((cell_far (p := ⟨gb300, _, none⟩) (by first | exact Kd.own_blk (Kd.R_ne HO_4.out BK300.out (by decide)) | (rw [add_block]; exact Kd.own_blk (Kd.R_ne HO_4.out BK300.out (by decide))) | (show (Addr.add _ _).block ≠ _; rw [add_block]; exact Kd.own_blk (Kd.R_ne HO_4.out BK300.out (by decide))) | (dsimp only; exact Kd.own_blk (Kd.R_ne HO_4.out BK300.out (by decide)))) _).trans (((cell_far (p := ⟨gb300, _, none⟩) (by first | exact Kd.own_blk (Kd.R_ne HO_4.out BK300.out (by decide)) | (rw [add_block]; exact Kd.own_blk (Kd.R_ne HO_4.out BK300.out (by decide))) | (show (Addr.add _ _).block ≠ _; rw [add_block]; exact Kd.own_blk (Kd.R_ne HO_4.out BK300.out (by decide))) | (dsimp only; exact Kd.own_blk (Kd.R_ne HO_4.out BK300.out (by decide)))) _).trans (((cell_far (p := ⟨gb300, _, none⟩) (by first | exact Kd.own_blk (Kd.R_ne HO_4.out BK300.out (by decide)) | (rw [add_block]; exact Kd.own_blk (Kd.R_ne HO_4.out BK300.out (by decide))) | (show (Addr.add _ _).block ≠ _; rw [add_block]; exact Kd.own_blk (Kd.R_ne HO_4.out BK300.out (by decide))) | (dsimp only; exact Kd.own_blk (Kd.R_ne HO_4.out BK300.out (by decide)))) _).trans (hHeld.2.2.1)))))), ((cell_far (p := ⟨gb300, _, none⟩) (by first | exact Kd.own_blk (Kd.R_ne HO_4.out BK300.out (by decide)) | (rw [add_block]; exact Kd.own_blk (Kd.R_ne HO_4.out BK300.out (by decide))) | (show (Addr.add _ _).block ≠ _; rw [add_block]; exact Kd.own_blk (Kd.R_ne HO_4.out BK300.out (by decide))) | (dsimp only; exact Kd.own_blk (Kd.R_ne HO_4.out BK300.out (by decide)))) _).trans (((cell_far (p := ⟨gb300, _, none⟩) (by first | exact Kd.own_blk (Kd.R_ne HO_4.out BK300.out (by decide)) | (rw [add_block]; exact Kd.own_blk (Kd.R_ne HO_4.out BK300.out (by decide))) | (show (Addr.add _ _).block ≠ _; rw [add_block]; exact Kd.own_blk (Kd.R_ne HO_4.out BK300.out (by decide))) | (dsimp only; exact Kd.own_blk (Kd.R_ne HO_4.out BK300.out (by decide)))) _).trans (((cell_far (p := ⟨gb300, _, none⟩) (by first | exact Kd.own_blk (Kd.R_ne HO_4.out BK300.out (by decide)) | (rw [add_block]; exact Kd.own_blk (Kd.R_ne HO_4.out BK300.out (by decide))) | (show (Addr.add _ _).block ≠ _; rw [add_block]; exact Kd.own_blk (Kd.R_ne HO_4.out BK300.out (by decide))) | (dsimp only; exact Kd.own_blk (Kd.R_ne HO_4.out BK300.out (by decide)))) _).trans (hHeld.2.2.2.1)))))), ((cell_far (p := ⟨gb300, _, none⟩) (by first | exact Kd.own_blk (Kd.R_ne HO_4.out BK300.out (by decide)) | (rw [add_block]; exact Kd.own_blk (Kd.R_ne HO_4.out BK300.out (by decide))) | (show (Addr.add _ _).block ≠ _; rw [add_block]; exact Kd.own_blk (Kd.R_ne HO_4.out BK300.out (by decide))) | (dsimp only; exact Kd.own_blk (Kd.R_ne HO_4.out BK300.out (by decide)))) _).trans (((cell_far (p := ⟨gb300, _, none⟩) (by first | exact Kd.own_blk (Kd.R_ne HO_4.out BK300.out (by decide)) | (rw [add_block]; exact Kd.own_blk (Kd.R_ne HO_4.out BK300.out (by decide))) | (show (Addr.add _ _).block ≠ _; rw [add_block]; exact Kd.own_blk (Kd.R_ne HO_4.out BK300.out (by decide))) | (dsimp only; exact Kd.own_blk (Kd.R_ne HO_4.out BK300.out (by decide)))) _).trans (((cell_far (p := ⟨gb300, _, none⟩) (by first | exact Kd.own_blk (Kd.R_ne HO_4.out BK300.out (by decide)) | (rw [add_block]; exact Kd.own_blk (Kd.R_ne HO_4.out BK300.out (by decide))) | (show (Addr.add _ _).block ≠ _; rw [add_block]; exact Kd.own_blk (Kd.R_ne HO_4.out BK300.out (by decide))) | (dsimp only; exact Kd.own_blk (Kd.R_ne HO_4.out BK300.out (by decide)))) _).trans (hHeld.2.2.2.2.1)))))), ((cell_far (p := ⟨gb300, _, none⟩) (by first | exact Kd.own_blk (Kd.R_ne HO_4.out BK300.out (by decide)) | (rw [add_block]; exact Kd.own_blk (Kd.R_ne HO_4.out BK300.out (by decide))) | (show (Addr.add _ _).block ≠ _; rw [add_block]; exact Kd.own_blk (Kd.R_ne HO_4.out BK300.out (by decide))) | (dsimp only; exact Kd.own_blk (Kd.R_ne HO_4.out BK300.out (by decide)))) _).trans (((cell_far (p := ⟨gb300, _, none⟩) (by first | exact Kd.own_blk (Kd.R_ne HO_4.out BK300.out (by decide)) | (rw [add_block]; exact Kd.own_blk (Kd.R_ne HO_4.out BK300.out (by decide))) | (show (Addr.add _ _).block ≠ _; rw [add_block]; exact Kd.own_blk (Kd.R_ne HO_4.out BK300.out (by decide))) | (dsimp only; exact Kd.own_blk (Kd.R_ne HO_4.out BK300.out (by decide)))) _).trans (((cell_far (p := ⟨gb300, _, none⟩) (by first | exact Kd.own_blk (Kd.R_ne HO_4.out BK300.out (by decide)) | (rw [add_block]; exact Kd.own_blk (Kd.R_ne HO_4.out BK300.out (by decide))) | (show (Addr.add _ _).block ≠ _; rw [add_block]; exact Kd.own_blk (Kd.R_ne HO_4.out BK300.out (by decide))) | (dsimp only; exact Kd.own_blk (Kd.R_ne HO_4.out BK300.out (by decide)))) _).trans (hHeld.2.2.2.2.2.1)))))), ((cell_far (p := ⟨gb300, _, none⟩) (by first | exact Kd.own_blk (Kd.R_ne HO_4.out BK300.out (by decide)) | (rw [add_block]; exact Kd.own_blk (Kd.R_ne HO_4.out BK300.out (by decide))) | (show (Addr.add _ _).block ≠ _; rw [add_block]; exact Kd.own_blk (Kd.R_ne HO_4.out BK300.out (by decide))) | (dsimp only; exact Kd.own_blk (Kd.R_ne HO_4.out BK300.out (by decide)))) _).trans (((cell_far (p := ⟨gb300, _, none⟩) (by first | exact Kd.own_blk (Kd.R_ne HO_4.out BK300.out (by decide)) | (rw [add_block]; exact Kd.own_blk (Kd.R_ne HO_4.out BK300.out (by decide))) | (show (Addr.add _ _).block ≠ _; rw [add_block]; exact Kd.own_blk (Kd.R_ne HO_4.out BK300.out (by decide))) | (dsimp only; exact Kd.own_blk (Kd.R_ne HO_4.out BK300.out (by decide)))) _).trans (((cell_far (p := ⟨gb300, _, none⟩) (by first | exact Kd.own_blk (Kd.R_ne HO_4.out BK300.out (by decide)) | (rw [add_block]; exact Kd.own_blk (Kd.R_ne HO_4.out BK300.out (by decide))) | (show (Addr.add _ _).block ≠ _; rw [add_block]; exact Kd.own_blk (Kd.R_ne HO_4.out BK300.out (by decide))) | (dsimp only; exact Kd.own_blk (Kd.R_ne HO_4.out BK300.out (by decide)))) _).trans (hHeld.2.2.2.2.2.2.1)))))), ((cell_far (p := ⟨gb300, _, none⟩) (by first | exact Kd.own_blk (Kd.R_ne HO_4.out BK300.out (by decide)) | (rw [add_block]; exact Kd.own_blk (Kd.R_ne HO_4.out BK300.out (by decide))) | (show (Addr.add _ _).block ≠ _; rw [add_block]; exact Kd.own_blk (Kd.R_ne HO_4.out BK300.out (by decide))) | (dsimp only; exact Kd.own_blk (Kd.R_ne HO_4.out BK300.out (by decide)))) _).trans (((cell_far (p := ⟨gb300, _, none⟩) (by first | exact Kd.own_blk (Kd.R_ne HO_4.out BK300.out (by decide)) | (rw [add_block]; exact Kd.own_blk (Kd.R_ne HO_4.out BK300.out (by decide))) | (show (Addr.add _ _).block ≠ _; rw [add_block]; exact Kd.own_blk (Kd.R_ne HO_4.out BK300.out (by decide))) | (dsimp only; exact Kd.own_blk (Kd.R_ne HO_4.out BK300.out (by decide)))) _).trans (((cell_far (p := ⟨gb300, _, none⟩) (by first | exact Kd.own_blk (Kd.R_ne HO_4.out BK300.out (by decide)) | (rw [add_block]; exact Kd.own_blk (Kd.R_ne HO_4.out BK300.out (by decide))) | (show (Addr.add _ _).block ≠ _; rw [add_block]; exact Kd.own_blk (Kd.R_ne HO_4.out BK300.out (by decide))) | (dsimp only; exact Kd.own_blk (Kd.R_ne HO_4.out BK300.out (by decide)))) _).trans (hHeld.2.2.2.2.2.2.2))))))⟩ (fun hHeld => ?_)
                clear hK K
                refine done_ (done_of HT_.out (by kernel_rfl)) ?_
                have hcz16_0 : w12.cell? ⟨gb300, 0, none⟩ = some (.string (⟨#[]⟩ : ByteArray)) := (blk_cell BK300.out 0).trans rfl
                have hcz16_1 : w12.cell? ⟨gb300, 1, none⟩ = some (.bool false) := (blk_cell BK300.out 1).trans rfl
                have hcz16_2 : w12.cell? ⟨gb300, 2, none⟩ = some (.slice none 0 0) := (blk_cell BK300.out 2).trans rfl
                have hfz16_0 := blk_frozen BK300.out 0
                have hfz16_1 := blk_frozen BK300.out 1
                have hfz16_2 := blk_frozen BK300.out 2
                try go_wp2_with (first | ((with_reducible refine gate_builtin (b := .append) (xs := #[.tmp 55, .tmp 57]) rfl ?_); at_builtin; refine Kd.N_append k38 (w0 := w) w.heap.size rfl (.tmp 55) (.tmp 57) 39 38 (.agg #[(.string ⟨#[]⟩), (.bool false), (.slice none 0 0)]) 48 rfl Try.underlying39 info38 rfl (by decide) (by omega) u6 x6_1 (⟨(rd_T51 t294 x7_1).f0, true, ([] : List Int)⟩ : S38) [.string ((rd_T51 t294 x7_1).f0), .bool true, .slice none 0 0] (fun k_ => (P0_ k_ ∨ w.heap.size ≤ k_) ∧ some k_ ≠ (.slice (some ad298) t294.length co10 : Value).ownBlock ∧ k_ ≠ gb300) (fun k_ => ((fun k_ => (P0_ k_ ∨ w.heap.size ≤ k_) ∧ some k_ ≠ (.slice (some ad298) t294.length co10 : Value).ownBlock ∧ k_ ≠ gb300)) k_ ∧ some k_ ≠ (u6 : Value).ownBlock) rfl (by first | (go_simp; done) | (go_simp; rfl)) ?aP (fun _ hk => hk) ?aF ?aO ?aB ?aS ?aL ?_; (case aP => exact (k38_mkF _ _ (⟨(rd_T51 t294 x7_1).f0, true, ([] : List Int)⟩ : S38) (Nat.le_refl _) (Kd.F_nil _ _ _))); (case aB => exact (by repeat (first | (with_reducible first | exact HB.out | apply below_alloc | apply pw_below_drewN | apply below_drew1 | refine below_set ?_ GE300.out) | exact HB.out))); (case aF => exact (fun k_ hk => ⟨(.inr (Nat.le_trans (below_size (by repeat (first | (with_reducible first | exact HB.out | apply below_alloc | apply pw_below_drewN | apply below_drew1 | refine below_set ?_ GE300.out) | exact HB.out))) hk)), Kd.fresh' (Kd.R_lt (by (with_reducible repeat (first | apply Kd.R_alloc | apply Kd.R_drewN | apply Kd.R_drew)); exact (Kd.R_mono (Kd.R_far (p := ⟨gb300, 2, none⟩) (Kd.R_far (p := ⟨gb300, 1, none⟩) (Kd.R_far (p := ⟨gb300, 0, none⟩) (Kd.R_types HO_4.out BK300.out (by decide)) (fun _ hk => hk.2) (.string ((rd_T51 t294 x7_1).f0))) (fun _ hk => hk.2) (.bool true)) (fun _ hk => hk.2) (.slice none 0 0)) (fun _ h_ => h_.1)))) k_ hk, Kd.freshB (g := gb300) (o := .cells #[.string ((rd_T51 t294 x7_1).f0), .bool true, .slice none 0 0] 38 (0, 0)) (by (with_reducible repeat (first | refine blk_drewN ?_ _ | refine blk_drew ?_ | refine blk_alloc ?_ _)); refine blk_put (cs := #[.string ((rd_T51 t294 x7_1).f0), .bool true, .slice none 0 0]) ?_ 2 _ rfl; (with_reducible repeat (first | refine blk_drewN ?_ _ | refine blk_drew ?_ | refine blk_alloc ?_ _)); refine blk_put (cs := #[.string ((rd_T51 t294 x7_1).f0), .bool false, .slice none 0 0]) ?_ 1 _ rfl; (with_reducible repeat (first | refine blk_drewN ?_ _ | refine blk_drew ?_ | refine blk_alloc ?_ _)); refine blk_put (cs := #[.string (⟨#[]⟩ : ByteArray), .bool false, .slice none 0 0]) ?_ 0 _ rfl; (with_reducible repeat (first | refine blk_drewN ?_ _ | refine blk_drew ?_ | refine blk_alloc ?_ _)); exact BK300.out) k_ hk⟩)); (case aO => exact (by (with_reducible repeat (first | apply Kd.N_alloc | apply Kd.N_drewN | apply Kd.N_drew)); exact Kd.N_mono (Kd.N_far (p := ⟨gb300, 2, none⟩) (Kd.N_far (p := ⟨gb300, 1, none⟩) (Kd.N_far (p := ⟨gb300, 0, none⟩) (Kd.N_mono HO_6.out (fun k_ hk => (⟨hk, hk.2⟩ : _ ∧ k_ ≠ gb300))) (fun _ hk => hk.2) (.string ((rd_T51 t294 x7_1).f0))) (fun _ hk => hk.2) (.bool true)) (fun _ hk => hk.2) (.slice none 0 0)) (fun _ hk => ⟨hk.1.1.1, ⟨hk.1.1.2, hk.1.2⟩⟩))); (case aS => exact (below_size (by repeat (first | (with_reducible first | exact HB.out | apply below_alloc | apply pw_below_drewN | apply below_drew1 | refine below_set ?_ GE300.out) | exact HB.out)))); (case aL => have := LMc9.out; omega); intro v302 w17 ho hb hg hat; rw [← Ny301.out] at ho; have n0_ := Aside0.mk (Kd.V_afterv (ok := (fun k_ => (P0_ k_ ∨ w.heap.size ≤ k_) ∧ some k_ ≠ (.slice (some ad298) t294.length co10 : Value).ownBlock ∧ k_ ≠ gb300)) (by (with_reducible repeat (first | apply Kd.V_alloc | apply Kd.V_drewN | apply Kd.V_drew)); exact Kd.V_mono (Kd.V_far (p := ⟨gb300, 2, none⟩) (Kd.V_far (p := ⟨gb300, 1, none⟩) (Kd.V_far (p := ⟨gb300, 0, none⟩) (Kd.V_mono HO_0.out (fun k_ hk => (⟨hk, hk.2⟩ : _ ∧ k_ ≠ gb300))) (fun _ hk => hk.2) (.string ((rd_T51 t294 x7_1).f0))) (fun _ hk => hk.2) (.bool true)) (fun _ hk => hk.2) (.slice none 0 0)) (fun _ hk => ⟨⟨hk.1.1.1, ⟨hk.1.1.2.1, hk.1.2⟩⟩, hk.1.1.2.2⟩)) hg hat); have n1_ := Aside0.mk (Kd.R_over' (by (with_reducible repeat (first | apply Kd.R_alloc | apply Kd.R_drewN | apply Kd.R_drew)); exact (Kd.R_mono (Kd.R_far (p := ⟨gb300, 2, none⟩) (Kd.R_far (p := ⟨gb300, 1, none⟩) (Kd.R_far (p := ⟨gb300, 0, none⟩) (Kd.R_types HO_4.out BK300.out (by decide)) (fun _ hk => hk.2) (.string ((rd_T51 t294 x7_1).f0))) (fun _ hk => hk.2) (.bool true)) (fun _ hk => hk.2) (.slice none 0 0)) (fun _ h_ => h_.1))) (Kd.N_typed (by (with_reducible repeat (first | apply Kd.N_alloc | apply Kd.N_drewN | apply Kd.N_drew)); exact (Kd.N_mono (Kd.N_far (p := ⟨gb300, 2, none⟩) (Kd.N_far (p := ⟨gb300, 1, none⟩) (Kd.N_far (p := ⟨gb300, 0, none⟩) (Kd.N_mono HO_6.out (fun k_ hk => (⟨hk, hk.2⟩ : _ ∧ k_ ≠ gb300))) (fun _ hk => hk.2) (.string ((rd_T51 t294 x7_1).f0))) (fun _ hk => hk.2) (.bool true)) (fun _ hk => hk.2) (.slice none 0 0)) (fun _ h_ => h_.1)))) (by decide) hg); have n2_ := Aside0.mk (blk_grown (g := gb300) (o := .cells #[.string ((rd_T51 t294 x7_1).f0), .bool true, .slice none 0 0] 38 (0, 0)) (by (with_reducible repeat (first | refine blk_drewN ?_ _ | refine blk_drew ?_ | refine blk_alloc ?_ _)); refine blk_put (cs := #[.string ((rd_T51 t294 x7_1).f0), .bool true, .slice none 0 0]) ?_ 2 _ rfl; (with_reducible repeat (first | refine blk_drewN ?_ _ | refine blk_drew ?_ | refine blk_alloc ?_ _)); refine blk_put (cs := #[.string ((rd_T51 t294 x7_1).f0), .bool false, .slice none 0 0]) ?_ 1 _ rfl; (with_reducible repeat (first | refine blk_drewN ?_ _ | refine blk_drew ?_ | refine blk_alloc ?_ _)); refine blk_put (cs := #[.string (⟨#[]⟩ : ByteArray), .bool false, .slice none 0 0]) ?_ 0 _ rfl; (with_reducible repeat (first | refine blk_drewN ?_ _ | refine blk_drew ?_ | refine blk_alloc ?_ _)); exact BK300.out) hg (Kd.N_away HO_6.out (fun _ hk => hk.2))); have n3_ := Aside0.mk (hb); have n4_ := Aside0.mk (ho); clear HO_0; clear HO_4; clear BK300; clear HB; clear HO_6; have HO_0 := n0_; have HO_4 := n1_; have BK300 := n2_; have HB := n3_; have HO303 := n4_; clear n0_ n1_ n2_ n3_ n4_; clear ho hb hg hat))
                go_roundg k1
                case measure => have := HK1.out; omega
                case rel => exact ⟨(y301), (wrap64 (x7_1 + 1)), (by first | rfl | (simp; done) | (simp [*]; done)), (by first | exact H' | (simp only [← Nbq7.out]; exact H') | (simp only [Nbq7.out]; exact H')), ⟨by have := HK1.out; omega⟩, ⟨by (with_reducible repeat (first | apply Kd.V_alloc | apply Kd.V_drewN | apply Kd.V_drew)); exact Kd.V_mono HO_0.out (fun _ hk => ⟨hk.1.1, ⟨hk.1.2.1, hk.2⟩⟩)⟩, ⟨by (with_reducible repeat (first | apply Kd.R_alloc | apply Kd.R_drewN | apply Kd.R_drew)); exact HO_4.out⟩, ⟨by (with_reducible repeat (first | apply Kd.N_alloc | apply Kd.N_drewN | apply Kd.N_drew)); exact Kd.N_mono HO303.out (fun _ hk => ⟨hk.1, hk.2.1⟩)⟩, ⟨by repeat (first | (with_reducible first | exact HB.out | apply below_alloc | apply pw_below_drewN | apply below_drew1 | refine below_set ?_ GE300.out) | exact HB.out)⟩⟩
              · rw [if_neg c9] at H
                exact absurd H (by simp)
            · replace c8 := Bool.eq_false_iff.mpr c8
              subst c8
              have H1 : (if 0 ≤ ((rd_T51 t294 x7_1).f2) then (if ((rd_T51 t294 x7_1).f2) ≤ (wrap64 (((rd_T51 t294 x7_1).f2) + ((rd_T51 t294 x7_1).f3))) then (if (wrap64 (((rd_T51 t294 x7_1).f2) + ((rd_T51 t294 x7_1).f3))) ≤ (l0.length : Int) then (if x6_1.length < 2932031007402 then (waybillref7_Ops.l0 k1 l0 t294 (x6_1 ++ [(⟨(rd_T51 t294 x7_1).f0, false, ((l0.take ((wrap64 (((rd_T51 t294 x7_1).f2) + ((rd_T51 t294 x7_1).f3))) : Int).toNat).drop (((rd_T51 t294 x7_1).f2) : Int).toNat)⟩ : S38)]) (wrap64 (x7_1 + 1))) else (none)) else (none)) else (none)) else (none)) = some (r1, r2) := by rw [if_neg (show ¬ (false = true) by decide)] at H; exact H
              clear H
              have H := H1
              clear H1
              by_cases c18 : 0 ≤ ((rd_T51 t294 x7_1).f2)
              · rw [if_pos c18] at H
                have c18b0 := eq_true c18
                have c18b1 : decide (0 ≤ ((rd_T51 t294 x7_1).f2)) = true := decide_eq_true c18
                clear c18
                obtain ⟨ji19, hji19⟩ : ∃ j_ : Int, (wrap64 (((rd_T51 t294 x7_1).f2) + ((rd_T51 t294 x7_1).f3))) = j_ := ⟨_, rfl⟩
                replace H : (if ((rd_T51 t294 x7_1).f2) ≤ (ji19) then (if (ji19) ≤ (l0.length : Int) then (if x6_1.length < 2932031007402 then (waybillref7_Ops.l0 k1 l0 t294 (x6_1 ++ [(⟨(rd_T51 t294 x7_1).f0, false, ((l0.take ((ji19) : Int).toNat).drop (((rd_T51 t294 x7_1).f2) : Int).toNat)⟩ : S38)]) (wrap64 (x7_1 + 1))) else (none)) else (none)) else (none)) = some (r1, r2) := by first | (rw [hji19] at H; exact H) | (simp only [hji19] at H ⊢; exact H)
                have hji19w : (IntKind.i64.wrap (((rd_T51 t294 x7_1).f2) + ((rd_T51 t294 x7_1).f3))) = ji19 := (i64_w _).trans hji19
                by_cases c20 : ((rd_T51 t294 x7_1).f2) ≤ (ji19)
                · rw [if_pos c20] at H
                  have c20b0 := eq_true c20
                  have c20b1 : decide (((rd_T51 t294 x7_1).f2) ≤ (ji19)) = true := decide_eq_true c20
                  clear c20
                  by_cases c21 : (ji19) ≤ (l0.length : Int)
                  · rw [if_pos c21] at H
                    have c21b0 := eq_true c21
                    have c21b1 : decide ((ji19) ≤ (l0.length : Int)) = true := decide_eq_true c21
                    clear c21
                    obtain ⟨y307, hy307⟩ : ∃ y_ : List Int, y_ = ((l0.take ((ji19) : Int).toNat).drop (((rd_T51 t294 x7_1).f2) : Int).toNat) := ⟨_, rfl⟩
                    replace H : (if x6_1.length < 2932031007402 then (waybillref7_Ops.l0 k1 l0 t294 (x6_1 ++ [(⟨(rd_T51 t294 x7_1).f0, false, y307⟩ : S38)]) (wrap64 (x7_1 + 1))) else (none)) = some (r1, r2) := by first | (rw [hy307]; with_reducible exact H) | (have H2_ := (Option.bind_some _ _).symm.trans H; rw [hy307]; with_reducible exact H2_) | (have H2_ := (Option.bind_some _ _).symm.trans H; with_reducible exact H2_) | with_reducible exact H | (rw [hy307]; exact H) | exact H
                    have Ny307 := Aside0.mk hy307
                    clear hy307
                    by_cases c22 : x6_1.length < 2932031007402
                    · rw [if_pos c22] at H
                      have LMc22 := Aside0.mk c22
                      clear c22
                      obtain ⟨y312, hy312⟩ : ∃ y_ : List (S38), y_ = (x6_1 ++ [(⟨(rd_T51 t294 x7_1).f0, false, y307⟩ : S38)]) := ⟨_, rfl⟩
                      replace H : (waybillref7_Ops.l0 k1 l0 t294 y312 (wrap64 (x7_1 + 1))) = some (r1, r2) := by first | (rw [hy312]; with_reducible exact H) | (have H2_ := (Option.bind_some _ _).symm.trans H; rw [hy312]; with_reducible exact H2_) | (have H2_ := (Option.bind_some _ _).symm.trans H; with_reducible exact H2_) | with_reducible exact H | (rw [hy312]; exact H) | exact H
                      have Ny312 := Aside0.mk hy312
                      clear hy312
                      have H' := Aside0.mk H
                      clear H
                      obtain ⟨Ao23, co23, eo23⟩ := Kd.R_slice HO_4.out
                      subst eo23
                      try go_wp2
                      have n0_ := Aside0.mk (Kd.V_drew HO_0.out)
                      have n1_ := Aside0.mk (Kd.R_drew HO_4.out)
                      have n2_ := Aside0.mk (Kd.N_drew HO_6.out)
                      have n3_ := Aside0.mk (below_drew1 HB.out)
                      clear HO_0
                      clear HO_4
                      clear HO_6
                      clear HB
                      have HO_0 := n0_
                      have HO_4 := n1_
                      have HO_6 := n2_
                      have HB := n3_
                      clear n0_ n1_ n2_ n3_
                      have p298 : 0 ≤ (x7_1 : Int) := of_decide_eq_true (by first | (with_reducible assumption) | assumption)
                      have q298 : x7_1 < (t294.length : Int) := of_decide_eq_true (by first | (with_reducible assumption) | assumption)
                      obtain ⟨ad298, e298, hx298_0, hx298_1, hx298_2, hx298_3⟩ := at_T51 (Kd.R_reads' HO_4.out).2.2 x7_1 p298 q298
                      (try rw [← Nbq7.out] at hx298_1)
                      cases e298
                      replace p298 := eq_true p298
                      replace q298 := eq_true q298
                      have p299 : 0 ≤ (x7_1 : Int) := of_decide_eq_true (by first | (with_reducible assumption) | assumption)
                      have q299 : x7_1 < (t294.length : Int) := of_decide_eq_true (by first | (with_reducible assumption) | assumption)
                      obtain ⟨ad299, e299, hx299_0, hx299_1, hx299_2, hx299_3⟩ := at_T51 (Kd.R_reads' HO_4.out).2.2 x7_1 p299 q299
                      (try rw [← Nbq7.out] at hx299_1)
                      obtain rfl : ad298 = ad299 := (by injection e299)
                      replace p299 := eq_true p299
                      replace q299 := eq_true q299
                      refine start_ (n := 13) (S := fun w' => w'.cell? (ad298.add ((x7_1).toNat * 4)) = some (.string ((rd_T51 t294 x7_1).f0)) ∧ w'.cell? ⟨(ad298.add ((x7_1).toNat * 4)).block, (ad298.add ((x7_1).toNat * 4)).off + 1, none⟩ = some (.bool false) ∧ w'.cell? ⟨(ad298.add ((x7_1).toNat * 4)).block, (ad298.add ((x7_1).toNat * 4)).off + 2, none⟩ = some (.int .i64 ((rd_T51 t294 x7_1).f2)) ∧ w'.cell? ⟨(ad298.add ((x7_1).toNat * 4)).block, (ad298.add ((x7_1).toNat * 4)).off + 3, none⟩ = some (.int .i64 ((rd_T51 t294 x7_1).f3)) ∧ w'.cell? (ad298.add ((x7_1).toNat * 4)) = some (.string ((rd_T51 t294 x7_1).f0)) ∧ w'.cell? ⟨(ad298.add ((x7_1).toNat * 4)).block, (ad298.add ((x7_1).toNat * 4)).off + 1, none⟩ = some (.bool false) ∧ w'.cell? ⟨(ad298.add ((x7_1).toNat * 4)).block, (ad298.add ((x7_1).toNat * 4)).off + 2, none⟩ = some (.int .i64 ((rd_T51 t294 x7_1).f2)) ∧ w'.cell? ⟨(ad298.add ((x7_1).toNat * 4)).block, (ad298.add ((x7_1).toNat * 4)).off + 3, none⟩ = some (.int .i64 ((rd_T51 t294 x7_1).f3))) (ds := []) #[false, false, false, false, false, false, false, false, false, false, false, false, false] (by kernel_rfl) rfl rfl ⟨hx298_0, hx298_1, hx298_2, hx298_3, hx299_0, hx299_1, hx299_2, hx299_3⟩ (fun hHeld => ?_); refine with_tabW waybillref7_Ops.tab8 waybillref7_Ops.bits8 (fun HT_ HW_ => ?_)
                      generalize wr.drew = w24 at HO_0 HO_4 HO_6 HB hx298_0 hx298_1 hx298_2 hx298_3 hx299_0 hx299_1 hx299_2 hx299_3 hHeld ⊢
                      refine pure_ (i := 0) (N := some 22) (v := ?_) (a' := ?_) #[true, false, false, false, false, false, false, false, false, false, false, false, false] rfl rfl (any_of HT_.out (by kernel_rfl)) (fun _ _ _ h => h) (Or.inl ⟨by rfl, ?_⟩) ?_ ?_
                      rotate_left
                      · intro w'
                        go_simp
                        with_reducible rfl
                      rotate_left
                      · simp only [Act.put, List.setIfInBounds_toArray, List.set_cons_zero, List.set_cons_succ, i64_w, i32_w]
                        rfl
                      refine pure_ (i := 1) (N := some 23) (v := ?_) (a' := ?_) #[true, true, false, false, false, false, false, false, false, false, false, false, false] rfl rfl (any_of HT_.out (by kernel_rfl)) (fun _ _ _ h => h) (Or.inl ⟨by rfl, ?_⟩) ?_ ?_
                      rotate_left
                      · intro w'
                        go_simp
                        with_reducible rfl
                      rotate_left
                      · simp only [Act.put, List.setIfInBounds_toArray, List.set_cons_zero, List.set_cons_succ, i64_w, i32_w]
                        rfl
                      refine pure_ (i := 2) (N := some 24) (v := ?_) (a' := ?_) #[true, true, true, false, false, false, false, false, false, false, false, false, false] rfl rfl (any_of HT_.out (by kernel_rfl)) (fun _ _ _ h => h) (Or.inl ⟨by rfl, ?_⟩) ?_ ?_
                      rotate_left
                      · intro w'
                        go_simp
                        with_reducible rfl
                      rotate_left
                      · simp only [Act.put, List.setIfInBounds_toArray, List.set_cons_zero, List.set_cons_succ, i64_w, i32_w]
                        rfl
                      refine pure_ (i := 3) (N := some 25) (v := ?_) (a' := ?_) #[true, true, true, true, false, false, false, false, false, false, false, false, false] rfl rfl (any_of HT_.out (by kernel_rfl)) (fun _ _ _ h => h) (Or.inl ⟨by rfl, ?_⟩) ?_ ?_
                      rotate_left
                      · intro w'
                        go_simp
                        with_reducible rfl
                      rotate_left
                      · simp only [Act.put, List.setIfInBounds_toArray, List.set_cons_zero, List.set_cons_succ, i64_w, i32_w]
                        rfl
                      refine pure_ (i := 5) (N := some 27) (v := ?_) (a' := ?_) #[true, true, true, true, false, true, false, false, false, false, false, false, false] rfl rfl (any_of HT_.out (by kernel_rfl)) (fun _ _ _ h => h) (Or.inl ⟨by rfl, ?_⟩) ?_ ?_
                      rotate_left
                      · intro w'
                        go_simp
                        with_reducible rfl
                      rotate_left
                      · simp only [Act.put, List.setIfInBounds_toArray, List.set_cons_zero, List.set_cons_succ, i64_w, i32_w]
                        rfl
                      refine pure_ (i := 6) (N := some 28) (v := ?_) (a' := ?_) #[true, true, true, true, false, true, true, false, false, false, false, false, false] rfl rfl (any_of HT_.out (by kernel_rfl)) (fun _ _ _ h => h) (Or.inl ⟨by rfl, ?_⟩) ?_ ?_
                      rotate_left
                      · intro w'
                        go_simp
                        with_reducible rfl
                      rotate_left
                      · simp only [Act.put, List.setIfInBounds_toArray, List.set_cons_zero, List.set_cons_succ, i64_w, i32_w]
                        rfl
                      refine pure_ (i := 7) (N := some 29) (v := ?_) (a' := ?_) #[true, true, true, true, false, true, true, true, false, false, false, false, false] rfl rfl (any_of HT_.out (by kernel_rfl)) (fun _ _ _ h => h) (Or.inl ⟨by rfl, ?_⟩) ?_ ?_
                      rotate_left
                      · intro w'
                        go_simp
                        with_reducible rfl
                      rotate_left
                      · simp only [Act.put, List.setIfInBounds_toArray, List.set_cons_zero, List.set_cons_succ, i64_w, i32_w]
                        rfl
                      refine pure_ (i := 8) (N := some 30) (v := ?_) (a' := ?_) #[true, true, true, true, false, true, true, true, true, false, false, false, false] rfl rfl (any_of HT_.out (by kernel_rfl)) (fun _ _ _ h => h) (Or.inl ⟨by rfl, ?_⟩) ?_ ?_
                      rotate_left
                      · intro w'
                        go_simp
                        with_reducible rfl
                      rotate_left
                      · simp only [Act.put, List.setIfInBounds_toArray, List.set_cons_zero, List.set_cons_succ, i64_w, i32_w]
                        rfl
                      refine take_ (i := 4) (N := some 26) (v := ?_) (a' := ?_) #[true, true, true, true, true, true, true, true, true, false, false, false, false] rfl rfl (take_ofW HT_.out HW_.out (by kernel_rfl)) (fun _ _ _ h => h) (Or.inl ⟨by rfl, ?_⟩) hHeld ?_ ?_
                      rotate_left
                      · rintro w' ⟨s0, s1, s2, s3, s4, s5, s6, s7⟩
                        go_simp
                        with_reducible rfl
                      rotate_left
                      · simp only [Act.put, List.setIfInBounds_toArray, List.set_cons_zero, List.set_cons_succ, i64_w, i32_w]
                        rfl
                      refine take_ (i := 9) (N := some 31) (v := ?_) (a' := ?_) #[true, true, true, true, true, true, true, true, true, true, false, false, false] rfl rfl (take_ofW HT_.out HW_.out (by kernel_rfl)) (fun _ _ _ h => h) (Or.inl ⟨by rfl, ?_⟩) hHeld ?_ ?_
                      rotate_left
                      · rintro w' ⟨s0, s1, s2, s3, s4, s5, s6, s7⟩
                        go_simp
                        with_reducible rfl
                      rotate_left
                      · simp only [Act.put, List.setIfInBounds_toArray, List.set_cons_zero, List.set_cons_succ, i64_w, i32_w]
                        rfl
                      refine pure_ (i := 10) (N := some 32) (v := ?_) (a' := ?_) #[true, true, true, true, true, true, true, true, true, true, true, false, false] rfl rfl (any_of HT_.out (by kernel_rfl)) (fun _ _ _ h => h) (Or.inl ⟨by rfl, ?_⟩) ?_ ?_
                      rotate_left
                      · intro w'
                        go_simp
                        with_reducible rfl
                      rotate_left
                      · simp only [Act.put, List.setIfInBounds_toArray, List.set_cons_zero, List.set_cons_succ, i64_w, i32_w]
                        rfl
                      refine one_ (i := 11) (N := some 8) #[true, true, true, true, true, true, true, true, true, true, true, true, false] rfl rfl (one_of HT_.out (by kernel_rfl)) (by decide) (fun K hK => ?_)
                      refine box_step ?hg (N := 8) ?hd (cs := #[.string (⟨#[]⟩ : ByteArray), .bool false, .slice none 0 0]) (t := 38) ?hr ?_; (case hd => rfl); (case hg => rfl); (case hr => first | (go_simp; done) | (go_simp; rfl))
                      intro gb300 hg w25 hbox hb
                      have HS0_ := (hb.cell (World.block_lt_of_cell? _ _ (hHeld.1))).trans (hHeld.1)
                      have HS1_ := (hb.cell (World.block_lt_of_cell? _ _ (hHeld.2.1))).trans (hHeld.2.1)
                      have HS2_ := (hb.cell (World.block_lt_of_cell? _ _ (hHeld.2.2.1))).trans (hHeld.2.2.1)
                      have HS3_ := (hb.cell (World.block_lt_of_cell? _ _ (hHeld.2.2.2.1))).trans (hHeld.2.2.2.1)
                      have HS4_ := (hb.cell (World.block_lt_of_cell? _ _ (hHeld.2.2.2.2.1))).trans (hHeld.2.2.2.2.1)
                      have HS5_ := (hb.cell (World.block_lt_of_cell? _ _ (hHeld.2.2.2.2.2.1))).trans (hHeld.2.2.2.2.2.1)
                      have HS6_ := (hb.cell (World.block_lt_of_cell? _ _ (hHeld.2.2.2.2.2.2.1))).trans (hHeld.2.2.2.2.2.2.1)
                      have HS7_ := (hb.cell (World.block_lt_of_cell? _ _ (hHeld.2.2.2.2.2.2.2))).trans (hHeld.2.2.2.2.2.2.2)
                      have n0_ := Aside0.mk (Kd.V_below (Kd.V_elderB (by (with_reducible repeat (first | apply Kd.V_alloc | apply Kd.V_drewN | apply Kd.V_drew)); exact HO_0.out) gb300 (Nat.le_of_eq hg.symm)) hb)
                      have n1_ := Aside0.mk (Kd.R_below (by (with_reducible repeat (first | apply Kd.R_alloc | apply Kd.R_drewN | apply Kd.R_drew)); exact HO_4.out) hb)
                      have n2_ := Aside0.mk (Kd.N_below (Kd.N_elderB (by (with_reducible repeat (first | apply Kd.N_alloc | apply Kd.N_drewN | apply Kd.N_drew)); exact HO_6.out) gb300 (Nat.le_of_eq hg.symm)) hb)
                      have n3_ := Aside0.mk (below_step (by repeat (first | (with_reducible first | exact HB.out | apply below_alloc | apply pw_below_drewN | apply below_drew1) | exact HB.out)) hb)
                      have n4_ := Aside0.mk (hbox)
                      have n5_ := Aside0.mk ((by rw [hg]; exact (below_size (by repeat (first | (with_reducible first | exact HB.out | apply below_alloc | apply pw_below_drewN | apply below_drew1) | exact HB.out))) : w.heap.size ≤ gb300))
                      have n6_ := Aside0.mk ((by rw [hg]; exact (below_size (by repeat (first | (with_reducible first | exact HB.out | apply below_alloc | apply pw_below_drewN | apply below_drew1) | exact HB.out))) : w.heap.size ≤ gb300))
                      clear HO_0
                      clear HO_4
                      clear HO_6
                      clear HB
                      have HO_0 := n0_
                      have HO_4 := n1_
                      have HO_6 := n2_
                      have HB := n3_
                      have BK300 := n4_
                      have GW300 := n5_
                      have GE300 := n6_
                      clear n0_ n1_ n2_ n3_ n4_ n5_ n6_
                      clear hb hbox hg
                      refine hK.out _ _ ⟨HS0_, HS1_, HS2_, HS3_, HS4_, HS5_, HS6_, HS7_⟩ (fun hHeld => ?_)
                      clear hK K
                      refine norm_ (a' := ?_) ?_ ?_
                      rotate_left
                      · show Act.put _ (some 8) _ = _
                        simp only [Act.put, List.setIfInBounds_toArray, List.set_cons_zero, List.set_cons_succ, i64_w, i32_w]
                        rfl
                      refine one_ (i := 12) (N := none) #[true, true, true, true, true, true, true, true, true, true, true, true, true] rfl rfl (one_of HT_.out (by kernel_rfl)) (by decide) (fun K hK => ?_)
                      have hs26 : w25.cell? ⟨gb300, 0, none⟩ = some (.string (⟨#[]⟩ : ByteArray)) := (blk_cell BK300.out 0).trans rfl
                      have hfs26 := blk_frozen BK300.out 0
                      have hs27 : w25.cell? ⟨gb300, 1, none⟩ = some (.bool false) := (blk_cell BK300.out 1).trans rfl
                      have hfs27 := blk_frozen BK300.out 1
                      have hs28 : w25.cell? ⟨gb300, 2, none⟩ = some (.slice none 0 0) := (blk_cell BK300.out 2).trans rfl
                      have hfs28 := blk_frozen BK300.out 2
                      refine skip_ (w1 := ?_) (by rfl) rfl ?_ ?_
                      rotate_left
                      · go_simp
                        rfl
                      refine hK.out _ _ ⟨((cell_far (p := ⟨gb300, _, none⟩) (by first | exact Kd.own_blk (Kd.R_ne HO_4.out BK300.out (by decide)) | (rw [add_block]; exact Kd.own_blk (Kd.R_ne HO_4.out BK300.out (by decide))) | (show (Addr.add _ _).block ≠ _; rw [add_block]; exact Kd.own_blk (Kd.R_ne HO_4.out BK300.out (by decide))) | (dsimp only; exact Kd.own_blk (Kd.R_ne HO_4.out BK300.out (by decide)))) _).trans (((cell_far (p := ⟨gb300, _, none⟩) (by first | exact Kd.own_blk (Kd.R_ne HO_4.out BK300.out (by decide)) | (rw [add_block]; exact Kd.own_blk (Kd.R_ne HO_4.out BK300.out (by decide))) | (show (Addr.add _ _).block ≠ _; rw [add_block]; exact Kd.own_blk (Kd.R_ne HO_4.out BK300.out (by decide))) | (dsimp only; exact Kd.own_blk (Kd.R_ne HO_4.out BK300.out (by decide)))) _).trans (((cell_far (p := ⟨gb300, _, none⟩) (by first | exact Kd.own_blk (Kd.R_ne HO_4.out BK300.out (by decide)) | (rw [add_block]; exact Kd.own_blk (Kd.R_ne HO_4.out BK300.out (by decide))) | (show (Addr.add _ _).block ≠ _; rw [add_block]; exact Kd.own_blk (Kd.R_ne HO_4.out BK300.out (by decide))) | (dsimp only; exact Kd.own_blk (Kd.R_ne HO_4.out BK300.out (by decide)))) _).trans (hHeld.1)))))), ((cell_far (p := ⟨gb300, _, none⟩) (by first | exact Kd.own_blk (Kd.R_ne HO_4.out BK300.out (by decide)) | (rw [add_block]; exact Kd.own_blk (Kd.R_ne HO_4.out BK300.out (by decide))) | (show (Addr.add _ _).block ≠ _; rw [add_block]; exact Kd.own_blk (Kd.R_ne HO_4.out BK300.out (by decide))) | (dsimp only; exact Kd.own_blk (Kd.R_ne HO_4.out BK300.out (by decide)))) _).trans (((cell_far (p := ⟨gb300, _, none⟩) (by first | exact Kd.own_blk (Kd.R_ne HO_4.out BK300.out (by decide)) | (rw [add_block]; exact Kd.own_blk (Kd.R_ne HO_4.out BK300.out (by decide))) | (show (Addr.add _ _).block ≠ _; rw [add_block]; exact Kd.own_blk (Kd.R_ne HO_4.out BK300.out (by decide))) | (dsimp only; exact Kd.own_blk (Kd.R_ne HO_4.out BK300.out (by decide)))) _).trans (((cell_far (p := ⟨gb300, _, none⟩) (by first | exact Kd.own_blk (Kd.R_ne HO_4.out BK300.out (by decide)) | (rw [add_block]; exact Kd.own_blk (Kd.R_ne HO_4.out BK300.out (by decide))) | (show (Addr.add _ _).block ≠ _; rw [add_block]; exact Kd.own_blk (Kd.R_ne HO_4.out BK300.out (by decide))) | (dsimp only; exact Kd.own_blk (Kd.R_ne HO_4.out BK300.out (by decide)))) _).trans (hHeld.2.1)))))), ((cell_far (p := ⟨gb300, _, none⟩) (by first | exact Kd.own_blk (Kd.R_ne HO_4.out BK300.out (by decide)) | (rw [add_block]; exact Kd.own_blk (Kd.R_ne HO_4.out BK300.out (by decide))) | (show (Addr.add _ _).block ≠ _; rw [add_block]; exact Kd.own_blk (Kd.R_ne HO_4.out BK300.out (by decide))) | (dsimp only; exact Kd.own_blk (Kd.R_ne HO_4.out BK300.out (by decide)))) _).trans (((cell_far (p := ⟨gb300, _, none⟩) (by first | exact Kd.own_blk (Kd.R_ne HO_4.out BK300.out (by decide)) | (rw [add_block]; exact Kd.own_blk (Kd.R_ne HO_4.out BK300.out (by decide))) | (show (Addr.add _ _).block ≠ _; rw [add_block]; exact Kd.own_blk (Kd.R_ne HO_4.out BK300.out (by decide))) | (dsimp only; exact Kd.own_blk (Kd.R_ne HO_4.out BK300.out (by decide)))) _).trans (((cell_far (p := ⟨gb300, _, none⟩) (by first | exact Kd.own_blk (Kd.R_ne HO_4.out BK300.out (by decide)) | (rw [add_block]; exact Kd.own_blk (Kd.R_ne HO_4.out BK300.out (by decide))) | (show (Addr.add _ _).block ≠ _; rw [add_block]; exact Kd.own_blk (Kd.R_ne HO_4.out BK300.out (by decide))) | (dsimp only; exact Kd.own_blk (Kd.R_ne HO_4.out BK300.out (by decide)))) _).trans (hHeld.2.2.1)))))), ((cell_far (p := ⟨gb300, _, none⟩) (by first | exact Kd.own_blk (Kd.R_ne HO_4.out BK300.out (by decide)) | (rw [add_block]; exact Kd.own_blk (Kd.R_ne HO_4.out BK300.out (by decide))) | (show (Addr.add _ _).block ≠ _; rw [add_block]; exact Kd.own_blk (Kd.R_ne HO_4.out BK300.out (by decide))) | (dsimp only; exact Kd.own_blk (Kd.R_ne HO_4.out BK300.out (by decide)))) _).trans (((cell_far (p := ⟨gb300, _, none⟩) (by first | exact Kd.own_blk (Kd.R_ne HO_4.out BK300.out (by decide)) | (rw [add_block]; exact Kd.own_blk (Kd.R_ne HO_4.out BK300.out (by decide))) | (show (Addr.add _ _).block ≠ _; rw [add_block]; exact Kd.own_blk (Kd.R_ne HO_4.out BK300.out (by decide))) | (dsimp only; exact Kd.own_blk (Kd.R_ne HO_4.out BK300.out (by decide)))) _).trans (((cell_far (p := ⟨gb300, _, none⟩) (by first | exact Kd.own_blk (Kd.R_ne HO_4.out BK300.out (by decide)) | (rw [add_block]; exact Kd.own_blk (Kd.R_ne HO_4.out BK300.out (by decide))) | (show (Addr.add _ _).block ≠ _; rw [add_block]; exact Kd.own_blk (Kd.R_ne HO_4.out BK300.out (by decide))) | (dsimp only; exact Kd.own_blk (Kd.R_ne HO_4.out BK300.out (by decide)))) _).trans (hHeld.2.2.2.1)))))), ((cell_far (p := ⟨gb300, _, none⟩) (by first | exact Kd.own_blk (Kd.R_ne HO_4.out BK300.out (by decide)) | (rw [add_block]; exact Kd.own_blk (Kd.R_ne HO_4.out BK300.out (by decide))) | (show (Addr.add _ _).block ≠ _; rw [add_block]; exact Kd.own_blk (Kd.R_ne HO_4.out BK300.out (by decide))) | (dsimp only; exact Kd.own_blk (Kd.R_ne HO_4.out BK300.out (by decide)))) _).trans (((cell_far (p := ⟨gb300, _, none⟩) (by first | exact Kd.own_blk (Kd.R_ne HO_4.out BK300.out (by decide)) | (rw [add_block]; exact Kd.own_blk (Kd.R_ne HO_4.out BK300.out (by decide))) | (show (Addr.add _ _).block ≠ _; rw [add_block]; exact Kd.own_blk (Kd.R_ne HO_4.out BK300.out (by decide))) | (dsimp only; exact Kd.own_blk (Kd.R_ne HO_4.out BK300.out (by decide)))) _).trans (((cell_far (p := ⟨gb300, _, none⟩) (by first | exact Kd.own_blk (Kd.R_ne HO_4.out BK300.out (by decide)) | (rw [add_block]; exact Kd.own_blk (Kd.R_ne HO_4.out BK300.out (by decide))) | (show (Addr.add _ _).block ≠ _; rw [add_block]; exact Kd.own_blk (Kd.R_ne HO_4.out BK300.out (by decide))) | (dsimp only; exact Kd.own_blk (Kd.R_ne HO_4.out BK300.out (by decide)))) _).trans (hHeld.2.2.2.2.1)))))), ((cell_far (p := ⟨gb300, _, none⟩) (by first | exact Kd.own_blk (Kd.R_ne HO_4.out BK300.out (by decide)) | (rw [add_block]; exact Kd.own_blk (Kd.R_ne HO_4.out BK300.out (by decide))) | (show (Addr.add _ _).block ≠ _; rw [add_block]; exact Kd.own_blk (Kd.R_ne HO_4.out BK300.out (by decide))) | (dsimp only; exact Kd.own_blk (Kd.R_ne HO_4.out BK300.out (by decide)))) _).trans (((cell_far (p := ⟨gb300, _, none⟩) (by first | exact Kd.own_blk (Kd.R_ne HO_4.out BK300.out (by decide)) | (rw [add_block]; exact Kd.own_blk (Kd.R_ne HO_4.out BK300.out (by decide))) | (show (Addr.add _ _).block ≠ _; rw [add_block]; exact Kd.own_blk (Kd.R_ne HO_4.out BK300.out (by decide))) | (dsimp only; exact Kd.own_blk (Kd.R_ne HO_4.out BK300.out (by decide)))) _).trans (((cell_far (p := ⟨gb300, _, none⟩) (by first | exact Kd.own_blk (Kd.R_ne HO_4.out BK300.out (by decide)) | (rw [add_block]; exact Kd.own_blk (Kd.R_ne HO_4.out BK300.out (by decide))) | (show (Addr.add _ _).block ≠ _; rw [add_block]; exact Kd.own_blk (Kd.R_ne HO_4.out BK300.out (by decide))) | (dsimp only; exact Kd.own_blk (Kd.R_ne HO_4.out BK300.out (by decide)))) _).trans (hHeld.2.2.2.2.2.1)))))), ((cell_far (p := ⟨gb300, _, none⟩) (by first | exact Kd.own_blk (Kd.R_ne HO_4.out BK300.out (by decide)) | (rw [add_block]; exact Kd.own_blk (Kd.R_ne HO_4.out BK300.out (by decide))) | (show (Addr.add _ _).block ≠ _; rw [add_block]; exact Kd.own_blk (Kd.R_ne HO_4.out BK300.out (by decide))) | (dsimp only; exact Kd.own_blk (Kd.R_ne HO_4.out BK300.out (by decide)))) _).trans (((cell_far (p := ⟨gb300, _, none⟩) (by first | exact Kd.own_blk (Kd.R_ne HO_4.out BK300.out (by decide)) | (rw [add_block]; exact Kd.own_blk (Kd.R_ne HO_4.out BK300.out (by decide))) | (show (Addr.add _ _).block ≠ _; rw [add_block]; exact Kd.own_blk (Kd.R_ne HO_4.out BK300.out (by decide))) | (dsimp only; exact Kd.own_blk (Kd.R_ne HO_4.out BK300.out (by decide)))) _).trans (((cell_far (p := ⟨gb300, _, none⟩) (by first | exact Kd.own_blk (Kd.R_ne HO_4.out BK300.out (by decide)) | (rw [add_block]; exact Kd.own_blk (Kd.R_ne HO_4.out BK300.out (by decide))) | (show (Addr.add _ _).block ≠ _; rw [add_block]; exact Kd.own_blk (Kd.R_ne HO_4.out BK300.out (by decide))) | (dsimp only; exact Kd.own_blk (Kd.R_ne HO_4.out BK300.out (by decide)))) _).trans (hHeld.2.2.2.2.2.2.1)))))), ((cell_far (p := ⟨gb300, _, none⟩) (by first | exact Kd.own_blk (Kd.R_ne HO_4.out BK300.out (by decide)) | (rw [add_block]; exact Kd.own_blk (Kd.R_ne HO_4.out BK300.out (by decide))) | (show (Addr.add _ _).block ≠ _; rw [add_block]; exact Kd.own_blk (Kd.R_ne HO_4.out BK300.out (by decide))) | (dsimp only; exact Kd.own_blk (Kd.R_ne HO_4.out BK300.out (by decide)))) _).trans (((cell_far (p := ⟨gb300, _, none⟩) (by first | exact Kd.own_blk (Kd.R_ne HO_4.out BK300.out (by decide)) | (rw [add_block]; exact Kd.own_blk (Kd.R_ne HO_4.out BK300.out (by decide))) | (show (Addr.add _ _).block ≠ _; rw [add_block]; exact Kd.own_blk (Kd.R_ne HO_4.out BK300.out (by decide))) | (dsimp only; exact Kd.own_blk (Kd.R_ne HO_4.out BK300.out (by decide)))) _).trans (((cell_far (p := ⟨gb300, _, none⟩) (by first | exact Kd.own_blk (Kd.R_ne HO_4.out BK300.out (by decide)) | (rw [add_block]; exact Kd.own_blk (Kd.R_ne HO_4.out BK300.out (by decide))) | (show (Addr.add _ _).block ≠ _; rw [add_block]; exact Kd.own_blk (Kd.R_ne HO_4.out BK300.out (by decide))) | (dsimp only; exact Kd.own_blk (Kd.R_ne HO_4.out BK300.out (by decide)))) _).trans (hHeld.2.2.2.2.2.2.2))))))⟩ (fun hHeld => ?_)
                      clear hK K
                      refine done_ (done_of HT_.out (by kernel_rfl)) ?_
                      have hcz29_0 : w25.cell? ⟨gb300, 0, none⟩ = some (.string (⟨#[]⟩ : ByteArray)) := (blk_cell BK300.out 0).trans rfl
                      have hcz29_1 : w25.cell? ⟨gb300, 1, none⟩ = some (.bool false) := (blk_cell BK300.out 1).trans rfl
                      have hcz29_2 : w25.cell? ⟨gb300, 2, none⟩ = some (.slice none 0 0) := (blk_cell BK300.out 2).trans rfl
                      have hfz29_0 := blk_frozen BK300.out 0
                      have hfz29_1 := blk_frozen BK300.out 1
                      have hfz29_2 := blk_frozen BK300.out 2
                      try go_wp2
                      have n0_ : Aside0 (Kd.V (Kd.int .u8) 5 (((w25.setCell ⟨gb300, 0, none⟩ (.string ((rd_T51 t294 x7_1).f0))).setCell ⟨gb300, 1, none⟩ (.bool false)).setCell ⟨gb300, 2, none⟩ (.slice none 0 0)) w.heap.size (fun k_ => (P0_ k_ ∨ w.heap.size ≤ k_) ∧ some k_ ≠ (.slice (some ad298) t294.length co23 : Value).ownBlock ∧ some k_ ≠ (u6 : Value).ownBlock ∧ k_ ≠ gb300) (.slice A0 l0.length c0) l0) := ⟨by (with_reducible repeat (first | apply Kd.V_alloc | apply Kd.V_drewN | apply Kd.V_drew)); exact Kd.V_mono (Kd.V_far (p := ⟨gb300, 2, none⟩) (Kd.V_far (p := ⟨gb300, 1, none⟩) (Kd.V_far (p := ⟨gb300, 0, none⟩) (Kd.V_mono HO_0.out (fun k_ hk => (⟨hk, hk.2⟩ : _ ∧ k_ ≠ gb300))) (fun _ hk => hk.2) (.string ((rd_T51 t294 x7_1).f0))) (fun _ hk => hk.2) (.bool false)) (fun _ hk => hk.2) (.slice none 0 0)) (fun _ hk => ⟨hk.1.1.1, ⟨hk.1.1.2.1, ⟨hk.1.1.2.2, hk.1.2⟩⟩⟩)⟩
                      have n1_ : Aside0 (Kd.R k51 51 (((w25.setCell ⟨gb300, 0, none⟩ (.string ((rd_T51 t294 x7_1).f0))).setCell ⟨gb300, 1, none⟩ (.bool false)).setCell ⟨gb300, 2, none⟩ (.slice none 0 0)) w.heap.size (fun k_ => (w.heap.size ≤ k_)) (.slice (some ad298) t294.length co23) t294) := ⟨by (with_reducible repeat (first | apply Kd.R_alloc | apply Kd.R_drewN | apply Kd.R_drew)); exact Kd.R_mono (Kd.R_far (p := ⟨gb300, 2, none⟩) (Kd.R_far (p := ⟨gb300, 1, none⟩) (Kd.R_far (p := ⟨gb300, 0, none⟩) (Kd.R_types HO_4.out BK300.out (by decide)) (fun _ hk => hk.2) (.string ((rd_T51 t294 x7_1).f0))) (fun _ hk => hk.2) (.bool false)) (fun _ hk => hk.2) (.slice none 0 0)) (fun _ hk => hk.1)⟩
                      have n2_ : Aside0 (Kd.N k38 38 (((w25.setCell ⟨gb300, 0, none⟩ (.string ((rd_T51 t294 x7_1).f0))).setCell ⟨gb300, 1, none⟩ (.bool false)).setCell ⟨gb300, 2, none⟩ (.slice none 0 0)) w.heap.size (fun k_ => (P0_ k_ ∨ w.heap.size ≤ k_) ∧ some k_ ≠ (.slice (some ad298) t294.length co23 : Value).ownBlock ∧ k_ ≠ gb300) u6 x6_1) := ⟨by (with_reducible repeat (first | apply Kd.N_alloc | apply Kd.N_drewN | apply Kd.N_drew)); exact Kd.N_mono (Kd.N_far (p := ⟨gb300, 2, none⟩) (Kd.N_far (p := ⟨gb300, 1, none⟩) (Kd.N_far (p := ⟨gb300, 0, none⟩) (Kd.N_mono HO_6.out (fun k_ hk => (⟨hk, hk.2⟩ : _ ∧ k_ ≠ gb300))) (fun _ hk => hk.2) (.string ((rd_T51 t294 x7_1).f0))) (fun _ hk => hk.2) (.bool false)) (fun _ hk => hk.2) (.slice none 0 0)) (fun _ hk => ⟨hk.1.1.1, ⟨hk.1.1.2, hk.1.2⟩⟩)⟩
                      have n3_ : Aside0 ((((w25.setCell ⟨gb300, 0, none⟩ (.string ((rd_T51 t294 x7_1).f0))).setCell ⟨gb300, 1, none⟩ (.bool false)).setCell ⟨gb300, 2, none⟩ (.slice none 0 0)).heap[gb300]? = some (.cells #[.string ((rd_T51 t294 x7_1).f0), .bool false, .slice none 0 0] 38 (0, 0))) := ⟨by (with_reducible repeat (first | refine blk_drewN ?_ _ | refine blk_drew ?_ | refine blk_alloc ?_ _)); refine blk_put (cs := #[.string ((rd_T51 t294 x7_1).f0), .bool false, .slice none 0 0]) ?_ 2 _ rfl; (with_reducible repeat (first | refine blk_drewN ?_ _ | refine blk_drew ?_ | refine blk_alloc ?_ _)); refine blk_put (cs := #[.string ((rd_T51 t294 x7_1).f0), .bool false, .slice none 0 0]) ?_ 1 _ rfl; (with_reducible repeat (first | refine blk_drewN ?_ _ | refine blk_drew ?_ | refine blk_alloc ?_ _)); refine blk_put (cs := #[.string (⟨#[]⟩ : ByteArray), .bool false, .slice none 0 0]) ?_ 0 _ rfl; (with_reducible repeat (first | refine blk_drewN ?_ _ | refine blk_drew ?_ | refine blk_alloc ?_ _)); exact BK300.out⟩
                      have n4_ : Aside0 (Below w.heap.size w (((w25.setCell ⟨gb300, 0, none⟩ (.string ((rd_T51 t294 x7_1).f0))).setCell ⟨gb300, 1, none⟩ (.bool false)).setCell ⟨gb300, 2, none⟩ (.slice none 0 0))) := ⟨by repeat (first | (with_reducible first | exact HB.out | apply below_alloc | apply pw_below_drewN | apply below_drew1 | refine below_set ?_ GE300.out) | exact HB.out)⟩
                      (try clear HO_0)
                      (try clear HO_4)
                      (try clear HO_6)
                      (try clear BK300)
                      (try clear HB)
                      generalize (((w25.setCell ⟨gb300, 0, none⟩ (.string ((rd_T51 t294 x7_1).f0))).setCell ⟨gb300, 1, none⟩ (.bool false)).setCell ⟨gb300, 2, none⟩ (.slice none 0 0)) = w30 at n0_ n1_ n2_ n3_ n4_ ⊢
                      have HO_0 := n0_
                      have HO_4 := n1_
                      have HO_6 := n2_
                      have BK300 := n3_
                      have HB := n4_
                      clear n0_ n1_ n2_ n3_ n4_
                      have n0_ := Aside0.mk (Kd.V_drew HO_0.out)
                      have n1_ := Aside0.mk (Kd.R_drew HO_4.out)
                      have n2_ := Aside0.mk (Kd.N_drew HO_6.out)
                      have n3_ := Aside0.mk (blk_drew BK300.out)
                      have n4_ := Aside0.mk (below_drew1 HB.out)
                      clear HO_0
                      clear HO_4
                      clear HO_6
                      clear BK300
                      clear HB
                      have HO_0 := n0_
                      have HO_4 := n1_
                      have HO_6 := n2_
                      have BK300 := n3_
                      have HB := n4_
                      clear n0_ n1_ n2_ n3_ n4_
                      have p304 : 0 ≤ (x7_1 : Int) := of_decide_eq_true (by first | (with_reducible assumption) | assumption)
                      have q304 : x7_1 < (t294.length : Int) := of_decide_eq_true (by first | (with_reducible assumption) | assumption)
                      obtain ⟨ad304, e304, hx304_0, hx304_1, hx304_2, hx304_3⟩ := at_T51 (Kd.R_reads' HO_4.out).2.2 x7_1 p304 q304
                      (try rw [← Nbq7.out] at hx304_1)
                      obtain rfl : ad298 = ad304 := (by injection e304)
                      replace p304 := eq_true p304
                      replace q304 := eq_true q304
                      have p305 : 0 ≤ (x7_1 : Int) := of_decide_eq_true (by first | (with_reducible assumption) | assumption)
                      have q305 : x7_1 < (t294.length : Int) := of_decide_eq_true (by first | (with_reducible assumption) | assumption)
                      obtain ⟨ad305, e305, hx305_0, hx305_1, hx305_2, hx305_3⟩ := at_T51 (Kd.R_reads' HO_4.out).2.2 x7_1 p305 q305
                      (try rw [← Nbq7.out] at hx305_1)
                      obtain rfl : ad298 = ad305 := (by injection e305)
                      replace p305 := eq_true p305
                      replace q305 := eq_true q305
                      have p306 : 0 ≤ (x7_1 : Int) := of_decide_eq_true (by first | (with_reducible assumption) | assumption)
                      have q306 : x7_1 < (t294.length : Int) := of_decide_eq_true (by first | (with_reducible assumption) | assumption)
                      obtain ⟨ad306, e306, hx306_0, hx306_1, hx306_2, hx306_3⟩ := at_T51 (Kd.R_reads' HO_4.out).2.2 x7_1 p306 q306
                      (try rw [← Nbq7.out] at hx306_1)
                      obtain rfl : ad298 = ad306 := (by injection e306)
                      replace p306 := eq_true p306
                      replace q306 := eq_true q306
                      have q32 : ((ji19) : Int) ≤ ((l0.length : Int) : Int) := of_decide_eq_true (by first | (with_reducible assumption) | assumption)
                      obtain ⟨i032, hi032, _, hsz32, _⟩ := info_parts info5
                      have hroom32 : l0.length ≤ c0 := (Kd.V_reads' HO_0.out).2.1
                      have hC32 : Kd.F (Kd.int .u8) _ _ A0 l0.length l0 := (Kd.V_at (base := w.heap.size) HO_0.out).2.2
                      have ql32 : (((rd_T51 t294 x7_1).f2) : Int) ≤ ((ji19) : Int) := of_decide_eq_true (by first | (with_reducible assumption) | assumption)
                      have q032 : (0 : Int) ≤ (((rd_T51 t294 x7_1).f2) : Int) := of_decide_eq_true (by first | (with_reducible assumption) | assumption)
                      have hcut32 := cut_mid (P := Try.prog) 26 5 .i64 .i64 Try.underlying26 hi032 1 hsz32 A0 l0.length c0 ((rd_T51 t294 x7_1).f2) (ji19) q032 ql32 q32 hroom32
                      have hr32 := Kd.F_mid (lo := (((rd_T51 t294 x7_1).f2) : Int).toNat) (hi := ((ji19) : Int).toNat) (c := c0) hC32 (by (try clear hji19; try clear hji19w; omega)) (by (try clear hji19; try clear hji19w; omega)) hroom32
                      obtain ⟨A32, hA32⟩ : ∃ A1, A1 = (if c0 = (((rd_T51 t294 x7_1).f2) : Int).toNat then A0 else (A0 : Option Addr).map (·.add ((((rd_T51 t294 x7_1).f2) : Int).toNat * 1))) := ⟨_, rfl⟩
                      obtain ⟨c32, hc32⟩ : ∃ c1, c1 = c0 - (((rd_T51 t294 x7_1).f2) : Int).toNat := ⟨_, rfl⟩
                      have hy32 : y307.length = ((ji19) : Int).toNat - (((rd_T51 t294 x7_1).f2) : Int).toNat := (by rw [Ny307.out, List.length_drop, List.length_take] <;> (try clear hji19; try clear hji19w; omega))
                      rw [show ((l0).take ((ji19) : Int).toNat).drop (((rd_T51 t294 x7_1).f2) : Int).toNat = y307 from Ny307.out.symm] at hr32
                      replace hr32 : Kd.F (Kd.int .u8) _ _ A32 y307.length y307 := (by rw [hA32]; exact hr32)
                      rw [← hy32, ← hA32, ← hc32] at hcut32
                      have HO311 := Aside0.mk (show Kd.V (Kd.int .u8) 5 _ w.heap.size _ (.slice A32 y307.length c32) y307 from Kd.V_mk (by rw [hy32, hc32]; exact Nat.sub_le_sub_right (Nat.le_trans (by (try clear hji19; try clear hji19w; omega)) hroom32) _) hr32)
                      have HC311 := Aside0.mk (show y307.length ≤ c32 from by rw [hy32, hc32]; exact Nat.sub_le_sub_right (Nat.le_trans (by (try clear hji19; try clear hji19w; omega)) hroom32) _)
                      clear hr32 hC32 hroom32 hi032 hsz32 hc32
                      have KY32 := Aside0.mk hy32
                      have KA32 := Aside0.mk hA32
                      clear hy32 hA32
                      replace q32 := eq_true q32
                      refine start_ (n := 20) (S := fun w' => w'.cell? (ad298.add ((x7_1).toNat * 4)) = some (.string ((rd_T51 t294 x7_1).f0)) ∧ w'.cell? ⟨(ad298.add ((x7_1).toNat * 4)).block, (ad298.add ((x7_1).toNat * 4)).off + 1, none⟩ = some (.bool (false)) ∧ w'.cell? ⟨(ad298.add ((x7_1).toNat * 4)).block, (ad298.add ((x7_1).toNat * 4)).off + 2, none⟩ = some (.int .i64 ((rd_T51 t294 x7_1).f2)) ∧ w'.cell? ⟨(ad298.add ((x7_1).toNat * 4)).block, (ad298.add ((x7_1).toNat * 4)).off + 3, none⟩ = some (.int .i64 ((rd_T51 t294 x7_1).f3)) ∧ w'.cell? (ad298.add ((x7_1).toNat * 4)) = some (.string ((rd_T51 t294 x7_1).f0)) ∧ w'.cell? ⟨(ad298.add ((x7_1).toNat * 4)).block, (ad298.add ((x7_1).toNat * 4)).off + 1, none⟩ = some (.bool (false)) ∧ w'.cell? ⟨(ad298.add ((x7_1).toNat * 4)).block, (ad298.add ((x7_1).toNat * 4)).off + 2, none⟩ = some (.int .i64 ((rd_T51 t294 x7_1).f2)) ∧ w'.cell? ⟨(ad298.add ((x7_1).toNat * 4)).block, (ad298.add ((x7_1).toNat * 4)).off + 3, none⟩ = some (.int .i64 ((rd_T51 t294 x7_1).f3)) ∧ w'.cell? (ad298.add ((x7_1).toNat * 4)) = some (.string ((rd_T51 t294 x7_1).f0)) ∧ w'.cell? ⟨(ad298.add ((x7_1).toNat * 4)).block, (ad298.add ((x7_1).toNat * 4)).off + 1, none⟩ = some (.bool (false)) ∧ w'.cell? ⟨(ad298.add ((x7_1).toNat * 4)).block, (ad298.add ((x7_1).toNat * 4)).off + 2, none⟩ = some (.int .i64 ((rd_T51 t294 x7_1).f2)) ∧ w'.cell? ⟨(ad298.add ((x7_1).toNat * 4)).block, (ad298.add ((x7_1).toNat * 4)).off + 3, none⟩ = some (.int .i64 ((rd_T51 t294 x7_1).f3))) (ds := []) #[false, false, false, false, false, false, false, false, false, false, false, false, false, false, false, false, false, false, false, false] (by kernel_rfl) rfl rfl ⟨hx304_0, hx304_1, hx304_2, hx304_3, hx305_0, hx305_1, hx305_2, hx305_3, hx306_0, hx306_1, hx306_2, hx306_3⟩ (fun hHeld => ?_); refine with_tabW waybillref7_Ops.tab10 waybillref7_Ops.bits10 (fun HT_ HW_ => ?_)
                      generalize w30.drew = w31 at HO_0 HO_4 HO_6 BK300 HB HO311 hx304_0 hx304_1 hx304_2 hx304_3 hx305_0 hx305_1 hx305_2 hx305_3 hx306_0 hx306_1 hx306_2 hx306_3 hHeld ⊢
                      refine pure_ (i := 0) (N := some 36) (v := ?_) (a' := ?_) #[true, false, false, false, false, false, false, false, false, false, false, false, false, false, false, false, false, false, false, false] rfl rfl (any_of HT_.out (by kernel_rfl)) (fun _ _ _ h => h) (Or.inl ⟨by rfl, ?_⟩) ?_ ?_
                      rotate_left
                      · intro w'
                        go_simp
                        with_reducible rfl
                      rotate_left
                      · simp only [Act.put, List.setIfInBounds_toArray, List.set_cons_zero, List.set_cons_succ, i64_w, i32_w]
                        rfl
                      refine pure_ (i := 1) (N := some 37) (v := ?_) (a' := ?_) #[true, true, false, false, false, false, false, false, false, false, false, false, false, false, false, false, false, false, false, false] rfl rfl (any_of HT_.out (by kernel_rfl)) (fun _ _ _ h => h) (Or.inl ⟨by rfl, ?_⟩) ?_ ?_
                      rotate_left
                      · intro w'
                        go_simp
                        with_reducible rfl
                      rotate_left
                      · simp only [Act.put, List.setIfInBounds_toArray, List.set_cons_zero, List.set_cons_succ, i64_w, i32_w]
                        rfl
                      refine pure_ (i := 2) (N := some 38) (v := ?_) (a' := ?_) #[true, true, true, false, false, false, false, false, false, false, false, false, false, false, false, false, false, false, false, false] rfl rfl (any_of HT_.out (by kernel_rfl)) (fun _ _ _ h => h) (Or.inl ⟨by rfl, ?_⟩) ?_ ?_
                      rotate_left
                      · intro w'
                        go_simp
                        with_reducible rfl
                      rotate_left
                      · simp only [Act.put, List.setIfInBounds_toArray, List.set_cons_zero, List.set_cons_succ, i64_w, i32_w]
                        rfl
                      refine pure_ (i := 3) (N := some 39) (v := ?_) (a' := ?_) #[true, true, true, true, false, false, false, false, false, false, false, false, false, false, false, false, false, false, false, false] rfl rfl (any_of HT_.out (by kernel_rfl)) (fun _ _ _ h => h) (Or.inl ⟨by rfl, ?_⟩) ?_ ?_
                      rotate_left
                      · intro w'
                        go_simp
                        with_reducible rfl
                      rotate_left
                      · simp only [Act.put, List.setIfInBounds_toArray, List.set_cons_zero, List.set_cons_succ, i64_w, i32_w]
                        rfl
                      refine pure_ (i := 4) (N := some 40) (v := ?_) (a' := ?_) #[true, true, true, true, true, false, false, false, false, false, false, false, false, false, false, false, false, false, false, false] rfl rfl (any_of HT_.out (by kernel_rfl)) (fun _ _ _ h => h) (Or.inl ⟨by rfl, ?_⟩) ?_ ?_
                      rotate_left
                      · intro w'
                        go_simp
                        with_reducible rfl
                      rotate_left
                      · simp only [Act.put, List.setIfInBounds_toArray, List.set_cons_zero, List.set_cons_succ, i64_w, i32_w]
                        rfl
                      refine pure_ (i := 6) (N := some 42) (v := ?_) (a' := ?_) #[true, true, true, true, true, false, true, false, false, false, false, false, false, false, false, false, false, false, false, false] rfl rfl (any_of HT_.out (by kernel_rfl)) (fun _ _ _ h => h) (Or.inl ⟨by rfl, ?_⟩) ?_ ?_
                      rotate_left
                      · intro w'
                        go_simp
                        with_reducible rfl
                      rotate_left
                      · simp only [Act.put, List.setIfInBounds_toArray, List.set_cons_zero, List.set_cons_succ, i64_w, i32_w]
                        rfl
                      refine pure_ (i := 7) (N := some 43) (v := ?_) (a' := ?_) #[true, true, true, true, true, false, true, true, false, false, false, false, false, false, false, false, false, false, false, false] rfl rfl (any_of HT_.out (by kernel_rfl)) (fun _ _ _ h => h) (Or.inl ⟨by rfl, ?_⟩) ?_ ?_
                      rotate_left
                      · intro w'
                        go_simp
                        with_reducible rfl
                      rotate_left
                      · simp only [Act.put, List.setIfInBounds_toArray, List.set_cons_zero, List.set_cons_succ, i64_w, i32_w]
                        rfl
                      refine pure_ (i := 8) (N := some 44) (v := ?_) (a' := ?_) #[true, true, true, true, true, false, true, true, true, false, false, false, false, false, false, false, false, false, false, false] rfl rfl (any_of HT_.out (by kernel_rfl)) (fun _ _ _ h => h) (Or.inl ⟨by rfl, ?_⟩) ?_ ?_
                      rotate_left
                      · intro w'
                        go_simp
                        with_reducible rfl
                      rotate_left
                      · simp only [Act.put, List.setIfInBounds_toArray, List.set_cons_zero, List.set_cons_succ, i64_w, i32_w]
                        rfl
                      refine pure_ (i := 9) (N := some 45) (v := ?_) (a' := ?_) #[true, true, true, true, true, false, true, true, true, true, false, false, false, false, false, false, false, false, false, false] rfl rfl (any_of HT_.out (by kernel_rfl)) (fun _ _ _ h => h) (Or.inl ⟨by rfl, ?_⟩) ?_ ?_
                      rotate_left
                      · intro w'
                        go_simp
                        with_reducible rfl
                      rotate_left
                      · simp only [Act.put, List.setIfInBounds_toArray, List.set_cons_zero, List.set_cons_succ, i64_w, i32_w]
                        rfl
                      refine pure_ (i := 11) (N := some 47) (v := ?_) (a' := ?_) #[true, true, true, true, true, false, true, true, true, true, false, true, false, false, false, false, false, false, false, false] rfl rfl (any_of HT_.out (by kernel_rfl)) (fun _ _ _ h => h) (Or.inl ⟨by rfl, ?_⟩) ?_ ?_
                      rotate_left
                      · intro w'
                        go_simp
                        with_reducible rfl
                      rotate_left
                      · simp only [Act.put, List.setIfInBounds_toArray, List.set_cons_zero, List.set_cons_succ, i64_w, i32_w]
                        rfl
                      refine pure_ (i := 12) (N := some 48) (v := ?_) (a' := ?_) #[true, true, true, true, true, false, true, true, true, true, false, true, true, false, false, false, false, false, false, false] rfl rfl (any_of HT_.out (by kernel_rfl)) (fun _ _ _ h => h) (Or.inl ⟨by rfl, ?_⟩) ?_ ?_
                      rotate_left
                      · intro w'
                        go_simp
                        with_reducible rfl
                      rotate_left
                      · simp only [Act.put, List.setIfInBounds_toArray, List.set_cons_zero, List.set_cons_succ, i64_w, i32_w]
                        rfl
                      refine pure_ (i := 13) (N := some 49) (v := ?_) (a' := ?_) #[true, true, true, true, true, false, true, true, true, true, false, true, true, true, false, false, false, false, false, false] rfl rfl (any_of HT_.out (by kernel_rfl)) (fun _ _ _ h => h) (Or.inl ⟨by rfl, ?_⟩) ?_ ?_
                      rotate_left
                      · intro w'
                        go_simp
                        with_reducible rfl
                      rotate_left
                      · simp only [Act.put, List.setIfInBounds_toArray, List.set_cons_zero, List.set_cons_succ, i64_w, i32_w]
                        rfl
                      refine pure_ (i := 14) (N := some 50) (v := ?_) (a' := ?_) #[true, true, true, true, true, false, true, true, true, true, false, true, true, true, true, false, false, false, false, false] rfl rfl (any_of HT_.out (by kernel_rfl)) (fun _ _ _ h => h) (Or.inl ⟨by rfl, ?_⟩) ?_ ?_
                      rotate_left
                      · intro w'
                        go_simp
                        with_reducible rfl
                      rotate_left
                      · simp only [Act.put, List.setIfInBounds_toArray, List.set_cons_zero, List.set_cons_succ, i64_w, i32_w]
                        rfl
                      refine take_ (i := 5) (N := some 41) (v := ?_) (a' := ?_) #[true, true, true, true, true, true, true, true, true, true, false, true, true, true, true, false, false, false, false, false] rfl rfl (take_ofW HT_.out HW_.out (by kernel_rfl)) (fun _ _ _ h => h) (Or.inl ⟨by rfl, ?_⟩) hHeld ?_ ?_
                      rotate_left
                      · rintro w' ⟨s0, s1, s2, s3, s4, s5, s6, s7, s8, s9, s10, s11⟩
                        go_simp
                        with_reducible rfl
                      rotate_left
                      · simp only [Act.put, List.setIfInBounds_toArray, List.set_cons_zero, List.set_cons_succ, i64_w, i32_w]
                        rfl
                      refine take_ (i := 10) (N := some 46) (v := ?_) (a' := ?_) #[true, true, true, true, true, true, true, true, true, true, true, true, true, true, true, false, false, false, false, false] rfl rfl (take_ofW HT_.out HW_.out (by kernel_rfl)) (fun _ _ _ h => h) (Or.inl ⟨by rfl, ?_⟩) hHeld ?_ ?_
                      rotate_left
                      · rintro w' ⟨s0, s1, s2, s3, s4, s5, s6, s7, s8, s9, s10, s11⟩
                        go_simp
                        with_reducible rfl
                      rotate_left
                      · simp only [Act.put, List.setIfInBounds_toArray, List.set_cons_zero, List.set_cons_succ, i64_w, i32_w]
                        rfl
                      refine take_ (i := 15) (N := some 51) (v := ?_) (a' := ?_) #[true, true, true, true, true, true, true, true, true, true, true, true, true, true, true, true, false, false, false, false] rfl rfl (take_ofW HT_.out HW_.out (by kernel_rfl)) (fun _ _ _ h => h) (Or.inl ⟨by rfl, ?_⟩) hHeld ?_ ?_
                      rotate_left
                      · rintro w' ⟨s0, s1, s2, s3, s4, s5, s6, s7, s8, s9, s10, s11⟩
                        go_simp
                        with_reducible rfl
                      rotate_left
                      · simp only [Act.put, List.setIfInBounds_toArray, List.set_cons_zero, List.set_cons_succ, i64_w, i32_w]
                        rfl
                      refine pure_ (i := 16) (N := some 52) (v := ?_) (a' := ?_) #[true, true, true, true, true, true, true, true, true, true, true, true, true, true, true, true, true, false, false, false] rfl rfl (any_of HT_.out (by kernel_rfl)) (fun _ _ _ h => h) (Or.inl ⟨by rfl, ?_⟩) ?_ ?_
                      rotate_left
                      · intro w'
                        go_simp
                        with_reducible rfl
                      rotate_left
                      · simp only [Act.put, List.setIfInBounds_toArray, List.set_cons_zero, List.set_cons_succ, i64_w, i32_w]
                        rfl
                      refine pure_ (i := 17) (N := some 53) (v := ?_) (a' := ?_) #[true, true, true, true, true, true, true, true, true, true, true, true, true, true, true, true, true, true, false, false] rfl rfl (any_of HT_.out (by kernel_rfl)) (fun _ _ _ h => h) (Or.inl ⟨by rfl, ?_⟩) ?_ ?_
                      rotate_left
                      · intro w'
                        go_simp
                        with_reducible rfl
                      rotate_left
                      · simp only [Act.put, List.setIfInBounds_toArray, List.set_cons_zero, List.set_cons_succ, i64_w, i32_w]
                        rfl
                      refine pure_ (i := 18) (N := some 54) (v := ?_) (a' := ?_) #[true, true, true, true, true, true, true, true, true, true, true, true, true, true, true, true, true, true, true, false] rfl rfl (any_of HT_.out (by kernel_rfl)) (fun _ _ _ h => h) (Or.inl ⟨by rfl, ?_⟩) ?_ ?_
                      rotate_left
                      · intro w'
                        go_simp
                        with_reducible rfl
                      rotate_left
                      · simp only [Act.put, List.setIfInBounds_toArray, List.set_cons_zero, List.set_cons_succ, i64_w, i32_w]
                        rfl
                      refine one_ (i := 19) (N := none) #[true, true, true, true, true, true, true, true, true, true, true, true, true, true, true, true, true, true, true, true] rfl rfl (one_of HT_.out (by kernel_rfl)) (by decide) (fun K hK => ?_)
                      have hs33 : w31.cell? ⟨gb300, 2, none⟩ = some (.slice none 0 0) := (blk_cell BK300.out 2).trans rfl
                      have hfs33 := blk_frozen BK300.out 2
                      refine skip_ (w1 := ?_) (by rfl) rfl ?_ ?_
                      rotate_left
                      · go_simp
                        rfl
                      refine hK.out _ _ ⟨((cell_far (p := ⟨gb300, _, none⟩) (by first | exact Kd.own_blk (Kd.R_ne HO_4.out BK300.out (by decide)) | (rw [add_block]; exact Kd.own_blk (Kd.R_ne HO_4.out BK300.out (by decide))) | (show (Addr.add _ _).block ≠ _; rw [add_block]; exact Kd.own_blk (Kd.R_ne HO_4.out BK300.out (by decide))) | (dsimp only; exact Kd.own_blk (Kd.R_ne HO_4.out BK300.out (by decide)))) _).trans (hHeld.1)), ((cell_far (p := ⟨gb300, _, none⟩) (by first | exact Kd.own_blk (Kd.R_ne HO_4.out BK300.out (by decide)) | (rw [add_block]; exact Kd.own_blk (Kd.R_ne HO_4.out BK300.out (by decide))) | (show (Addr.add _ _).block ≠ _; rw [add_block]; exact Kd.own_blk (Kd.R_ne HO_4.out BK300.out (by decide))) | (dsimp only; exact Kd.own_blk (Kd.R_ne HO_4.out BK300.out (by decide)))) _).trans (hHeld.2.1)), ((cell_far (p := ⟨gb300, _, none⟩) (by first | exact Kd.own_blk (Kd.R_ne HO_4.out BK300.out (by decide)) | (rw [add_block]; exact Kd.own_blk (Kd.R_ne HO_4.out BK300.out (by decide))) | (show (Addr.add _ _).block ≠ _; rw [add_block]; exact Kd.own_blk (Kd.R_ne HO_4.out BK300.out (by decide))) | (dsimp only; exact Kd.own_blk (Kd.R_ne HO_4.out BK300.out (by decide)))) _).trans (hHeld.2.2.1)), ((cell_far (p := ⟨gb300, _, none⟩) (by first | exact Kd.own_blk (Kd.R_ne HO_4.out BK300.out (by decide)) | (rw [add_block]; exact Kd.own_blk (Kd.R_ne HO_4.out BK300.out (by decide))) | (show (Addr.add _ _).block ≠ _; rw [add_block]; exact Kd.own_blk (Kd.R_ne HO_4.out BK300.out (by decide))) | (dsimp only; exact Kd.own_blk (Kd.R_ne HO_4.out BK300.out (by decide)))) _).trans (hHeld.2.2.2.1)), ((cell_far (p := ⟨gb300, _, none⟩) (by first | exact Kd.own_blk (Kd.R_ne HO_4.out BK300.out (by decide)) | (rw [add_block]; exact Kd.own_blk (Kd.R_ne HO_4.out BK300.out (by decide))) | (show (Addr.add _ _).block ≠ _; rw [add_block]; exact Kd.own_blk (Kd.R_ne HO_4.out BK300.out (by decide))) | (dsimp only; exact Kd.own_blk (Kd.R_ne HO_4.out BK300.out (by decide)))) _).trans (hHeld.2.2.2.2.1)), ((cell_far (p := ⟨gb300, _, none⟩) (by first | exact Kd.own_blk (Kd.R_ne HO_4.out BK300.out (by decide)) | (rw [add_block]; exact Kd.own_blk (Kd.R_ne HO_4.out BK300.out (by decide))) | (show (Addr.add _ _).block ≠ _; rw [add_block]; exact Kd.own_blk (Kd.R_ne HO_4.out BK300.out (by decide))) | (dsimp only; exact Kd.own_blk (Kd.R_ne HO_4.out BK300.out (by decide)))) _).trans (hHeld.2.2.2.2.2.1)), ((cell_far (p := ⟨gb300, _, none⟩) (by first | exact Kd.own_blk (Kd.R_ne HO_4.out BK300.out (by decide)) | (rw [add_block]; exact Kd.own_blk (Kd.R_ne HO_4.out BK300.out (by decide))) | (show (Addr.add _ _).block ≠ _; rw [add_block]; exact Kd.own_blk (Kd.R_ne HO_4.out BK300.out (by decide))) | (dsimp only; exact Kd.own_blk (Kd.R_ne HO_4.out BK300.out (by decide)))) _).trans (hHeld.2.2.2.2.2.2.1)), ((cell_far (p := ⟨gb300, _, none⟩) (by first | exact Kd.own_blk (Kd.R_ne HO_4.out BK300.out (by decide)) | (rw [add_block]; exact Kd.own_blk (Kd.R_ne HO_4.out BK300.out (by decide))) | (show (Addr.add _ _).block ≠ _; rw [add_block]; exact Kd.own_blk (Kd.R_ne HO_4.out BK300.out (by decide))) | (dsimp only; exact Kd.own_blk (Kd.R_ne HO_4.out BK300.out (by decide)))) _).trans (hHeld.2.2.2.2.2.2.2.1)), ((cell_far (p := ⟨gb300, _, none⟩) (by first | exact Kd.own_blk (Kd.R_ne HO_4.out BK300.out (by decide)) | (rw [add_block]; exact Kd.own_blk (Kd.R_ne HO_4.out BK300.out (by decide))) | (show (Addr.add _ _).block ≠ _; rw [add_block]; exact Kd.own_blk (Kd.R_ne HO_4.out BK300.out (by decide))) | (dsimp only; exact Kd.own_blk (Kd.R_ne HO_4.out BK300.out (by decide)))) _).trans (hHeld.2.2.2.2.2.2.2.2.1)), ((cell_far (p := ⟨gb300, _, none⟩) (by first | exact Kd.own_blk (Kd.R_ne HO_4.out BK300.out (by decide)) | (rw [add_block]; exact Kd.own_blk (Kd.R_ne HO_4.out BK300.out (by decide))) | (show (Addr.add _ _).block ≠ _; rw [add_block]; exact Kd.own_blk (Kd.R_ne HO_4.out BK300.out (by decide))) | (dsimp only; exact Kd.own_blk (Kd.R_ne HO_4.out BK300.out (by decide)))) _).trans (hHeld.2.2.2.2.2.2.2.2.2.1)), ((cell_far (p := ⟨gb300, _, none⟩) (by first | exact Kd.own_blk (Kd.R_ne HO_4.out BK300.out (by decide)) | (rw [add_block]; exact Kd.own_blk (Kd.R_ne HO_4.out BK300.out (by decide))) | (show (Addr.add _ _).block ≠ _; rw [add_block]; exact Kd.own_blk (Kd.R_ne HO_4.out BK300.out (by decide))) | (dsimp only; exact Kd.own_blk (Kd.R_ne HO_4.out BK300.out (by decide)))) _).trans (hHeld.2.2.2.2.2.2.2.2.2.2.1)), ((cell_far (p := ⟨gb300, _, none⟩) (by first | exact Kd.own_blk (Kd.R_ne HO_4.out BK300.out (by decide)) | (rw [add_block]; exact Kd.own_blk (Kd.R_ne HO_4.out BK300.out (by decide))) | (show (Addr.add _ _).block ≠ _; rw [add_block]; exact Kd.own_blk (Kd.R_ne HO_4.out BK300.out (by decide))) | (dsimp only; exact Kd.own_blk (Kd.R_ne HO_4.out BK300.out (by decide)))) _).trans (hHeld.2.2.2.2.2.2.2.2.2.2.2))⟩ (fun hHeld => ?_)
                      clear hK K
                      refine done_ (done_of HT_.out (by kernel_rfl)) ?_
                      have n0_ : Aside0 (Kd.V (Kd.int .u8) 5 (w31.setCell ⟨gb300, 2, none⟩ (.slice A32 y307.length c32)) w.heap.size (fun k_ => (P0_ k_ ∨ w.heap.size ≤ k_) ∧ some k_ ≠ (.slice (some ad298) t294.length co23 : Value).ownBlock ∧ some k_ ≠ (u6 : Value).ownBlock ∧ k_ ≠ gb300) (.slice A0 l0.length c0) l0) := ⟨by (with_reducible repeat (first | apply Kd.V_alloc | apply Kd.V_drewN | apply Kd.V_drew)); exact Kd.V_mono (Kd.V_far (p := ⟨gb300, 2, none⟩) (Kd.V_mono HO_0.out (fun k_ hk => (⟨hk, hk.2.2.2⟩ : _ ∧ k_ ≠ gb300))) (fun _ hk => hk.2) (.slice A32 y307.length c32)) (fun _ hk => ⟨hk.1.1, ⟨hk.1.2.1, ⟨hk.1.2.2.1, hk.1.2.2.2⟩⟩⟩)⟩
                      have n1_ : Aside0 (Kd.R k51 51 (w31.setCell ⟨gb300, 2, none⟩ (.slice A32 y307.length c32)) w.heap.size (fun k_ => (w.heap.size ≤ k_)) (.slice (some ad298) t294.length co23) t294) := ⟨by (with_reducible repeat (first | apply Kd.R_alloc | apply Kd.R_drewN | apply Kd.R_drew)); exact Kd.R_mono (Kd.R_far (p := ⟨gb300, 2, none⟩) (Kd.R_types HO_4.out BK300.out (by decide)) (fun _ hk => hk.2) (.slice A32 y307.length c32)) (fun _ hk => hk.1)⟩
                      have n2_ : Aside0 (Kd.N k38 38 (w31.setCell ⟨gb300, 2, none⟩ (.slice A32 y307.length c32)) w.heap.size (fun k_ => (P0_ k_ ∨ w.heap.size ≤ k_) ∧ some k_ ≠ (.slice (some ad298) t294.length co23 : Value).ownBlock ∧ k_ ≠ gb300) u6 x6_1) := ⟨by (with_reducible repeat (first | apply Kd.N_alloc | apply Kd.N_drewN | apply Kd.N_drew)); exact Kd.N_mono (Kd.N_far (p := ⟨gb300, 2, none⟩) (Kd.N_mono HO_6.out (fun k_ hk => (⟨hk, hk.2.2⟩ : _ ∧ k_ ≠ gb300))) (fun _ hk => hk.2) (.slice A32 y307.length c32)) (fun _ hk => ⟨hk.1.1, ⟨hk.1.2.1, hk.1.2.2⟩⟩)⟩
                      have n3_ : Aside0 (Kd.V (Kd.int .u8) 5 (w31.setCell ⟨gb300, 2, none⟩ (.slice A32 y307.length c32)) w.heap.size (fun k_ => (P0_ k_ ∨ w.heap.size ≤ k_) ∧ some k_ ≠ (.slice (some ad298) t294.length co23 : Value).ownBlock ∧ some k_ ≠ (u6 : Value).ownBlock ∧ k_ ≠ gb300) (.slice A32 y307.length c32) y307) := ⟨by (with_reducible repeat (first | apply Kd.V_alloc | apply Kd.V_drewN | apply Kd.V_drew)); exact Kd.V_mono (Kd.V_far (p := ⟨gb300, 2, none⟩) (Kd.V_mono HO311.out (fun k_ hk => (⟨hk, hk.2.2.2⟩ : _ ∧ k_ ≠ gb300))) (fun _ hk => hk.2) (.slice A32 y307.length c32)) (fun _ hk => ⟨hk.1.1, ⟨hk.1.2.1, ⟨hk.1.2.2.1, hk.1.2.2.2⟩⟩⟩)⟩
                      have n4_ : Aside0 ((w31.setCell ⟨gb300, 2, none⟩ (.slice A32 y307.length c32)).heap[gb300]? = some (.cells #[.string ((rd_T51 t294 x7_1).f0), .bool false, .slice A32 y307.length c32] 38 (0, 0))) := ⟨by (with_reducible repeat (first | refine blk_drewN ?_ _ | refine blk_drew ?_ | refine blk_alloc ?_ _)); refine blk_put (cs := #[.string ((rd_T51 t294 x7_1).f0), .bool false, .slice none 0 0]) ?_ 2 _ rfl; (with_reducible repeat (first | refine blk_drewN ?_ _ | refine blk_drew ?_ | refine blk_alloc ?_ _)); exact BK300.out⟩
                      have n5_ : Aside0 (Below w.heap.size w (w31.setCell ⟨gb300, 2, none⟩ (.slice A32 y307.length c32))) := ⟨by repeat (first | (with_reducible first | exact HB.out | apply below_alloc | apply pw_below_drewN | apply below_drew1 | refine below_set ?_ GE300.out) | exact HB.out)⟩
                      (try clear HO_0)
                      (try clear HO_4)
                      (try clear HO_6)
                      (try clear HO311)
                      (try clear BK300)
                      (try clear HB)
                      generalize (w31.setCell ⟨gb300, 2, none⟩ (.slice A32 y307.length c32)) = w34 at n0_ n1_ n2_ n3_ n4_ n5_ ⊢
                      have HO_0 := n0_
                      have HO_4 := n1_
                      have HO_6 := n2_
                      have HO311 := n3_
                      have BK300 := n4_
                      have HB := n5_
                      clear n0_ n1_ n2_ n3_ n4_ n5_
                      have hcz35_0 : w34.cell? ⟨gb300, 0, none⟩ = some (.string ((rd_T51 t294 x7_1).f0)) := (blk_cell BK300.out 0).trans rfl
                      have hcz35_1 : w34.cell? ⟨gb300, 1, none⟩ = some (.bool false) := (blk_cell BK300.out 1).trans rfl
                      have hcz35_2 : w34.cell? ⟨gb300, 2, none⟩ = some (.slice A32 y307.length c32) := (blk_cell BK300.out 2).trans rfl
                      have hfz35_0 := blk_frozen BK300.out 0
                      have hfz35_1 := blk_frozen BK300.out 1
                      have hfz35_2 := blk_frozen BK300.out 2
                      try go_wp2_with (first | ((with_reducible refine gate_builtin (b := .append) (xs := #[.tmp 55, .tmp 57]) rfl ?_); at_builtin; refine Kd.N_append k38 (w0 := w) w.heap.size rfl (.tmp 55) (.tmp 57) 39 38 (.agg #[(.string ⟨#[]⟩), (.bool false), (.slice none 0 0)]) 48 rfl Try.underlying39 info38 rfl (by decide) (by omega) u6 x6_1 (⟨(rd_T51 t294 x7_1).f0, false, y307⟩ : S38) [.string ((rd_T51 t294 x7_1).f0), .bool false, .slice A32 y307.length c32] (fun k_ => (P0_ k_ ∨ w.heap.size ≤ k_) ∧ some k_ ≠ (.slice (some ad298) t294.length co23 : Value).ownBlock ∧ k_ ≠ gb300) (fun k_ => ((fun k_ => (P0_ k_ ∨ w.heap.size ≤ k_) ∧ some k_ ≠ (.slice (some ad298) t294.length co23 : Value).ownBlock ∧ k_ ≠ gb300)) k_ ∧ some k_ ≠ (u6 : Value).ownBlock) rfl rfl ?aP (fun _ hk => hk) ?aF ?aO ?aB ?aS ?aL ?_; (case aP => exact (k38_mkF _ _ (⟨(rd_T51 t294 x7_1).f0, false, y307⟩ : S38) (Kd.V_reads' (Kd.V_mono (ok' := (fun k_ => ((fun k_ => (P0_ k_ ∨ w.heap.size ≤ k_) ∧ some k_ ≠ (.slice (some ad298) t294.length co23 : Value).ownBlock ∧ k_ ≠ gb300)) k_ ∧ some k_ ≠ (u6 : Value).ownBlock)) (HO311.out) (fun k_ hk => ⟨⟨hk.1, ⟨hk.2.1, hk.2.2.2⟩⟩, hk.2.2.1⟩))).2.1 (Kd.V_F (Kd.V_mono (ok' := (fun k_ => ((fun k_ => (P0_ k_ ∨ w.heap.size ≤ k_) ∧ some k_ ≠ (.slice (some ad298) t294.length co23 : Value).ownBlock ∧ k_ ≠ gb300)) k_ ∧ some k_ ≠ (u6 : Value).ownBlock)) (HO311.out) (fun k_ hk => ⟨⟨hk.1, ⟨hk.2.1, hk.2.2.2⟩⟩, hk.2.2.1⟩))))); (case aB => exact (by repeat (first | (with_reducible first | exact HB.out | apply below_alloc | apply pw_below_drewN | apply below_drew1 | refine below_set ?_ GE300.out) | exact HB.out))); (case aF => exact (fun k_ hk => ⟨(.inr (Nat.le_trans (below_size (by repeat (first | (with_reducible first | exact HB.out | apply below_alloc | apply pw_below_drewN | apply below_drew1 | refine below_set ?_ GE300.out) | exact HB.out))) hk)), Kd.fresh' (Kd.R_lt (by (with_reducible repeat (first | apply Kd.R_alloc | apply Kd.R_drewN | apply Kd.R_drew)); exact HO_4.out)) k_ hk, Kd.freshB (g := gb300) (o := .cells #[.string ((rd_T51 t294 x7_1).f0), .bool false, .slice A32 y307.length c32] 38 (0, 0)) (by (with_reducible repeat (first | refine blk_drewN ?_ _ | refine blk_drew ?_ | refine blk_alloc ?_ _)); exact BK300.out) k_ hk⟩)); (case aO => exact (by (with_reducible repeat (first | apply Kd.N_alloc | apply Kd.N_drewN | apply Kd.N_drew)); exact HO_6.out)); (case aS => exact (below_size (by repeat (first | (with_reducible first | exact HB.out | apply below_alloc | apply pw_below_drewN | apply below_drew1 | refine below_set ?_ GE300.out) | exact HB.out)))); (case aL => have := LMc22.out; omega); intro v313 w36 ho hb hg hat; rw [← Ny312.out] at ho; have n0_ := Aside0.mk (Kd.V_afterv (ok := (fun k_ => (P0_ k_ ∨ w.heap.size ≤ k_) ∧ some k_ ≠ (.slice (some ad298) t294.length co23 : Value).ownBlock ∧ k_ ≠ gb300)) (by (with_reducible repeat (first | apply Kd.V_alloc | apply Kd.V_drewN | apply Kd.V_drew)); exact Kd.V_mono HO_0.out (fun _ hk => ⟨⟨hk.1, ⟨hk.2.1, hk.2.2.2⟩⟩, hk.2.2.1⟩)) hg hat); have n1_ := Aside0.mk (Kd.R_over' (by (with_reducible repeat (first | apply Kd.R_alloc | apply Kd.R_drewN | apply Kd.R_drew)); exact HO_4.out) (Kd.N_typed (by (with_reducible repeat (first | apply Kd.N_alloc | apply Kd.N_drewN | apply Kd.N_drew)); exact HO_6.out)) (by decide) hg); have n2_ := Aside0.mk (blk_grown (g := gb300) (o := .cells #[.string ((rd_T51 t294 x7_1).f0), .bool false, .slice A32 y307.length c32] 38 (0, 0)) (by (with_reducible repeat (first | refine blk_drewN ?_ _ | refine blk_drew ?_ | refine blk_alloc ?_ _)); exact BK300.out) hg (Kd.N_away HO_6.out (fun _ hk => hk.2.2))); have n3_ := Aside0.mk (Kd.V_afterv (ok := (fun k_ => (P0_ k_ ∨ w.heap.size ≤ k_) ∧ some k_ ≠ (.slice (some ad298) t294.length co23 : Value).ownBlock ∧ k_ ≠ gb300)) (by (with_reducible repeat (first | apply Kd.V_alloc | apply Kd.V_drewN | apply Kd.V_drew)); exact Kd.V_mono HO311.out (fun _ hk => ⟨⟨hk.1, ⟨hk.2.1, hk.2.2.2⟩⟩, hk.2.2.1⟩)) hg hat); have n4_ := Aside0.mk (hb); have n5_ := Aside0.mk (ho); clear HO_0; clear HO_4; clear BK300; clear HO311; clear HB; clear HO_6; have HO_0 := n0_; have HO_4 := n1_; have BK300 := n2_; have HO311 := n3_; have HB := n4_; have HO314 := n5_; clear n0_ n1_ n2_ n3_ n4_ n5_; clear ho hb hg hat))
                      go_roundg k1
                      case measure => have := HK1.out; omega
                      case rel => exact ⟨(y312), (wrap64 (x7_1 + 1)), (by first | rfl | (simp; done) | (simp [*]; done)), (by first | exact H' | (simp only [← Nbq7.out]; exact H') | (simp only [Nbq7.out]; exact H')), ⟨by have := HK1.out; omega⟩, ⟨by (with_reducible repeat (first | apply Kd.V_alloc | apply Kd.V_drewN | apply Kd.V_drew)); exact Kd.V_mono HO_0.out (fun _ hk => ⟨hk.1.1, ⟨hk.1.2.1, hk.2⟩⟩)⟩, ⟨by (with_reducible repeat (first | apply Kd.R_alloc | apply Kd.R_drewN | apply Kd.R_drew)); exact HO_4.out⟩, ⟨by (with_reducible repeat (first | apply Kd.N_alloc | apply Kd.N_drewN | apply Kd.N_drew)); exact Kd.N_mono HO314.out (fun _ hk => ⟨hk.1, hk.2.1⟩)⟩, ⟨by repeat (first | (with_reducible first | exact HB.out | apply below_alloc | apply pw_below_drewN | apply below_drew1 | refine below_set ?_ GE300.out) | exact HB.out)⟩⟩
                    · rw [if_neg c22] at H
                      exact absurd H (by simp)
                  · rw [if_neg c21] at H
                    exact absurd H (by simp)
                · rw [if_neg c20] at H
                  exact absurd H (by simp)
              · rw [if_neg c18] at H
                exact absurd H (by simp)
          · rw [if_neg c6] at H
            exact absurd H (by simp)
        · rw [if_neg c5] at H
          have c5b0 : decide (x7_1 < (t294.length : Int)) = false := decide_eq_false c5
          clear c5
          simp only [Option.some.injEq, Prod.mk.injEq] at H
          obtain ⟨rfl, rfl⟩ := H
          obtain ⟨Ao37, co37, eo37⟩ := Kd.R_slice HO_4.out
          subst eo37
          go_wp2
          all_goals first | (go_ret2; exact ⟨_, by first | rfl | (simp [errW_none, errW_some]; done) | (simp [errW_none, errW_some]; rfl) | (simp [*, errW_none, errW_some]; done) | (simp [*, errW_none, errW_some]; rfl), by (with_reducible repeat (first | apply Kd.N_alloc | apply Kd.N_drewN | apply Kd.N_drew)); exact Kd.N_mono HO_6.out (fun _ hk => hk.1), by repeat (first | (with_reducible first | exact HB.out | apply below_alloc | apply pw_below_drewN | apply below_drew1) | exact HB.out)⟩) | (exfalso; simp_all; done)
  · replace c3 := Bool.eq_false_iff.mpr c3
    subst c3
    have H1 : (some (([] : List (S38)), false)) = some (r1, r2) := by rw [if_neg (show ¬ (false = true) by decide)] at H; exact H
    clear H
    have H := H1
    clear H1
    simp only [Option.some.injEq, Prod.mk.injEq] at H
    obtain ⟨rfl, rfl⟩ := H
    go_enter Try.func25, Try.ntmps25
    go_wp2_with (first | ((with_reducible refine gate_callee (f := 27) rfl ?_); refine goesL_ (some 11) rfl rfl Try.func27 (by kernel_rfl) rfl #[.slice A0 l0.length c0] rfl (by (try simp only [List.map_toArray, List.map_cons, List.map_nil]); first | done | rfl | (simp only [List.length_drop, List.length_take]; rfl)) ?_; (with_reducible refine (waybillref7_Places.calls k _ _ l0 t294 false _ ?side1 ?side2 A2.out).mono ?_); (case side1 => repeat (first | exact (Kd.V_reads' HO0.out).2.2 | (with_reducible refine Kd.C_alloc ?_ _) | (with_reducible refine Kd.C_drewN ?_ _) | (with_reducible refine Kd.C_drew ?_))); (case side2 => exact (Kd.V_reads' HO0.out).2.1); rintro e w38 ⟨v296, rfl, ho0, hb⟩; refine ⟨_, rfl, ?_⟩; have n0_ := Aside0.mk (Kd.V_elder' (by (with_reducible repeat (first | apply Kd.V_alloc | apply Kd.V_drewN | apply Kd.V_drew)); exact HO0.out) (Kd.R_base ho0) hb); have n1_ := Aside0.mk (Kd.R_lower (Kd.R_newM (M := fun k_ => (w.heap.size ≤ k_)) ho0 (below_size (by repeat (first | (with_reducible first | exact HB.out | apply below_alloc | apply pw_below_drewN | apply below_drew1) | exact HB.out))) (fun k_ h_ => h_)) (below_size (by repeat (first | (with_reducible first | exact HB.out | apply below_alloc | apply pw_below_drewN | apply below_drew1) | exact HB.out)))); have n2_ := Aside0.mk (below_step (by repeat (first | (with_reducible first | exact HB.out | apply below_alloc | apply pw_below_drewN | apply below_drew1) | exact HB.out)) hb); clear HO0; clear HB; have HO0 := n0_; have HO297 := n1_; have HB := n2_; clear n0_ n1_ n2_; (try clear hb); (try clear hb2); (try clear hk); (try clear hi); (try clear hge); (try clear ho0)))
    all_goals first | (go_ret2; exact ⟨_, by first | rfl | (simp [errW_none, errW_some]; done) | (simp [errW_none, errW_some]; rfl) | (simp [*, errW_none, errW_some]; done) | (simp [*, errW_none, errW_some]; rfl), by first | exact Kd.S_nil _ _ _ _ _ | exact Kd.N_nil _ _ _ _ _ | exact Kd.V_nil _ _ _ _ _ | exact Kd.Q_nil _ _ _ _ _ | exact Kd.R_nil _ _ _ _ _, by repeat (first | (with_reducible first | exact HB.out | apply below_alloc | apply pw_below_drewN | apply below_drew1) | exact HB.out)⟩) | (exfalso; simp_all; done)

end Go.Proofs.Ytpjkaodbcclecaa.PU
