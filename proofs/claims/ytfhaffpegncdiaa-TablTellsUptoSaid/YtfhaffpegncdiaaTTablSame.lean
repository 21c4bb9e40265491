/-
SameTable: two tables are told the same just if they are the same.
Conditions: rows as the memory holds them.
-/
import Derived.Test.YtfhaffpegncdiaaShort
import Derived.Test.YtfhaffpegncdiaaTTablFn
namespace Go.Proofs.Ytfhaffpegncdiaa.PT
open Go.RowKit Go.Proofs.YtfhaffpegncdiaaW.PrintWords Go.Proofs.YtfhaffpegncdiaaW.PrintLast Go.Proofs.YtfhaffpegncdiaaW.PrintMore
attribute [local go_sem] max2_int min2_int max_two min_two max_three min_three max_four min_four   -- for this text's walks alone
set_option linter.unusedVariables false
set_option linter.unusedSimpArgs false
/-! ### zfs: function 18 -/
mutual
def zfs.l0 : Nat → List (S24) → List (S24) → Int → Option (Bool)
 | 0, _, _, _ => none
 | k + 1, x0, x1, x5 => if x5 < (x0.length : Int) then (if 0 ≤ x5 then (if x5 < (x1.length : Int) then (if ((rd_T24 x0 x5).f0).toList = ((rd_T24 x1 x5).f0).toList then (if ((rd_T24 x0 x5).f1) = ((rd_T24 x1 x5).f1) then (if ((rd_T24 x0 x5).f2) = ((rd_T24 x1 x5).f2) then (if ((rd_T24 x0 x5).f3).toList = ((rd_T24 x1 x5).f3).toList then ((zfs.f k ((rd_T24 x0 x5).f4) ((rd_T24 x1 x5).f4)).bind fun t179 => (if t179 = true then (zfs.l0 k x0 x1 (wrap64 (x5 + 1))) else (some false))) else (some false)) else (some false)) else (some false)) else (some false)) else (none)) else (none)) else (some true)
def zfs.f : Nat → List (S24) → List (S24) → Option (Bool)
 | 0, _, _ => none
 | k + 1, l0, l1 => if (l0.length : Int) = (l1.length : Int) then (zfs.l0 k l0 l1 0) else (some false)
end
theorem zfs.mono_l : ∀ k, (∀ y0 y1, LeO (zfs.f k y0 y1) (zfs.f (k + 1) y0 y1)) ∧ (∀ y0 y1 y2, LeO (zfs.l0 k y0 y1 y2) (zfs.l0 (k + 1) y0 y1 y2))
 | 0 => ⟨fun _ _ r h => by simp [zfs.f] at h, fun _ _ _ r h => by simp [zfs.l0] at h⟩
 | k + 1 => by
  obtain ⟨ih0, ih1⟩ := zfs.mono_l k
  refine ⟨?_, ?_⟩
  ·
   intro y0 y1
   unfold zfs.f
   repeat' first
   | (with_reducible exact ih0 _ _)
   | (with_reducible exact ih1 _ _ _)
   | (with_reducible exact LeO.refl _)
   | (with_reducible exact LeO.none _)
   | (with_reducible refine LeO.ite ?_ ?_)
   | (with_reducible refine LeO.bind ?_ (fun _ => ?_))
   | exact ih0 _ _
   | exact ih1 _ _ _
   | exact LeO.none _
   | refine LeO.ite ?_ ?_
   | refine LeO.bind ?_ (fun _ => ?_)
  intro y0 y1 y2
  unfold zfs.l0
  repeat' first
  | (with_reducible exact ih0 _ _)
  | (with_reducible exact ih1 _ _ _)
  | (with_reducible exact LeO.refl _)
  | (with_reducible exact LeO.none _)
  | (with_reducible refine LeO.ite ?_ ?_)
  | (with_reducible refine LeO.bind ?_ (fun _ => ?_))
  | exact ih0 _ _
  | exact ih1 _ _ _
  | exact LeO.none _
  | refine LeO.ite ?_ ?_
  | refine LeO.bind ?_ (fun _ => ?_)
theorem zfs.mono : ∀ a0 a1 k, LeO (zfs.f k a0 a1) (zfs.f (k + 1) a0 a1) := by
 intro a0 a1 k
 obtain ⟨ih0, ih1⟩ := zfs.mono_l k
 exact ih0 a0 a1
def zfs.T6 : Bool × List (List Nat × List Nat) := (true, [([], []), ([], []), ([0, 1], [0, 1]), ([2], [2]), ([], []), ([], []), ([4, 5], [4, 5]), ([6], [6]), ([], []), ([], []), ([8, 3, 0, 1, 2, 3, 8, 9], [3, 8]), ([9, 7, 10, 0, 1, 2, 3, 4, 5, 6, 7, 8, 9, 10], [7, 9])])
def zfs.B6 : List Nat := [0, 0, 3, 7, 0, 0, 48, 112, 0, 0, 783, 2047]
theorem zfs.tab6 : rtab .any (opsOf Try.f18 6) = zfs.T6 := by kernel_rfl
theorem zfs.bits6 : waitsOk zfs.T6.2 zfs.B6 = true := by kernel_rfl
set_option maxHeartbeats 8000000 in
set_option maxRecDepth 100000 in
theorem zfs.calls (k : Nat) : ∀ (A0 : Option Addr) (c0 : Nat) (l0 : List (S24)) (A1 : Option Addr) (c1 : Nat) (l1 : List (S24)) (r : Bool) (w : World) (hr0 : Kd.C k24 w A0 l0.length l0) (hc0 : l0.length ≤ c0) (hr1 : Kd.C k24 w A1 l1.length l1) (hc1 : l1.length ≤ c1) (h : zfs.f k l0 l1 = some r),
  Calls Try.prog 18 #[.slice A0 l0.length c0, .slice A1 l1.length c1] w fun e w' => e = .returned (.bool r) ∧ Below w.heap.size w w' := by
 induction k using Nat.strongRecOn with
 | _ k ih =>
 intro A0 c0 l0 A1 c1 l1 r w hr0 hc0 hr1 hc1 h
 cases k with
 | zero => exact absurd h (by simp [zfs.f])
 | succ k =>
 simp only [zfs.f] at h
 have hu24 := Try.underlying24
 have HR0 := Zs.mk hr0
 have HC0 := Zs.mk hc0
 clear hr0 hc0
 have HR1 := Zs.mk hr1
 have HC1 := Zs.mk hc1
 clear hr1 hc1
 have HB := Zs.mk (Below.refl w.heap.size w)
 have H : (if (l0.length : Int) = (l1.length : Int) then (zfs.l0 k l0 l1 0) else (some false)) = some r := h
 clear h
 by_cases c3 : (l0.length : Int) = (l1.length : Int)
 ·
  rw [if_pos c3] at H
  have c3b0 : ((l0.length : Int) == (l1.length : Int)) = true := beq_iff_eq.mpr c3
  have c3b1 : ((l0.length : Int) != (l1.length : Int)) = false := bne_eq_false_iff_eq.mpr c3
  have c3b2 : (l0.length == l1.length) = true := by first | simpa using c3 | (simp at c3 ⊢; omega)
  clear c3
  have H' := Zs.mk H
  clear H
  go_enter Try.func18, Try.ntmps18
  go_wp2
  go_loopg [5] k (fun kq v5 w' => ∃ (x5_1 : Int), v5 = .int .i64 x5_1 ∧ Zs (zfs.l0 kq l0 l1 x5_1 = some r) ∧ Zs (kq ≤ k) ∧ Zs (Below w.heap.size w w'))
  case atStart => exact ⟨(0), (by first | rfl | (simp; done) | (simp [*]; done)), H', ⟨Nat.le_refl _⟩, ⟨by repeat (first | (with_reducible first | exact HB.out | apply zba | apply zbn | apply zbd) | exact HB.out)⟩⟩
  case round =>
   clear H'
   try clear c1
   try clear p2
   try clear c3
   try clear c3b0
   try clear c3b1
   try clear c3b2
   obtain ⟨x5_1, rfl, HA, HK1, HB⟩ := hrel
   cases gk with
   | zero => exact absurd HA.out (by simp [zfs.l0])
   | succ k1 =>
    have H := HA.out
    clear HA
    simp only [zfs.l0] at H
    by_cases c4 : x5_1 < (l0.length : Int)
    ·
     rw [if_pos c4] at H
     have c4b0 : decide (x5_1 < (l0.length : Int)) = true := decide_eq_true c4
     clear c4
     by_cases c5 : 0 ≤ x5_1
     ·
      rw [if_pos c5] at H
      have c5b0 : decide (0 ≤ x5_1) = true := decide_eq_true c5
      clear c5
      by_cases c6 : x5_1 < (l1.length : Int)
      ·
       rw [if_pos c6] at H
       have c6b0 : decide (x5_1 < (l1.length : Int)) = true := decide_eq_true c6
       clear c6
       have HX := Zs.mk H
       clear H
       try go_wp2
       have n0_ := Zs.mk (zbd HB.out)
       clear HB
       have HB := n0_
       clear n0_
       have p175 : 0 ≤ (x5_1 : Int) := of_decide_eq_true (by first | (with_reducible assumption) | assumption)
       have q175 : x5_1 < (l0.length : Int) := of_decide_eq_true (by first | (with_reducible assumption) | assumption)
       obtain ⟨ad175, A175_4, c175_4, e175, hx175_0, hx175_1, hx175_2, hx175_3, hx175_4, hl175_4, hi175_4⟩ := at_T24 HR0.out x5_1 p175 q175
       have hw175_4 := hx175_4
       have hw175_3 := hx175_3
       have hw175_2 := hx175_2
       have hw175_1 := hx175_1
       have hw175_0 := hx175_0
       cases e175
       replace hx175_0 := (HB.out.cell (zq4 w _ hx175_0)).trans hx175_0
       replace hx175_1 := (HB.out.cell (zq4 w _ hx175_1)).trans hx175_1
       replace hx175_2 := (HB.out.cell (zq4 w _ hx175_2)).trans hx175_2
       replace hx175_3 := (HB.out.cell (zq4 w _ hx175_3)).trans hx175_3
       replace hx175_4 := (HB.out.cell (zq4 w _ hx175_4)).trans hx175_4
       have HR175_4 := Zs.mk hi175_4
       have HC175_4 := Zs.mk hl175_4
       clear hi175_4 hl175_4
       replace p175 := eq_true p175
       replace q175 := eq_true q175
       have p176 : 0 ≤ (x5_1 : Int) := of_decide_eq_true (by first | (with_reducible assumption) | assumption)
       have q176 : x5_1 < (l1.length : Int) := of_decide_eq_true (by first | (with_reducible assumption) | assumption)
       obtain ⟨ad176, A176_4, c176_4, e176, hx176_0, hx176_1, hx176_2, hx176_3, hx176_4, hl176_4, hi176_4⟩ := at_T24 HR1.out x5_1 p176 q176
       have hw176_4 := hx176_4
       have hw176_3 := hx176_3
       have hw176_2 := hx176_2
       have hw176_1 := hx176_1
       have hw176_0 := hx176_0
       cases e176
       replace hx176_0 := (HB.out.cell (zq4 w _ hx176_0)).trans hx176_0
       replace hx176_1 := (HB.out.cell (zq4 w _ hx176_1)).trans hx176_1
       replace hx176_2 := (HB.out.cell (zq4 w _ hx176_2)).trans hx176_2
       replace hx176_3 := (HB.out.cell (zq4 w _ hx176_3)).trans hx176_3
       replace hx176_4 := (HB.out.cell (zq4 w _ hx176_4)).trans hx176_4
       have HR176_4 := Zs.mk hi176_4
       have HC176_4 := Zs.mk hl176_4
       clear hi176_4 hl176_4
       replace p176 := eq_true p176
       replace q176 := eq_true q176
       refine start_ (n := 12) (S := fun w' => w'.cell? (ad175.add ((x5_1).toNat * 5)) = some (.string ((rd_T24 l0 x5_1).f0)) ∧ w'.cell? ⟨(ad175.add ((x5_1).toNat * 5)).block, (ad175.add ((x5_1).toNat * 5)).off + 1, none⟩ = some (.int .u8 ((rd_T24 l0 x5_1).f1)) ∧ w'.cell? ⟨(ad175.add ((x5_1).toNat * 5)).block, (ad175.add ((x5_1).toNat * 5)).off + 2, none⟩ = some (.int .i64 ((rd_T24 l0 x5_1).f2)) ∧ w'.cell? ⟨(ad175.add ((x5_1).toNat * 5)).block, (ad175.add ((x5_1).toNat * 5)).off + 3, none⟩ = some (.string ((rd_T24 l0 x5_1).f3)) ∧ w'.cell? ⟨(ad175.add ((x5_1).toNat * 5)).block, (ad175.add ((x5_1).toNat * 5)).off + 4, none⟩ = some (.slice A175_4 ((rd_T24 l0 x5_1).f4).length c175_4) ∧ w'.cell? (ad176.add ((x5_1).toNat * 5)) = some (.string ((rd_T24 l1 x5_1).f0)) ∧ w'.cell? ⟨(ad176.add ((x5_1).toNat * 5)).block, (ad176.add ((x5_1).toNat * 5)).off + 1, none⟩ = some (.int .u8 ((rd_T24 l1 x5_1).f1)) ∧ w'.cell? ⟨(ad176.add ((x5_1).toNat * 5)).block, (ad176.add ((x5_1).toNat * 5)).off + 2, none⟩ = some (.int .i64 ((rd_T24 l1 x5_1).f2)) ∧ w'.cell? ⟨(ad176.add ((x5_1).toNat * 5)).block, (ad176.add ((x5_1).toNat * 5)).off + 3, none⟩ = some (.string ((rd_T24 l1 x5_1).f3)) ∧ w'.cell? ⟨(ad176.add ((x5_1).toNat * 5)).block, (ad176.add ((x5_1).toNat * 5)).off + 4, none⟩ = some (.slice A176_4 ((rd_T24 l1 x5_1).f4).length c176_4)) (ds := []) #[false, false, false, false, false, false, false, false, false, false, false, false] (by kernel_rfl) rfl rfl ⟨((HB.out.cell (zq4 w _ hw175_0)).trans hw175_0), ((HB.out.cell (zq4 w _ hw175_1)).trans hw175_1), ((HB.out.cell (zq4 w _ hw175_2)).trans hw175_2), ((HB.out.cell (zq4 w _ hw175_3)).trans hw175_3), ((HB.out.cell (zq4 w _ hw175_4)).trans hw175_4), ((HB.out.cell (zq4 w _ hw176_0)).trans hw176_0), ((HB.out.cell (zq4 w _ hw176_1)).trans hw176_1), ((HB.out.cell (zq4 w _ hw176_2)).trans hw176_2), ((HB.out.cell (zq4 w _ hw176_3)).trans hw176_3), ((HB.out.cell (zq4 w _ hw176_4)).trans hw176_4)⟩ (fun hHeld => ?_); refine with_tabW zfs.tab6 zfs.bits6 (fun HT_ HW_ => ?_)
       generalize wr.drew = w13 at HB HR175_4 HR176_4 hx175_0 hx175_1 hx175_2 hx175_3 hx175_4 hx176_0 hx176_1 hx176_2 hx176_3 hx176_4 hHeld ⊢
       refine pure_ (i := 0) (N := some 19) (v := ?_) (a' := ?_) #[true, false, false, false, false, false, false, false, false, false, false, false] rfl rfl (any_of HT_.out (by kernel_rfl)) (fun _ _ _ h => h) (Or.inl ⟨by rfl, ?_⟩) ?_ ?_
       rotate_left
       ·
        intro w'
        go_simp
        with_reducible rfl
       rotate_left
       ·
        simp only [Act.put, zq1, zq2, zq3, i64_w, i32_w]
        rfl
       refine pure_ (i := 1) (N := some 20) (v := ?_) (a' := ?_) #[true, true, false, false, false, false, false, false, false, false, false, false] rfl rfl (any_of HT_.out (by kernel_rfl)) (fun _ _ _ h => h) (Or.inl ⟨by rfl, ?_⟩) ?_ ?_
       rotate_left
       ·
        intro w'
        go_simp
        with_reducible rfl
       rotate_left
       ·
        simp only [Act.put, zq1, zq2, zq3, i64_w, i32_w]
        rfl
       refine pure_ (i := 2) (N := some 21) (v := ?_) (a' := ?_) #[true, true, true, false, false, false, false, false, false, false, false, false] rfl rfl (any_of HT_.out (by kernel_rfl)) (fun _ _ _ h => h) (Or.inl ⟨by rfl, ?_⟩) ?_ ?_
       rotate_left
       ·
        intro w'
        go_simp
        with_reducible rfl
       rotate_left
       ·
        simp only [Act.put, zq1, zq2, zq3, i64_w, i32_w]
        rfl
       refine pure_ (i := 4) (N := some 23) (v := ?_) (a' := ?_) #[true, true, true, false, true, false, false, false, false, false, false, false] rfl rfl (any_of HT_.out (by kernel_rfl)) (fun _ _ _ h => h) (Or.inl ⟨by rfl, ?_⟩) ?_ ?_
       rotate_left
       ·
        intro w'
        go_simp
        with_reducible rfl
       rotate_left
       ·
        simp only [Act.put, zq1, zq2, zq3, i64_w, i32_w]
        rfl
       refine pure_ (i := 5) (N := some 24) (v := ?_) (a' := ?_) #[true, true, true, false, true, true, false, false, false, false, false, false] rfl rfl (any_of HT_.out (by kernel_rfl)) (fun _ _ _ h => h) (Or.inl ⟨by rfl, ?_⟩) ?_ ?_
       rotate_left
       ·
        intro w'
        go_simp
        with_reducible rfl
       rotate_left
       ·
        simp only [Act.put, zq1, zq2, zq3, i64_w, i32_w]
        rfl
       refine pure_ (i := 6) (N := some 25) (v := ?_) (a' := ?_) #[true, true, true, false, true, true, true, false, false, false, false, false] rfl rfl (any_of HT_.out (by kernel_rfl)) (fun _ _ _ h => h) (Or.inl ⟨by rfl, ?_⟩) ?_ ?_
       rotate_left
       ·
        intro w'
        go_simp
        with_reducible rfl
       rotate_left
       ·
        simp only [Act.put, zq1, zq2, zq3, i64_w, i32_w]
        rfl
       refine take_ (i := 3) (N := some 22) (v := ?_) (a' := ?_) #[true, true, true, true, true, true, true, false, false, false, false, false] rfl rfl (take_ofW HT_.out HW_.out (by kernel_rfl)) (fun _ _ _ h => h) (Or.inl ⟨by rfl, ?_⟩) hHeld ?_ ?_
       rotate_left
       ·
        rintro w' ⟨s0, s1, s2, s3, s4, s5, s6, s7, s8, s9⟩
        go_simp
        with_reducible rfl
       rotate_left
       ·
        simp only [Act.put, zq1, zq2, zq3, i64_w, i32_w]
        rfl
       refine take_ (i := 7) (N := some 26) (v := ?_) (a' := ?_) #[true, true, true, true, true, true, true, true, false, false, false, false] rfl rfl (take_ofW HT_.out HW_.out (by kernel_rfl)) (fun _ _ _ h => h) (Or.inl ⟨by rfl, ?_⟩) hHeld ?_ ?_
       rotate_left
       ·
        rintro w' ⟨s0, s1, s2, s3, s4, s5, s6, s7, s8, s9⟩
        go_simp
        with_reducible rfl
       rotate_left
       ·
        simp only [Act.put, zq1, zq2, zq3, i64_w, i32_w]
        rfl
       refine join_ (σ := Nat × Nat) 2 #[true, true, true, true, true, true, true, true, true, true, false, false] (fun s_ => [(6, .pointer (some ⟨s_.1, 0, none⟩)), (7, .pointer (some ⟨s_.2, 0, none⟩))]) (fun s_ w' => (w'.cell? (ad175.add ((x5_1).toNat * 5)) = some (.string ((rd_T24 l0 x5_1).f0)) ∧ w'.cell? ⟨(ad175.add ((x5_1).toNat * 5)).block, (ad175.add ((x5_1).toNat * 5)).off + 1, none⟩ = some (.int .u8 ((rd_T24 l0 x5_1).f1)) ∧ w'.cell? ⟨(ad175.add ((x5_1).toNat * 5)).block, (ad175.add ((x5_1).toNat * 5)).off + 2, none⟩ = some (.int .i64 ((rd_T24 l0 x5_1).f2)) ∧ w'.cell? ⟨(ad175.add ((x5_1).toNat * 5)).block, (ad175.add ((x5_1).toNat * 5)).off + 3, none⟩ = some (.string ((rd_T24 l0 x5_1).f3)) ∧ w'.cell? ⟨(ad175.add ((x5_1).toNat * 5)).block, (ad175.add ((x5_1).toNat * 5)).off + 4, none⟩ = some (.slice A175_4 ((rd_T24 l0 x5_1).f4).length c175_4) ∧ w'.cell? (ad176.add ((x5_1).toNat * 5)) = some (.string ((rd_T24 l1 x5_1).f0)) ∧ w'.cell? ⟨(ad176.add ((x5_1).toNat * 5)).block, (ad176.add ((x5_1).toNat * 5)).off + 1, none⟩ = some (.int .u8 ((rd_T24 l1 x5_1).f1)) ∧ w'.cell? ⟨(ad176.add ((x5_1).toNat * 5)).block, (ad176.add ((x5_1).toNat * 5)).off + 2, none⟩ = some (.int .i64 ((rd_T24 l1 x5_1).f2)) ∧ w'.cell? ⟨(ad176.add ((x5_1).toNat * 5)).block, (ad176.add ((x5_1).toNat * 5)).off + 3, none⟩ = some (.string ((rd_T24 l1 x5_1).f3)) ∧ w'.cell? ⟨(ad176.add ((x5_1).toNat * 5)).block, (ad176.add ((x5_1).toNat * 5)).off + 4, none⟩ = some (.slice A176_4 ((rd_T24 l1 x5_1).f4).length c176_4)) ∧ (w'.heap[s_.1]? = some (.cells #[.string (⟨#[]⟩ : ByteArray), .int .u8 0, .int .i64 0, .string (⟨#[]⟩ : ByteArray), .slice none 0 0] 24 (0, 0))) ∧ (w'.heap[s_.2]? = some (.cells #[.string (⟨#[]⟩ : ByteArray), .int .u8 0, .int .i64 0, .string (⟨#[]⟩ : ByteArray), .slice none 0 0] 24 (0, 0))) ∧ (w.heap.size ≤ s_.1) ∧ (w.heap.size ≤ s_.1) ∧ (s_.2 ≠ s_.1) ∧ (s_.1 ≠ s_.2) ∧ (w.heap.size ≤ s_.2) ∧ (w.heap.size ≤ s_.2) ∧ (Below w.heap.size w w')) ?_ ?_
       rotate_left
       ·
        intro hCont
        refine two_ (i := 8) (j := 9) (Ni := some 6) (Nj := some 7) #[true, true, true, true, true, true, true, true, true, false, false, false] #[true, true, true, true, true, true, true, true, false, true, false, false] rfl rfl rfl rfl (two_of HT_.out (by kernel_rfl)) (by decide) (by decide) (fun K hK => ?_) (fun K hK => ?_)
        ·
         skip
         refine box_step ?hg (N := 6) ?hd (cs := #[.string (⟨#[]⟩ : ByteArray), .int .u8 0, .int .i64 0, .string (⟨#[]⟩ : ByteArray), .slice none 0 0]) (t := 24) ?hr ?_; (case hd => rfl); (case hg => rfl); (case hr => first | (go_simp; done) | (go_simp; rfl))
         intro gb177 hg w14 hbox hb
         have n0_ := Zs.mk (zbt (by repeat (first | (with_reducible first | exact HB.out | apply zba | apply zbn | apply zbd) | exact HB.out)) hb)
         have n1_ := Zs.mk (hbox)
         have n2_ := Zs.mk ((by rw [hg]; exact (zbz (by repeat (first | (with_reducible first | exact HB.out | apply zba | apply zbn | apply zbd) | exact HB.out))) : w.heap.size ≤ gb177))
         have n3_ := Zs.mk ((by rw [hg]; exact (zbz (by repeat (first | (with_reducible first | exact HB.out | apply zba | apply zbn | apply zbd) | exact HB.out))) : w.heap.size ≤ gb177))
         clear HB
         have HB := n0_
         have BK177 := n1_
         have GW177 := n2_
         have GE177 := n3_
         clear n0_ n1_ n2_ n3_
         clear hb hbox hg
         refine hK.out _ _ ⟨((HB.out.cell (zq4 w _ hw175_0)).trans hw175_0), ((HB.out.cell (zq4 w _ hw175_1)).trans hw175_1), ((HB.out.cell (zq4 w _ hw175_2)).trans hw175_2), ((HB.out.cell (zq4 w _ hw175_3)).trans hw175_3), ((HB.out.cell (zq4 w _ hw175_4)).trans hw175_4), ((HB.out.cell (zq4 w _ hw176_0)).trans hw176_0), ((HB.out.cell (zq4 w _ hw176_1)).trans hw176_1), ((HB.out.cell (zq4 w _ hw176_2)).trans hw176_2), ((HB.out.cell (zq4 w _ hw176_3)).trans hw176_3), ((HB.out.cell (zq4 w _ hw176_4)).trans hw176_4)⟩ (fun hHeld => ?_)
         clear hK K
         refine norm_ (a' := ?_) ?_ ?_
         rotate_left
         ·
          show Act.put _ (some 6) _ = _
          simp only [Act.put, zq1, zq2, zq3, i64_w, i32_w]
          rfl
         refine one_ (i := 9) (N := some 7) #[true, true, true, true, true, true, true, true, true, true, false, false] rfl rfl (one_of HT_.out (by kernel_rfl)) (by decide) (fun K hK => ?_)
         refine box_step ?hg (N := 7) ?hd (cs := #[.string (⟨#[]⟩ : ByteArray), .int .u8 0, .int .i64 0, .string (⟨#[]⟩ : ByteArray), .slice none 0 0]) (t := 24) ?hr ?_; (case hd => rfl); (case hg => rfl); (case hr => first | (go_simp; done) | (go_simp; rfl))
         intro gb178 hg w15 hbox hb
         have n0_ := Zs.mk (blk_below (g := gb177) (o := .cells #[.string (⟨#[]⟩ : ByteArray), .int .u8 0, .int .i64 0, .string (⟨#[]⟩ : ByteArray), .slice none 0 0] 24 (0, 0)) (by (with_reducible repeat (first | refine blk_drewN ?_ _ | refine blk_drew ?_ | refine blk_alloc ?_ _)); exact BK177.out) hb)
         have n1_ := Zs.mk (zbt (by repeat (first | (with_reducible first | exact HB.out | apply zba | apply zbn | apply zbd | refine zbs ?_ GE177.out) | exact HB.out)) hb)
         have n2_ := Zs.mk (hbox)
         have n3_ := Zs.mk ((by rw [hg]; exact (zbz (by repeat (first | (with_reducible first | exact HB.out | apply zba | apply zbn | apply zbd | refine zbs ?_ GE177.out) | exact HB.out))) : w.heap.size ≤ gb178))
         have n4_ := Zs.mk ((by rw [hg]; exact (zbz (by repeat (first | (with_reducible first | exact HB.out | apply zba | apply zbn | apply zbd | refine zbs ?_ GE177.out) | exact HB.out))) : w.heap.size ≤ gb178))
         have n5_ := Zs.mk ((by rw [hg]; exact zq6 (blk_lt (g := gb177) (o := .cells #[.string (⟨#[]⟩ : ByteArray), .int .u8 0, .int .i64 0, .string (⟨#[]⟩ : ByteArray), .slice none 0 0] 24 (0, 0)) (by (with_reducible repeat (first | refine blk_drewN ?_ _ | refine blk_drew ?_ | refine blk_alloc ?_ _)); exact BK177.out)) : gb177 ≠ gb178))
         have n6_ := Zs.mk ((by rw [hg]; exact Nat.ne_of_gt (blk_lt (g := gb177) (o := .cells #[.string (⟨#[]⟩ : ByteArray), .int .u8 0, .int .i64 0, .string (⟨#[]⟩ : ByteArray), .slice none 0 0] 24 (0, 0)) (by (with_reducible repeat (first | refine blk_drewN ?_ _ | refine blk_drew ?_ | refine blk_alloc ?_ _)); exact BK177.out)) : gb178 ≠ gb177))
         clear BK177
         clear HB
         have BK177 := n0_
         have HB := n1_
         have BK178 := n2_
         have GW178 := n3_
         have GE178 := n4_
         have NB177_178 := n5_
         have NB178_177 := n6_
         clear n0_ n1_ n2_ n3_ n4_ n5_ n6_
         clear hb hbox hg
         refine hK.out _ _ ⟨((HB.out.cell (zq4 w _ hw175_0)).trans hw175_0), ((HB.out.cell (zq4 w _ hw175_1)).trans hw175_1), ((HB.out.cell (zq4 w _ hw175_2)).trans hw175_2), ((HB.out.cell (zq4 w _ hw175_3)).trans hw175_3), ((HB.out.cell (zq4 w _ hw175_4)).trans hw175_4), ((HB.out.cell (zq4 w _ hw176_0)).trans hw176_0), ((HB.out.cell (zq4 w _ hw176_1)).trans hw176_1), ((HB.out.cell (zq4 w _ hw176_2)).trans hw176_2), ((HB.out.cell (zq4 w _ hw176_3)).trans hw176_3), ((HB.out.cell (zq4 w _ hw176_4)).trans hw176_4)⟩ (fun hHeld => ?_)
         clear hK K
         refine norm_ (a' := ?_) ?_ ?_
         rotate_left
         ·
          show Act.put _ (some 7) _ = _
          simp only [Act.put, zq1, zq2, zq3, i64_w, i32_w]
          rfl
         exact norm_ (by simp only [putAll, Act.put, zq1, zq2, zq3]) (hCont (gb177, gb178) _ ⟨hHeld, (by (with_reducible repeat (first | refine blk_drewN ?_ _ | refine blk_drew ?_ | refine blk_alloc ?_ _)); exact BK177.out), (by (with_reducible repeat (first | refine blk_drewN ?_ _ | refine blk_drew ?_ | refine blk_alloc ?_ _)); exact BK178.out), GW177.out, GE177.out, NB178_177.out, NB177_178.out, GW178.out, GE178.out, (by repeat (first | (with_reducible first | exact HB.out | apply zba | apply zbn | apply zbd | refine zbs ?_ GE177.out | refine zbs ?_ GE178.out) | exact HB.out))⟩)
        skip
        refine box_step ?hg (N := 7) ?hd (cs := #[.string (⟨#[]⟩ : ByteArray), .int .u8 0, .int .i64 0, .string (⟨#[]⟩ : ByteArray), .slice none 0 0]) (t := 24) ?hr ?_; (case hd => rfl); (case hg => rfl); (case hr => first | (go_simp; done) | (go_simp; rfl))
        intro gb178 hg w14 hbox hb
        have n0_ := Zs.mk (zbt (by repeat (first | (with_reducible first | exact HB.out | apply zba | apply zbn | apply zbd) | exact HB.out)) hb)
        have n1_ := Zs.mk (hbox)
        have n2_ := Zs.mk ((by rw [hg]; exact (zbz (by repeat (first | (with_reducible first | exact HB.out | apply zba | apply zbn | apply zbd) | exact HB.out))) : w.heap.size ≤ gb178))
        have n3_ := Zs.mk ((by rw [hg]; exact (zbz (by repeat (first | (with_reducible first | exact HB.out | apply zba | apply zbn | apply zbd) | exact HB.out))) : w.heap.size ≤ gb178))
        clear HB
        have HB := n0_
        have BK178 := n1_
        have GW178 := n2_
        have GE178 := n3_
        clear n0_ n1_ n2_ n3_
        clear hb hbox hg
        refine hK.out _ _ ⟨((HB.out.cell (zq4 w _ hw175_0)).trans hw175_0), ((HB.out.cell (zq4 w _ hw175_1)).trans hw175_1), ((HB.out.cell (zq4 w _ hw175_2)).trans hw175_2), ((HB.out.cell (zq4 w _ hw175_3)).trans hw175_3), ((HB.out.cell (zq4 w _ hw175_4)).trans hw175_4), ((HB.out.cell (zq4 w _ hw176_0)).trans hw176_0), ((HB.out.cell (zq4 w _ hw176_1)).trans hw176_1), ((HB.out.cell (zq4 w _ hw176_2)).trans hw176_2), ((HB.out.cell (zq4 w _ hw176_3)).trans hw176_3), ((HB.out.cell (zq4 w _ hw176_4)).trans hw176_4)⟩ (fun hHeld => ?_)
        clear hK K
        refine norm_ (a' := ?_) ?_ ?_
        rotate_left
        ·
         show Act.put _ (some 7) _ = _
         simp only [Act.put, zq1, zq2, zq3, i64_w, i32_w]
         rfl
        refine one_ (i := 8) (N := some 6) #[true, true, true, true, true, true, true, true, true, true, false, false] rfl rfl (one_of HT_.out (by kernel_rfl)) (by decide) (fun K hK => ?_)
        refine box_step ?hg (N := 6) ?hd (cs := #[.string (⟨#[]⟩ : ByteArray), .int .u8 0, .int .i64 0, .string (⟨#[]⟩ : ByteArray), .slice none 0 0]) (t := 24) ?hr ?_; (case hd => rfl); (case hg => rfl); (case hr => first | (go_simp; done) | (go_simp; rfl))
        intro gb177 hg w15 hbox hb
        have n0_ := Zs.mk (blk_below (g := gb178) (o := .cells #[.string (⟨#[]⟩ : ByteArray), .int .u8 0, .int .i64 0, .string (⟨#[]⟩ : ByteArray), .slice none 0 0] 24 (0, 0)) (by (with_reducible repeat (first | refine blk_drewN ?_ _ | refine blk_drew ?_ | refine blk_alloc ?_ _)); exact BK178.out) hb)
        have n1_ := Zs.mk (zbt (by repeat (first | (with_reducible first | exact HB.out | apply zba | apply zbn | apply zbd | refine zbs ?_ GE178.out) | exact HB.out)) hb)
        have n2_ := Zs.mk (hbox)
        have n3_ := Zs.mk ((by rw [hg]; exact (zbz (by repeat (first | (with_reducible first | exact HB.out | apply zba | apply zbn | apply zbd | refine zbs ?_ GE178.out) | exact HB.out))) : w.heap.size ≤ gb177))
        have n4_ := Zs.mk ((by rw [hg]; exact (zbz (by repeat (first | (with_reducible first | exact HB.out | apply zba | apply zbn | apply zbd | refine zbs ?_ GE178.out) | exact HB.out))) : w.heap.size ≤ gb177))
        have n5_ := Zs.mk ((by rw [hg]; exact zq6 (blk_lt (g := gb178) (o := .cells #[.string (⟨#[]⟩ : ByteArray), .int .u8 0, .int .i64 0, .string (⟨#[]⟩ : ByteArray), .slice none 0 0] 24 (0, 0)) (by (with_reducible repeat (first | refine blk_drewN ?_ _ | refine blk_drew ?_ | refine blk_alloc ?_ _)); exact BK178.out)) : gb178 ≠ gb177))
        have n6_ := Zs.mk ((by rw [hg]; exact Nat.ne_of_gt (blk_lt (g := gb178) (o := .cells #[.string (⟨#[]⟩ : ByteArray), .int .u8 0, .int .i64 0, .string (⟨#[]⟩ : ByteArray), .slice none 0 0] 24 (0, 0)) (by (with_reducible repeat (first | refine blk_drewN ?_ _ | refine blk_drew ?_ | refine blk_alloc ?_ _)); exact BK178.out)) : gb177 ≠ gb178))
        clear BK178
        clear HB
        have BK178 := n0_
        have HB := n1_
        have BK177 := n2_
        have GW177 := n3_
        have GE177 := n4_
        have NB178_177 := n5_
        have NB177_178 := n6_
        clear n0_ n1_ n2_ n3_ n4_ n5_ n6_
        clear hb hbox hg
        refine hK.out _ _ ⟨((HB.out.cell (zq4 w _ hw175_0)).trans hw175_0), ((HB.out.cell (zq4 w _ hw175_1)).trans hw175_1), ((HB.out.cell (zq4 w _ hw175_2)).trans hw175_2), ((HB.out.cell (zq4 w _ hw175_3)).trans hw175_3), ((HB.out.cell (zq4 w _ hw175_4)).trans hw175_4), ((HB.out.cell (zq4 w _ hw176_0)).trans hw176_0), ((HB.out.cell (zq4 w _ hw176_1)).trans hw176_1), ((HB.out.cell (zq4 w _ hw176_2)).trans hw176_2), ((HB.out.cell (zq4 w _ hw176_3)).trans hw176_3), ((HB.out.cell (zq4 w _ hw176_4)).trans hw176_4)⟩ (fun hHeld => ?_)
        clear hK K
        refine norm_ (a' := ?_) ?_ ?_
        rotate_left
        ·
         show Act.put _ (some 6) _ = _
         simp only [Act.put, zq1, zq2, zq3, i64_w, i32_w]
         rfl
        exact norm_ (by simp only [putAll, Act.put, zq1, zq2, zq3]) (hCont (gb177, gb178) _ ⟨hHeld, (by (with_reducible repeat (first | refine blk_drewN ?_ _ | refine blk_drew ?_ | refine blk_alloc ?_ _)); exact BK177.out), (by (with_reducible repeat (first | refine blk_drewN ?_ _ | refine blk_drew ?_ | refine blk_alloc ?_ _)); exact BK178.out), GW177.out, GE177.out, NB178_177.out, NB177_178.out, GW178.out, GE178.out, (by repeat (first | (with_reducible first | exact HB.out | apply zba | apply zbn | apply zbd | refine zbs ?_ GE178.out | refine zbs ?_ GE177.out) | exact HB.out))⟩)
       rintro ⟨gb177, gb178⟩ w16 ⟨hS_, h0_, h1_, h2_, h3_, h4_, h5_, h6_, h7_, h8_⟩
       have n0_ : Zs (w16.heap[gb177]? = some (.cells #[.string (⟨#[]⟩ : ByteArray), .int .u8 0, .int .i64 0, .string (⟨#[]⟩ : ByteArray), .slice none 0 0] 24 (0, 0))) := ⟨h0_⟩
       have n1_ : Zs (w16.heap[gb178]? = some (.cells #[.string (⟨#[]⟩ : ByteArray), .int .u8 0, .int .i64 0, .string (⟨#[]⟩ : ByteArray), .slice none 0 0] 24 (0, 0))) := ⟨h1_⟩
       have n2_ : Zs (w.heap.size ≤ gb177) := ⟨h2_⟩
       have n3_ : Zs (w.heap.size ≤ gb177) := ⟨h3_⟩
       have n4_ : Zs (gb178 ≠ gb177) := ⟨h4_⟩
       have n5_ : Zs (gb177 ≠ gb178) := ⟨h5_⟩
       have n6_ : Zs (w.heap.size ≤ gb178) := ⟨h6_⟩
       have n7_ : Zs (w.heap.size ≤ gb178) := ⟨h7_⟩
       have n8_ : Zs (Below w.heap.size w w16) := ⟨h8_⟩
       clear HB
       clear h0_ h1_ h2_ h3_ h4_ h5_ h6_ h7_ h8_
       have BK177 := n0_
       have BK178 := n1_
       have GW177 := n2_
       have GE177 := n3_
       have NB178_177 := n4_
       have NB177_178 := n5_
       have GW178 := n6_
       have GE178 := n7_
       have HB := n8_
       clear n0_ n1_ n2_ n3_ n4_ n5_ n6_ n7_ n8_
       have hHeld : w16.cell? (ad175.add ((x5_1).toNat * 5)) = some (.string ((rd_T24 l0 x5_1).f0)) ∧ w16.cell? ⟨(ad175.add ((x5_1).toNat * 5)).block, (ad175.add ((x5_1).toNat * 5)).off + 1, none⟩ = some (.int .u8 ((rd_T24 l0 x5_1).f1)) ∧ w16.cell? ⟨(ad175.add ((x5_1).toNat * 5)).block, (ad175.add ((x5_1).toNat * 5)).off + 2, none⟩ = some (.int .i64 ((rd_T24 l0 x5_1).f2)) ∧ w16.cell? ⟨(ad175.add ((x5_1).toNat * 5)).block, (ad175.add ((x5_1).toNat * 5)).off + 3, none⟩ = some (.string ((rd_T24 l0 x5_1).f3)) ∧ w16.cell? ⟨(ad175.add ((x5_1).toNat * 5)).block, (ad175.add ((x5_1).toNat * 5)).off + 4, none⟩ = some (.slice A175_4 ((rd_T24 l0 x5_1).f4).length c175_4) ∧ w16.cell? (ad176.add ((x5_1).toNat * 5)) = some (.string ((rd_T24 l1 x5_1).f0)) ∧ w16.cell? ⟨(ad176.add ((x5_1).toNat * 5)).block, (ad176.add ((x5_1).toNat * 5)).off + 1, none⟩ = some (.int .u8 ((rd_T24 l1 x5_1).f1)) ∧ w16.cell? ⟨(ad176.add ((x5_1).toNat * 5)).block, (ad176.add ((x5_1).toNat * 5)).off + 2, none⟩ = some (.int .i64 ((rd_T24 l1 x5_1).f2)) ∧ w16.cell? ⟨(ad176.add ((x5_1).toNat * 5)).block, (ad176.add ((x5_1).toNat * 5)).off + 3, none⟩ = some (.string ((rd_T24 l1 x5_1).f3)) ∧ w16.cell? ⟨(ad176.add ((x5_1).toNat * 5)).block, (ad176.add ((x5_1).toNat * 5)).off + 4, none⟩ = some (.slice A176_4 ((rd_T24 l1 x5_1).f4).length c176_4) := hS_
       refine norm_ (a' := ?_) ?_ ?_
       rotate_left
       ·
        simp only [putAll, Act.put, zq1, zq2, zq3]
        rfl
       refine one_ (i := 10) (N := none) #[true, true, true, true, true, true, true, true, true, true, true, false] rfl rfl (one_of HT_.out (by kernel_rfl)) (by decide) (fun K hK => ?_)
       have hs17 : w16.cell? ⟨gb177, 0, none⟩ = some (.string (⟨#[]⟩ : ByteArray)) := (zbc BK177.out 0).trans rfl
       have hfs17 := zbf BK177.out 0
       have hns17_1 := NB178_177.out
       have hms17_1 := NB177_178.out
       have hs18 : w16.cell? ⟨gb177, 1, none⟩ = some (.int .u8 0) := (zbc BK177.out 1).trans rfl
       have hfs18 := zbf BK177.out 1
       have hns18_1 := NB178_177.out
       have hms18_1 := NB177_178.out
       have hs19 : w16.cell? ⟨gb177, 2, none⟩ = some (.int .i64 0) := (zbc BK177.out 2).trans rfl
       have hfs19 := zbf BK177.out 2
       have hns19_1 := NB178_177.out
       have hms19_1 := NB177_178.out
       have hs20 : w16.cell? ⟨gb177, 3, none⟩ = some (.string (⟨#[]⟩ : ByteArray)) := (zbc BK177.out 3).trans rfl
       have hfs20 := zbf BK177.out 3
       have hns20_1 := NB178_177.out
       have hms20_1 := NB177_178.out
       have hs21 : w16.cell? ⟨gb177, 4, none⟩ = some (.slice none 0 0) := (zbc BK177.out 4).trans rfl
       have hfs21 := zbf BK177.out 4
       have hns21_1 := NB178_177.out
       have hms21_1 := NB177_178.out
       refine skip_ (w1 := ?_) (by rfl) rfl ?_ ?_
       rotate_left
       ·
        go_simp
        rfl
       have nb177_175 : (ad175.add ((x5_1).toNat * 5)).block ≠ gb177 := zq6 (zq5 (zq4 _ _ hw175_0) GW177.out)
       have nb177_176 : (ad176.add ((x5_1).toNat * 5)).block ≠ gb177 := zq6 (zq5 (zq4 _ _ hw176_0) GW177.out)
       refine hK.out _ _ ⟨((cell_far (p := ⟨gb177, _, none⟩) (by exact nb177_175) _).trans (((cell_far (p := ⟨gb177, _, none⟩) (by exact nb177_175) _).trans (((cell_far (p := ⟨gb177, _, none⟩) (by exact nb177_175) _).trans (((cell_far (p := ⟨gb177, _, none⟩) (by exact nb177_175) _).trans (((cell_far (p := ⟨gb177, _, none⟩) (by exact nb177_175) _).trans (hHeld.1)))))))))), ((cell_far (p := ⟨gb177, _, none⟩) (by exact nb177_175) _).trans (((cell_far (p := ⟨gb177, _, none⟩) (by exact nb177_175) _).trans (((cell_far (p := ⟨gb177, _, none⟩) (by exact nb177_175) _).trans (((cell_far (p := ⟨gb177, _, none⟩) (by exact nb177_175) _).trans (((cell_far (p := ⟨gb177, _, none⟩) (by exact nb177_175) _).trans (hHeld.2.1)))))))))), ((cell_far (p := ⟨gb177, _, none⟩) (by exact nb177_175) _).trans (((cell_far (p := ⟨gb177, _, none⟩) (by exact nb177_175) _).trans (((cell_far (p := ⟨gb177, _, none⟩) (by exact nb177_175) _).trans (((cell_far (p := ⟨gb177, _, none⟩) (by exact nb177_175) _).trans (((cell_far (p := ⟨gb177, _, none⟩) (by exact nb177_175) _).trans (hHeld.2.2.1)))))))))), ((cell_far (p := ⟨gb177, _, none⟩) (by exact nb177_175) _).trans (((cell_far (p := ⟨gb177, _, none⟩) (by exact nb177_175) _).trans (((cell_far (p := ⟨gb177, _, none⟩) (by exact nb177_175) _).trans (((cell_far (p := ⟨gb177, _, none⟩) (by exact nb177_175) _).trans (((cell_far (p := ⟨gb177, _, none⟩) (by exact nb177_175) _).trans (hHeld.2.2.2.1)))))))))), ((cell_far (p := ⟨gb177, _, none⟩) (by exact nb177_175) _).trans (((cell_far (p := ⟨gb177, _, none⟩) (by exact nb177_175) _).trans (((cell_far (p := ⟨gb177, _, none⟩) (by exact nb177_175) _).trans (((cell_far (p := ⟨gb177, _, none⟩) (by exact nb177_175) _).trans (((cell_far (p := ⟨gb177, _, none⟩) (by exact nb177_175) _).trans (hHeld.2.2.2.2.1)))))))))), ((cell_far (p := ⟨gb177, _, none⟩) (by exact nb177_176) _).trans (((cell_far (p := ⟨gb177, _, none⟩) (by exact nb177_176) _).trans (((cell_far (p := ⟨gb177, _, none⟩) (by exact nb177_176) _).trans (((cell_far (p := ⟨gb177, _, none⟩) (by exact nb177_176) _).trans (((cell_far (p := ⟨gb177, _, none⟩) (by exact nb177_176) _).trans (hHeld.2.2.2.2.2.1)))))))))), ((cell_far (p := ⟨gb177, _, none⟩) (by exact nb177_176) _).trans (((cell_far (p := ⟨gb177, _, none⟩) (by exact nb177_176) _).trans (((cell_far (p := ⟨gb177, _, none⟩) (by exact nb177_176) _).trans (((cell_far (p := ⟨gb177, _, none⟩) (by exact nb177_176) _).trans (((cell_far (p := ⟨gb177, _, none⟩) (by exact nb177_176) _).trans (hHeld.2.2.2.2.2.2.1)))))))))), ((cell_far (p := ⟨gb177, _, none⟩) (by exact nb177_176) _).trans (((cell_far (p := ⟨gb177, _, none⟩) (by exact nb177_176) _).trans (((cell_far (p := ⟨gb177, _, none⟩) (by exact nb177_176) _).trans (((cell_far (p := ⟨gb177, _, none⟩) (by exact nb177_176) _).trans (((cell_far (p := ⟨gb177, _, none⟩) (by exact nb177_176) _).trans (hHeld.2.2.2.2.2.2.2.1)))))))))), ((cell_far (p := ⟨gb177, _, none⟩) (by exact nb177_176) _).trans (((cell_far (p := ⟨gb177, _, none⟩) (by exact nb177_176) _).trans (((cell_far (p := ⟨gb177, _, none⟩) (by exact nb177_176) _).trans (((cell_far (p := ⟨gb177, _, none⟩) (by exact nb177_176) _).trans (((cell_far (p := ⟨gb177, _, none⟩) (by exact nb177_176) _).trans (hHeld.2.2.2.2.2.2.2.2.1)))))))))), ((cell_far (p := ⟨gb177, _, none⟩) (by exact nb177_176) _).trans (((cell_far (p := ⟨gb177, _, none⟩) (by exact nb177_176) _).trans (((cell_far (p := ⟨gb177, _, none⟩) (by exact nb177_176) _).trans (((cell_far (p := ⟨gb177, _, none⟩) (by exact nb177_176) _).trans (((cell_far (p := ⟨gb177, _, none⟩) (by exact nb177_176) _).trans (hHeld.2.2.2.2.2.2.2.2.2))))))))))⟩ (fun hHeld => ?_)
       clear hK K
       refine one_ (i := 11) (N := none) #[true, true, true, true, true, true, true, true, true, true, true, true] rfl rfl (one_of HT_.out (by kernel_rfl)) (by decide) (fun K hK => ?_)
       have hs22 : w16.cell? ⟨gb178, 0, none⟩ = some (.string (⟨#[]⟩ : ByteArray)) := (zbc BK178.out 0).trans rfl
       have hfs22 := zbf BK178.out 0
       have hns22_0 := NB177_178.out
       have hms22_0 := NB178_177.out
       have hs23 : w16.cell? ⟨gb178, 1, none⟩ = some (.int .u8 0) := (zbc BK178.out 1).trans rfl
       have hfs23 := zbf BK178.out 1
       have hns23_0 := NB177_178.out
       have hms23_0 := NB178_177.out
       have hs24 : w16.cell? ⟨gb178, 2, none⟩ = some (.int .i64 0) := (zbc BK178.out 2).trans rfl
       have hfs24 := zbf BK178.out 2
       have hns24_0 := NB177_178.out
       have hms24_0 := NB178_177.out
       have hs25 : w16.cell? ⟨gb178, 3, none⟩ = some (.string (⟨#[]⟩ : ByteArray)) := (zbc BK178.out 3).trans rfl
       have hfs25 := zbf BK178.out 3
       have hns25_0 := NB177_178.out
       have hms25_0 := NB178_177.out
       have hs26 : w16.cell? ⟨gb178, 4, none⟩ = some (.slice none 0 0) := (zbc BK178.out 4).trans rfl
       have hfs26 := zbf BK178.out 4
       have hns26_0 := NB177_178.out
       have hms26_0 := NB178_177.out
       refine skip_ (w1 := ?_) (by rfl) rfl ?_ ?_
       rotate_left
       ·
        go_simp
        rfl
       have nb178_175 : (ad175.add ((x5_1).toNat * 5)).block ≠ gb178 := zq6 (zq5 (zq4 _ _ hw175_0) GW178.out)
       have nb178_176 : (ad176.add ((x5_1).toNat * 5)).block ≠ gb178 := zq6 (zq5 (zq4 _ _ hw176_0) GW178.out)
       refine hK.out _ _ ⟨((cell_far (p := ⟨gb178, _, none⟩) (by exact nb178_175) _).trans (((cell_far (p := ⟨gb178, _, none⟩) (by exact nb178_175) _).trans (((cell_far (p := ⟨gb178, _, none⟩) (by exact nb178_175) _).trans (((cell_far (p := ⟨gb178, _, none⟩) (by exact nb178_175) _).trans (((cell_far (p := ⟨gb178, _, none⟩) (by exact nb178_175) _).trans (hHeld.1)))))))))), ((cell_far (p := ⟨gb178, _, none⟩) (by exact nb178_175) _).trans (((cell_far (p := ⟨gb178, _, none⟩) (by exact nb178_175) _).trans (((cell_far (p := ⟨gb178, _, none⟩) (by exact nb178_175) _).trans (((cell_far (p := ⟨gb178, _, none⟩) (by exact nb178_175) _).trans (((cell_far (p := ⟨gb178, _, none⟩) (by exact nb178_175) _).trans (hHeld.2.1)))))))))), ((cell_far (p := ⟨gb178, _, none⟩) (by exact nb178_175) _).trans (((cell_far (p := ⟨gb178, _, none⟩) (by exact nb178_175) _).trans (((cell_far (p := ⟨gb178, _, none⟩) (by exact nb178_175) _).trans (((cell_far (p := ⟨gb178, _, none⟩) (by exact nb178_175) _).trans (((cell_far (p := ⟨gb178, _, none⟩) (by exact nb178_175) _).trans (hHeld.2.2.1)))))))))), ((cell_far (p := ⟨gb178, _, none⟩) (by exact nb178_175) _).trans (((cell_far (p := ⟨gb178, _, none⟩) (by exact nb178_175) _).trans (((cell_far (p := ⟨gb178, _, none⟩) (by exact nb178_175) _).trans (((cell_far (p := ⟨gb178, _, none⟩) (by exact nb178_175) _).trans (((cell_far (p := ⟨gb178, _, none⟩) (by exact nb178_175) _).trans (hHeld.2.2.2.1)))))))))), ((cell_far (p := ⟨gb178, _, none⟩) (by exact nb178_175) _).trans (((cell_far (p := ⟨gb178, _, none⟩) (by exact nb178_175) _).trans (((cell_far (p := ⟨gb178, _, none⟩) (by exact nb178_175) _).trans (((cell_far (p := ⟨gb178, _, none⟩) (by exact nb178_175) _).trans (((cell_far (p := ⟨gb178, _, none⟩) (by exact nb178_175) _).trans (hHeld.2.2.2.2.1)))))))))), ((cell_far (p := ⟨gb178, _, none⟩) (by exact nb178_176) _).trans (((cell_far (p := ⟨gb178, _, none⟩) (by exact nb178_176) _).trans (((cell_far (p := ⟨gb178, _, none⟩) (by exact nb178_176) _).trans (((cell_far (p := ⟨gb178, _, none⟩) (by exact nb178_176) _).trans (((cell_far (p := ⟨gb178, _, none⟩) (by exact nb178_176) _).trans (hHeld.2.2.2.2.2.1)))))))))), ((cell_far (p := ⟨gb178, _, none⟩) (by exact nb178_176) _).trans (((cell_far (p := ⟨gb178, _, none⟩) (by exact nb178_176) _).trans (((cell_far (p := ⟨gb178, _, none⟩) (by exact nb178_176) _).trans (((cell_far (p := ⟨gb178, _, none⟩) (by exact nb178_176) _).trans (((cell_far (p := ⟨gb178, _, none⟩) (by exact nb178_176) _).trans (hHeld.2.2.2.2.2.2.1)))))))))), ((cell_far (p := ⟨gb178, _, none⟩) (by exact nb178_176) _).trans (((cell_far (p := ⟨gb178, _, none⟩) (by exact nb178_176) _).trans (((cell_far (p := ⟨gb178, _, none⟩) (by exact nb178_176) _).trans (((cell_far (p := ⟨gb178, _, none⟩) (by exact nb178_176) _).trans (((cell_far (p := ⟨gb178, _, none⟩) (by exact nb178_176) _).trans (hHeld.2.2.2.2.2.2.2.1)))))))))), ((cell_far (p := ⟨gb178, _, none⟩) (by exact nb178_176) _).trans (((cell_far (p := ⟨gb178, _, none⟩) (by exact nb178_176) _).trans (((cell_far (p := ⟨gb178, _, none⟩) (by exact nb178_176) _).trans (((cell_far (p := ⟨gb178, _, none⟩) (by exact nb178_176) _).trans (((cell_far (p := ⟨gb178, _, none⟩) (by exact nb178_176) _).trans (hHeld.2.2.2.2.2.2.2.2.1)))))))))), ((cell_far (p := ⟨gb178, _, none⟩) (by exact nb178_176) _).trans (((cell_far (p := ⟨gb178, _, none⟩) (by exact nb178_176) _).trans (((cell_far (p := ⟨gb178, _, none⟩) (by exact nb178_176) _).trans (((cell_far (p := ⟨gb178, _, none⟩) (by exact nb178_176) _).trans (((cell_far (p := ⟨gb178, _, none⟩) (by exact nb178_176) _).trans (hHeld.2.2.2.2.2.2.2.2.2))))))))))⟩ (fun hHeld => ?_)
       clear hK K
       refine done_ (done_of HT_.out (by kernel_rfl)) ?_
       have hnb27 := NB177_178.out
       have hnc27 := NB178_177.out
       have hcz28_0 : w16.cell? ⟨gb177, 0, none⟩ = some (.string (⟨#[]⟩ : ByteArray)) := (zbc BK177.out 0).trans rfl
       have hcz28_1 : w16.cell? ⟨gb177, 1, none⟩ = some (.int .u8 0) := (zbc BK177.out 1).trans rfl
       have hcz28_2 : w16.cell? ⟨gb177, 2, none⟩ = some (.int .i64 0) := (zbc BK177.out 2).trans rfl
       have hcz28_3 : w16.cell? ⟨gb177, 3, none⟩ = some (.string (⟨#[]⟩ : ByteArray)) := (zbc BK177.out 3).trans rfl
       have hcz28_4 : w16.cell? ⟨gb177, 4, none⟩ = some (.slice none 0 0) := (zbc BK177.out 4).trans rfl
       have hfz28_0 := zbf BK177.out 0
       have hfz28_1 := zbf BK177.out 1
       have hfz28_2 := zbf BK177.out 2
       have hfz28_3 := zbf BK177.out 3
       have hfz28_4 := zbf BK177.out 4
       have hcz29_0 : w16.cell? ⟨gb178, 0, none⟩ = some (.string (⟨#[]⟩ : ByteArray)) := (zbc BK178.out 0).trans rfl
       have hcz29_1 : w16.cell? ⟨gb178, 1, none⟩ = some (.int .u8 0) := (zbc BK178.out 1).trans rfl
       have hcz29_2 : w16.cell? ⟨gb178, 2, none⟩ = some (.int .i64 0) := (zbc BK178.out 2).trans rfl
       have hcz29_3 : w16.cell? ⟨gb178, 3, none⟩ = some (.string (⟨#[]⟩ : ByteArray)) := (zbc BK178.out 3).trans rfl
       have hcz29_4 : w16.cell? ⟨gb178, 4, none⟩ = some (.slice none 0 0) := (zbc BK178.out 4).trans rfl
       have hfz29_0 := zbf BK178.out 0
       have hfz29_1 := zbf BK178.out 1
       have hfz29_2 := zbf BK178.out 2
       have hfz29_3 := zbf BK178.out 3
       have hfz29_4 := zbf BK178.out 4
       have H := HX.out
       clear HX
       by_cases c7 : ((rd_T24 l0 x5_1).f0).toList = ((rd_T24 l1 x5_1).f0).toList
       ·
        rw [if_pos c7] at H
        have c7b0 : (((rd_T24 l0 x5_1).f0).toList == ((rd_T24 l1 x5_1).f0).toList) = true := beq_iff_eq.mpr c7
        have c7b1 : (((rd_T24 l0 x5_1).f0).toList != ((rd_T24 l1 x5_1).f0).toList) = false := bne_eq_false_iff_eq.mpr c7
        clear c7
        by_cases c8 : ((rd_T24 l0 x5_1).f1) = ((rd_T24 l1 x5_1).f1)
        ·
         rw [if_pos c8] at H
         have c8b0 : (((rd_T24 l0 x5_1).f1) == ((rd_T24 l1 x5_1).f1)) = true := beq_iff_eq.mpr c8
         have c8b1 : (((rd_T24 l0 x5_1).f1) != ((rd_T24 l1 x5_1).f1)) = false := bne_eq_false_iff_eq.mpr c8
         clear c8
         by_cases c9 : ((rd_T24 l0 x5_1).f2) = ((rd_T24 l1 x5_1).f2)
         ·
          rw [if_pos c9] at H
          have c9b0 : (((rd_T24 l0 x5_1).f2) == ((rd_T24 l1 x5_1).f2)) = true := beq_iff_eq.mpr c9
          have c9b1 : (((rd_T24 l0 x5_1).f2) != ((rd_T24 l1 x5_1).f2)) = false := bne_eq_false_iff_eq.mpr c9
          clear c9
          by_cases c10 : ((rd_T24 l0 x5_1).f3).toList = ((rd_T24 l1 x5_1).f3).toList
          ·
           rw [if_pos c10] at H
           have c10b0 : (((rd_T24 l0 x5_1).f3).toList == ((rd_T24 l1 x5_1).f3).toList) = true := beq_iff_eq.mpr c10
           have c10b1 : (((rd_T24 l0 x5_1).f3).toList != ((rd_T24 l1 x5_1).f3).toList) = false := bne_eq_false_iff_eq.mpr c10
           clear c10
           replace H := Option.bind_eq_some_iff.mp H
           obtain ⟨t179, A110, H⟩ := H
           replace H : (if t179 = true then (zfs.l0 k1 l0 l1 (wrap64 (x5_1 + 1))) else (some false)) = some r := H
           have A11 := Zs.mk A110
           clear A110
           by_cases c12 : t179 = true
           ·
            subst c12
            have H1 : (zfs.l0 k1 l0 l1 (wrap64 (x5_1 + 1))) = some r := by rw [if_pos rfl] at H; exact H
            clear H
            have H := H1
            clear H1
            have H' := Zs.mk H
            clear H
            try go_wp2_with (first | (go_at_call 18; (with_reducible refine (ih k1 (by have := HK1.out; omega) _ _ ((rd_T24 l0 x5_1).f4) _ _ ((rd_T24 l1 x5_1).f4) true _ ?side1 ?side2 ?side3 ?side4 A11.out).mono ?_); (case side1 => exact Kd.C_below HR175_4.out (by repeat (first | (with_reducible first | exact HB.out | apply zba | apply zbn | apply zbd | refine zbs ?_ GE177.out | refine zbs ?_ GE178.out) | exact HB.out))); (case side2 => exact HC175_4.out); (case side3 => exact Kd.C_below HR176_4.out (by repeat (first | (with_reducible first | exact HB.out | apply zba | apply zbn | apply zbd | refine zbs ?_ GE177.out | refine zbs ?_ GE178.out) | exact HB.out))); (case side4 => exact HC176_4.out); rintro e w30 ⟨rfl, hb⟩; have n0_ := Zs.mk (blk_below (g := gb177) (o := .cells #[.string ((rd_T24 l0 x5_1).f0), .int .u8 ((rd_T24 l0 x5_1).f1), .int .i64 ((rd_T24 l0 x5_1).f2), .string ((rd_T24 l0 x5_1).f3), .slice A175_4 ((rd_T24 l0 x5_1).f4).length c175_4] 24 (0, 0)) (by (with_reducible repeat (first | refine blk_drewN ?_ _ | refine blk_drew ?_ | refine blk_alloc ?_ _)); refine blk_far ?_ NB177_178.out _; (with_reducible repeat (first | refine blk_drewN ?_ _ | refine blk_drew ?_ | refine blk_alloc ?_ _)); refine blk_far ?_ NB177_178.out _; (with_reducible repeat (first | refine blk_drewN ?_ _ | refine blk_drew ?_ | refine blk_alloc ?_ _)); refine blk_far ?_ NB177_178.out _; (with_reducible repeat (first | refine blk_drewN ?_ _ | refine blk_drew ?_ | refine blk_alloc ?_ _)); refine blk_far ?_ NB177_178.out _; (with_reducible repeat (first | refine blk_drewN ?_ _ | refine blk_drew ?_ | refine blk_alloc ?_ _)); refine blk_far ?_ NB177_178.out _; (with_reducible repeat (first | refine blk_drewN ?_ _ | refine blk_drew ?_ | refine blk_alloc ?_ _)); refine blk_put (cs := #[.string ((rd_T24 l0 x5_1).f0), .int .u8 ((rd_T24 l0 x5_1).f1), .int .i64 ((rd_T24 l0 x5_1).f2), .string ((rd_T24 l0 x5_1).f3), .slice none 0 0]) ?_ 4 _ rfl; (with_reducible repeat (first | refine blk_drewN ?_ _ | refine blk_drew ?_ | refine blk_alloc ?_ _)); refine blk_put (cs := #[.string ((rd_T24 l0 x5_1).f0), .int .u8 ((rd_T24 l0 x5_1).f1), .int .i64 ((rd_T24 l0 x5_1).f2), .string (⟨#[]⟩ : ByteArray), .slice none 0 0]) ?_ 3 _ rfl; (with_reducible repeat (first | refine blk_drewN ?_ _ | refine blk_drew ?_ | refine blk_alloc ?_ _)); refine blk_put (cs := #[.string ((rd_T24 l0 x5_1).f0), .int .u8 ((rd_T24 l0 x5_1).f1), .int .i64 0, .string (⟨#[]⟩ : ByteArray), .slice none 0 0]) ?_ 2 _ rfl; (with_reducible repeat (first | refine blk_drewN ?_ _ | refine blk_drew ?_ | refine blk_alloc ?_ _)); refine blk_put (cs := #[.string ((rd_T24 l0 x5_1).f0), .int .u8 0, .int .i64 0, .string (⟨#[]⟩ : ByteArray), .slice none 0 0]) ?_ 1 _ rfl; (with_reducible repeat (first | refine blk_drewN ?_ _ | refine blk_drew ?_ | refine blk_alloc ?_ _)); refine blk_put (cs := #[.string (⟨#[]⟩ : ByteArray), .int .u8 0, .int .i64 0, .string (⟨#[]⟩ : ByteArray), .slice none 0 0]) ?_ 0 _ rfl; (with_reducible repeat (first | refine blk_drewN ?_ _ | refine blk_drew ?_ | refine blk_alloc ?_ _)); exact BK177.out) hb); have n1_ := Zs.mk (blk_below (g := gb178) (o := .cells #[.string ((rd_T24 l1 x5_1).f0), .int .u8 ((rd_T24 l1 x5_1).f1), .int .i64 ((rd_T24 l1 x5_1).f2), .string ((rd_T24 l1 x5_1).f3), .slice A176_4 ((rd_T24 l1 x5_1).f4).length c176_4] 24 (0, 0)) (by (with_reducible repeat (first | refine blk_drewN ?_ _ | refine blk_drew ?_ | refine blk_alloc ?_ _)); refine blk_put (cs := #[.string ((rd_T24 l1 x5_1).f0), .int .u8 ((rd_T24 l1 x5_1).f1), .int .i64 ((rd_T24 l1 x5_1).f2), .string ((rd_T24 l1 x5_1).f3), .slice none 0 0]) ?_ 4 _ rfl; (with_reducible repeat (first | refine blk_drewN ?_ _ | refine blk_drew ?_ | refine blk_alloc ?_ _)); refine blk_put (cs := #[.string ((rd_T24 l1 x5_1).f0), .int .u8 ((rd_T24 l1 x5_1).f1), .int .i64 ((rd_T24 l1 x5_1).f2), .string (⟨#[]⟩ : ByteArray), .slice none 0 0]) ?_ 3 _ rfl; (with_reducible repeat (first | refine blk_drewN ?_ _ | refine blk_drew ?_ | refine blk_alloc ?_ _)); refine blk_put (cs := #[.string ((rd_T24 l1 x5_1).f0), .int .u8 ((rd_T24 l1 x5_1).f1), .int .i64 0, .string (⟨#[]⟩ : ByteArray), .slice none 0 0]) ?_ 2 _ rfl; (with_reducible repeat (first | refine blk_drewN ?_ _ | refine blk_drew ?_ | refine blk_alloc ?_ _)); refine blk_put (cs := #[.string ((rd_T24 l1 x5_1).f0), .int .u8 0, .int .i64 0, .string (⟨#[]⟩ : ByteArray), .slice none 0 0]) ?_ 1 _ rfl; (with_reducible repeat (first | refine blk_drewN ?_ _ | refine blk_drew ?_ | refine blk_alloc ?_ _)); refine blk_put (cs := #[.string (⟨#[]⟩ : ByteArray), .int .u8 0, .int .i64 0, .string (⟨#[]⟩ : ByteArray), .slice none 0 0]) ?_ 0 _ rfl; (with_reducible repeat (first | refine blk_drewN ?_ _ | refine blk_drew ?_ | refine blk_alloc ?_ _)); refine blk_far ?_ NB178_177.out _; (with_reducible repeat (first | refine blk_drewN ?_ _ | refine blk_drew ?_ | refine blk_alloc ?_ _)); refine blk_far ?_ NB178_177.out _; (with_reducible repeat (first | refine blk_drewN ?_ _ | refine blk_drew ?_ | refine blk_alloc ?_ _)); refine blk_far ?_ NB178_177.out _; (with_reducible repeat (first | refine blk_drewN ?_ _ | refine blk_drew ?_ | refine blk_alloc ?_ _)); refine blk_far ?_ NB178_177.out _; (with_reducible repeat (first | refine blk_drewN ?_ _ | refine blk_drew ?_ | refine blk_alloc ?_ _)); refine blk_far ?_ NB178_177.out _; (with_reducible repeat (first | refine blk_drewN ?_ _ | refine blk_drew ?_ | refine blk_alloc ?_ _)); exact BK178.out) hb); have n2_ := Zs.mk (zbt (by repeat (first | (with_reducible first | exact HB.out | apply zba | apply zbn | apply zbd | refine zbs ?_ GE177.out | refine zbs ?_ GE178.out) | exact HB.out)) hb); clear BK177; clear BK178; clear HB; have BK177 := n0_; have BK178 := n1_; have HB := n2_; clear n0_ n1_ n2_; (try clear hb); (try clear hb2); (try clear hk); (try clear hi); (try clear hge)))
            go_roundg k1
            case measure => have := HK1.out; omega
            case rel => exact ⟨(wrap64 (x5_1 + 1)), (by first | rfl | (simp; done) | (simp [*]; done)), H', ⟨by have := HK1.out; omega⟩, ⟨by repeat (first | (with_reducible first | exact HB.out | apply zba | apply zbn | apply zbd | refine zbs ?_ GE177.out | refine zbs ?_ GE178.out) | exact HB.out)⟩⟩
           replace c12 := Bool.eq_false_iff.mpr c12
           subst c12
           have H1 : (some false) = some r := by rw [if_neg (show ¬ (false = true) by decide)] at H; exact H
           clear H
           have H := H1
           clear H1
           obtain rfl := Option.some.inj H
           try go_wp2_with (first | (go_at_call 18; (with_reducible refine (ih k1 (by have := HK1.out; omega) _ _ ((rd_T24 l0 x5_1).f4) _ _ ((rd_T24 l1 x5_1).f4) false _ ?side1 ?side2 ?side3 ?side4 A11.out).mono ?_); (case side1 => exact Kd.C_below HR175_4.out (by repeat (first | (with_reducible first | exact HB.out | apply zba | apply zbn | apply zbd | refine zbs ?_ GE177.out | refine zbs ?_ GE178.out) | exact HB.out))); (case side2 => exact HC175_4.out); (case side3 => exact Kd.C_below HR176_4.out (by repeat (first | (with_reducible first | exact HB.out | apply zba | apply zbn | apply zbd | refine zbs ?_ GE177.out | refine zbs ?_ GE178.out) | exact HB.out))); (case side4 => exact HC176_4.out); rintro e w48 ⟨rfl, hb⟩; have n0_ := Zs.mk (blk_below (g := gb177) (o := .cells #[.string ((rd_T24 l0 x5_1).f0), .int .u8 ((rd_T24 l0 x5_1).f1), .int .i64 ((rd_T24 l0 x5_1).f2), .string ((rd_T24 l0 x5_1).f3), .slice A175_4 ((rd_T24 l0 x5_1).f4).length c175_4] 24 (0, 0)) (by (with_reducible repeat (first | refine blk_drewN ?_ _ | refine blk_drew ?_ | refine blk_alloc ?_ _)); refine blk_far ?_ NB177_178.out _; (with_reducible repeat (first | refine blk_drewN ?_ _ | refine blk_drew ?_ | refine blk_alloc ?_ _)); refine blk_far ?_ NB177_178.out _; (with_reducible repeat (first | refine blk_drewN ?_ _ | refine blk_drew ?_ | refine blk_alloc ?_ _)); refine blk_far ?_ NB177_178.out _; (with_reducible repeat (first | refine blk_drewN ?_ _ | refine blk_drew ?_ | refine blk_alloc ?_ _)); refine blk_far ?_ NB177_178.out _; (with_reducible repeat (first | refine blk_drewN ?_ _ | refine blk_drew ?_ | refine blk_alloc ?_ _)); refine blk_far ?_ NB177_178.out _; (with_reducible repeat (first | refine blk_drewN ?_ _ | refine blk_drew ?_ | refine blk_alloc ?_ _)); refine blk_put (cs := #[.string ((rd_T24 l0 x5_1).f0), .int .u8 ((rd_T24 l0 x5_1).f1), .int .i64 ((rd_T24 l0 x5_1).f2), .string ((rd_T24 l0 x5_1).f3), .slice none 0 0]) ?_ 4 _ rfl; (with_reducible repeat (first | refine blk_drewN ?_ _ | refine blk_drew ?_ | refine blk_alloc ?_ _)); refine blk_put (cs := #[.string ((rd_T24 l0 x5_1).f0), .int .u8 ((rd_T24 l0 x5_1).f1), .int .i64 ((rd_T24 l0 x5_1).f2), .string (⟨#[]⟩ : ByteArray), .slice none 0 0]) ?_ 3 _ rfl; (with_reducible repeat (first | refine blk_drewN ?_ _ | refine blk_drew ?_ | refine blk_alloc ?_ _)); refine blk_put (cs := #[.string ((rd_T24 l0 x5_1).f0), .int .u8 ((rd_T24 l0 x5_1).f1), .int .i64 0, .string (⟨#[]⟩ : ByteArray), .slice none 0 0]) ?_ 2 _ rfl; (with_reducible repeat (first | refine blk_drewN ?_ _ | refine blk_drew ?_ | refine blk_alloc ?_ _)); refine blk_put (cs := #[.string ((rd_T24 l0 x5_1).f0), .int .u8 0, .int .i64 0, .string (⟨#[]⟩ : ByteArray), .slice none 0 0]) ?_ 1 _ rfl; (with_reducible repeat (first | refine blk_drewN ?_ _ | refine blk_drew ?_ | refine blk_alloc ?_ _)); refine blk_put (cs := #[.string (⟨#[]⟩ : ByteArray), .int .u8 0, .int .i64 0, .string (⟨#[]⟩ : ByteArray), .slice none 0 0]) ?_ 0 _ rfl; (with_reducible repeat (first | refine blk_drewN ?_ _ | refine blk_drew ?_ | refine blk_alloc ?_ _)); exact BK177.out) hb); have n1_ := Zs.mk (blk_below (g := gb178) (o := .cells #[.string ((rd_T24 l1 x5_1).f0), .int .u8 ((rd_T24 l1 x5_1).f1), .int .i64 ((rd_T24 l1 x5_1).f2), .string ((rd_T24 l1 x5_1).f3), .slice A176_4 ((rd_T24 l1 x5_1).f4).length c176_4] 24 (0, 0)) (by (with_reducible repeat (first | refine blk_drewN ?_ _ | refine blk_drew ?_ | refine blk_alloc ?_ _)); refine blk_put (cs := #[.string ((rd_T24 l1 x5_1).f0), .int .u8 ((rd_T24 l1 x5_1).f1), .int .i64 ((rd_T24 l1 x5_1).f2), .string ((rd_T24 l1 x5_1).f3), .slice none 0 0]) ?_ 4 _ rfl; (with_reducible repeat (first | refine blk_drewN ?_ _ | refine blk_drew ?_ | refine blk_alloc ?_ _)); refine blk_put (cs := #[.string ((rd_T24 l1 x5_1).f0), .int .u8 ((rd_T24 l1 x5_1).f1), .int .i64 ((rd_T24 l1 x5_1).f2), .string (⟨#[]⟩ : ByteArray), .slice none 0 0]) ?_ 3 _ rfl; (with_reducible repeat (first | refine blk_drewN ?_ _ | refine blk_drew ?_ | refine blk_alloc ?_ _)); refine blk_put (cs := #[.string ((rd_T24 l1 x5_1).f0), .int .u8 ((rd_T24 l1 x5_1).f1), .int .i64 0, .string (⟨#[]⟩ : ByteArray), .slice none 0 0]) ?_ 2 _ rfl; (with_reducible repeat (first | refine blk_drewN ?_ _ | refine blk_drew ?_ | refine blk_alloc ?_ _)); refine blk_put (cs := #[.string ((rd_T24 l1 x5_1).f0), .int .u8 0, .int .i64 0, .string (⟨#[]⟩ : ByteArray), .slice none 0 0]) ?_ 1 _ rfl; (with_reducible repeat (first | refine blk_drewN ?_ _ | refine blk_drew ?_ | refine blk_alloc ?_ _)); refine blk_put (cs := #[.string (⟨#[]⟩ : ByteArray), .int .u8 0, .int .i64 0, .string (⟨#[]⟩ : ByteArray), .slice none 0 0]) ?_ 0 _ rfl; (with_reducible repeat (first | refine blk_drewN ?_ _ | refine blk_drew ?_ | refine blk_alloc ?_ _)); refine blk_far ?_ NB178_177.out _; (with_reducible repeat (first | refine blk_drewN ?_ _ | refine blk_drew ?_ | refine blk_alloc ?_ _)); refine blk_far ?_ NB178_177.out _; (with_reducible repeat (first | refine blk_drewN ?_ _ | refine blk_drew ?_ | refine blk_alloc ?_ _)); refine blk_far ?_ NB178_177.out _; (with_reducible repeat (first | refine blk_drewN ?_ _ | refine blk_drew ?_ | refine blk_alloc ?_ _)); refine blk_far ?_ NB178_177.out _; (with_reducible repeat (first | refine blk_drewN ?_ _ | refine blk_drew ?_ | refine blk_alloc ?_ _)); refine blk_far ?_ NB178_177.out _; (with_reducible repeat (first | refine blk_drewN ?_ _ | refine blk_drew ?_ | refine blk_alloc ?_ _)); exact BK178.out) hb); have n2_ := Zs.mk (zbt (by repeat (first | (with_reducible first | exact HB.out | apply zba | apply zbn | apply zbd | refine zbs ?_ GE177.out | refine zbs ?_ GE178.out) | exact HB.out)) hb); clear BK177; clear BK178; clear HB; have BK177 := n0_; have BK178 := n1_; have HB := n2_; clear n0_ n1_ n2_; (try clear hb); (try clear hb2); (try clear hk); (try clear hi); (try clear hge)))
           go_ret
           exact ⟨by first | rfl | (simp [zen, zes] <;> rfl) | (simp [*, zen, zes] <;> rfl), by repeat (first | (with_reducible first | exact HB.out | apply zba | apply zbn | apply zbd | refine zbs ?_ GE177.out | refine zbs ?_ GE178.out) | exact HB.out)⟩
          rw [if_neg c10] at H
          have c10b0 : (((rd_T24 l0 x5_1).f3).toList == ((rd_T24 l1 x5_1).f3).toList) = false := beq_eq_false_iff_ne.mpr c10
          have c10b1 : (((rd_T24 l0 x5_1).f3).toList != ((rd_T24 l1 x5_1).f3).toList) = true := bne_iff_ne.mpr c10
          obtain rfl := Option.some.inj H
          try go_wp2
          go_ret
          exact ⟨by first | rfl | (simp [zen, zes] <;> rfl) | (simp [*, zen, zes] <;> rfl), by repeat (first | (with_reducible first | exact HB.out | apply zba | apply zbn | apply zbd | refine zbs ?_ GE177.out | refine zbs ?_ GE178.out) | exact HB.out)⟩
         rw [if_neg c9] at H
         have c9b0 : (((rd_T24 l0 x5_1).f2) == ((rd_T24 l1 x5_1).f2)) = false := beq_eq_false_iff_ne.mpr c9
         have c9b1 : (((rd_T24 l0 x5_1).f2) != ((rd_T24 l1 x5_1).f2)) = true := bne_iff_ne.mpr c9
         obtain rfl := Option.some.inj H
         try go_wp2
         go_ret
         exact ⟨by first | rfl | (simp [zen, zes] <;> rfl) | (simp [*, zen, zes] <;> rfl), by repeat (first | (with_reducible first | exact HB.out | apply zba | apply zbn | apply zbd | refine zbs ?_ GE177.out | refine zbs ?_ GE178.out) | exact HB.out)⟩
        rw [if_neg c8] at H
        have c8b0 : (((rd_T24 l0 x5_1).f1) == ((rd_T24 l1 x5_1).f1)) = false := beq_eq_false_iff_ne.mpr c8
        have c8b1 : (((rd_T24 l0 x5_1).f1) != ((rd_T24 l1 x5_1).f1)) = true := bne_iff_ne.mpr c8
        obtain rfl := Option.some.inj H
        try go_wp2
        go_ret
        exact ⟨by first | rfl | (simp [zen, zes] <;> rfl) | (simp [*, zen, zes] <;> rfl), by repeat (first | (with_reducible first | exact HB.out | apply zba | apply zbn | apply zbd | refine zbs ?_ GE177.out | refine zbs ?_ GE178.out) | exact HB.out)⟩
       rw [if_neg c7] at H
       have c7b0 : (((rd_T24 l0 x5_1).f0).toList == ((rd_T24 l1 x5_1).f0).toList) = false := beq_eq_false_iff_ne.mpr c7
       have c7b1 : (((rd_T24 l0 x5_1).f0).toList != ((rd_T24 l1 x5_1).f0).toList) = true := bne_iff_ne.mpr c7
       obtain rfl := Option.some.inj H
       try go_wp2
       go_ret
       exact ⟨by first | rfl | (simp [zen, zes] <;> rfl) | (simp [*, zen, zes] <;> rfl), by repeat (first | (with_reducible first | exact HB.out | apply zba | apply zbn | apply zbd | refine zbs ?_ GE177.out | refine zbs ?_ GE178.out) | exact HB.out)⟩
      rw [if_neg c6] at H
      exact absurd H (by simp)
     rw [if_neg c5] at H
     exact absurd H (by simp)
    rw [if_neg c4] at H
    have c4b0 : decide (x5_1 < (l0.length : Int)) = false := decide_eq_false c4
    clear c4
    obtain rfl := Option.some.inj H
    go_wp2
    go_ret
    exact ⟨by first | rfl | (simp [zen, zes] <;> rfl) | (simp [*, zen, zes] <;> rfl), by repeat (first | (with_reducible first | exact HB.out | apply zba | apply zbn | apply zbd) | exact HB.out)⟩
 rw [if_neg c3] at H
 have c3b0 : ((l0.length : Int) == (l1.length : Int)) = false := beq_eq_false_iff_ne.mpr c3
 have c3b1 : ((l0.length : Int) != (l1.length : Int)) = true := bne_iff_ne.mpr c3
 have c3b2 : (l0.length == l1.length) = false := by first | simpa using c3 | (simp at c3 ⊢; omega)
 obtain rfl := Option.some.inj H
 go_enter Try.func18, Try.ntmps18
 go_wp2
 go_ret
 exact ⟨by first | rfl | (simp [zen, zes] <;> rfl) | (simp [*, zen, zes] <;> rfl), by repeat (first | (with_reducible first | exact HB.out | apply zba | apply zbn | apply zbd) | exact HB.out)⟩

theorem Tb.up {α : Type} {f : Nat → Option α} (h : ∀ k, LeO (f k) (f (k + 1))) {k : Nat} {r : α} (hk : f k = some r) : ∀ d, f (k + d) = some r
 | 0 => hk
 | d + 1 => h _ _ (Tb.up h hk d)
theorem Tb.bytes_eq {s t : ByteArray} : s.toList = t.toList ↔ s = t := by
 refine ⟨fun h => ?_, fun h => by rw [h]⟩
 rw [ByteArray.toList_eq, ByteArray.toList_eq] at h
 cases s; cases t
 simp only [ByteArray.mk.injEq]
 exact Array.toList_inj.1 h
theorem Tb.drop24 (l : List S24) (i : Nat) (h : i < l.length) : l.drop i = rd_T24 l (i : Int) :: l.drop (i + 1) := by
 rw [List.drop_eq_getElem_cons h]
 simp [rd_T24, List.getD_eq_getElem?_getD, List.getElem?_eq_getElem h]
theorem Tb.Same_l0 (l m : List S24) (hl : l.length = m.length) (hb : l.length ≤ 9223372036854775807) (hs : ∀ i : Nat, i < l.length → ∃ k, zfs.f k (rd_T24 l (i : Int)).f4 (rd_T24 m (i : Int)).f4 = some (Tb.sameL (rd_T24 l (i : Int)).f4 (rd_T24 m (i : Int)).f4)) :
  ∀ (d i : Nat), i + d = l.length → ∃ k, zfs.l0 k l m (i : Int) = some (Tb.sameL (l.drop i) (m.drop i)) := by
 intro d
 induction d with
 | zero =>
  intro i hi
  refine ⟨1, ?_⟩
  simp only [zfs.l0]
  rw [if_neg (by omega), List.drop_eq_nil_of_le (by omega), List.drop_eq_nil_of_le (by omega)]
  simp [Tb.sameL]
 | succ d ih =>
  intro i hi
  obtain ⟨k1, h1⟩ := hs i (by omega)
  obtain ⟨k2, h2⟩ := ih (i + 1) (by omega)
  have e1 := Tb.up (fun k => zfs.mono _ _ k) h1 k2
  have e2 := Tb.up (fun k => (zfs.mono_l k).2 l m ((i + 1 : Nat) : Int)) h2 k1
  rw [Nat.add_comm k2 k1] at e2
  refine ⟨k1 + k2 + 1, ?_⟩
  rw [Tb.drop24 l i (by omega), Tb.drop24 m i (by omega)]
  simp only [zfs.l0]
  rw [if_pos (by omega), if_pos (by omega), if_pos (by omega), e1]
  have hw : wrap64 ((i : Int) + 1) = ((i + 1 : Nat) : Int) := by unfold wrap64; omega
  rw [hw, e2]
  generalize rd_T24 l (i : Int) = x
  generalize rd_T24 m (i : Int) = y
  obtain ⟨a, b, c, e, f⟩ := x
  obtain ⟨a', b', c', e', f'⟩ := y
  simp only [Tb.sameL, Tb.sameF, Tb.bytes_eq, Option.bind_some]
  by_cases g1 : a = a' <;> by_cases g2 : b = b' <;> by_cases g3 : c = c' <;> by_cases g4 : e = e' <;> by_cases g5 : Tb.sameL f f' = true <;> simp [g1, g2, g3, g4, g5]
theorem Tb.Same_f {w : World} : ∀ (n : Nat) (l m : List S24) (A : Option Addr), SizeOf.sizeOf l ≤ n → k24.C w A l.length l → ∃ k, zfs.f k l m = some (Tb.sameL l m) := by
 intro n
 induction n with
 | zero => intro l m A h _; cases l <;> simp at h
 | succ n ih =>
  intro l m A hn hC
  by_cases hl : l.length = m.length
  ·
   obtain ⟨k, hk⟩ := Tb.Same_l0 l m hl (Kd.C_max hC) (fun i hi => by
    obtain ⟨ad, A4, c4, e, _, _, _, _, _, _, hC4⟩ := at_T24 hC (i : Int) (by omega) (by omega)
    refine ih _ _ A4 ?_ hC4
    have hm : rd_T24 l (i : Int) ∈ l := by simp [rd_T24, List.getD_eq_getElem?_getD, List.getElem?_eq_getElem hi]
    have h1 := List.sizeOf_lt_of_mem hm
    have h2 : SizeOf.sizeOf (rd_T24 l (i : Int)).f4 < SizeOf.sizeOf (rd_T24 l (i : Int)) := by
     cases rd_T24 l (i : Int)
     simp
     omega
    omega) l.length 0 (by omega)
   refine ⟨k + 1, ?_⟩
   simp only [zfs.f]
   rw [if_pos (by omega)]
   exact hk
  refine ⟨1, ?_⟩
  simp only [zfs.f]
  rw [if_neg (by omega)]
  have : Tb.sameL l m = false := by
   rw [Bool.eq_false_iff]
   intro h
   exact hl (by rw [(Tb.sameL_iff l m).1 h])
  rw [this]
theorem zfm.calls (A0 : Option Addr) (c0 : Nat) (l0 : List S24) (A1 : Option Addr) (c1 : Nat) (l1 : List S24) (r : Bool) (w : World) (hr0 : Kd.C k24 w A0 l0.length l0) (hc0 : l0.length ≤ c0) (hr1 : Kd.C k24 w A1 l1.length l1) (hc1 : l1.length ≤ c1) (h : zfm.f l0 l1 = some r) :
  Calls Try.prog 18 #[.slice A0 l0.length c0, .slice A1 l1.length c1] w fun e w' => e = .returned (.bool r) ∧ Below w.heap.size w w' := by
 obtain ⟨k, hk⟩ := Tb.Same_f _ l0 l1 A0 (Nat.le_refl _) hr0
 exact zfs.calls k A0 c0 l0 A1 c1 l1 r w hr0 hc0 hr1 hc1 (hk.trans h)

end Go.Proofs.Ytfhaffpegncdiaa.PT
