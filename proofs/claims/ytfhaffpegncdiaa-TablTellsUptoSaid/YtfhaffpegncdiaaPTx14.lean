/- What functions of the given program come to, and that they do: written out of the translation by a program of this session; Lean checks it. -/
import Derived.Test.YtfhaffpegncdiaaShort
import Derived.Test.YtfhaffpegncdiaaPTx0
import Derived.Test.YtfhaffpegncdiaaPTx13
namespace Go.Proofs.Ytfhaffpegncdiaa.PT
open Go.RowKit Go.Proofs.YtfhaffpegncdiaaW.PrintWords Go.Proofs.YtfhaffpegncdiaaW.PrintLast Go.Proofs.YtfhaffpegncdiaaW.PrintMore
attribute [local go_sem] max2_int min2_int max_two min_two max_three min_three max_four min_four   -- for this text's walks alone
set_option linter.unusedVariables false
set_option linter.unusedSimpArgs false

/-! ### zfR: function 37 -/
mutual
def zfR.l0 : Nat → List Int → Int → List (S24) → Int → Option ((List (S24)) × Bool)
 | 0, _, _, _, _ => none
 | k + 1, x0, x1, x6, x7 => if x7 < (x0.length : Int) then ((waybillref1_Text.f k x0 x7 1).bind fun bt315 => (if bt315.2.2 = true then (if bt315.2.1 ≥ (x0.length : Int) then (zfR.j1 k x0 x1 x6 bt315.1 bt315.2.1 true) else (zfR.j1 k x0 x1 x6 bt315.1 bt315.2.1 (decide (x1 > 8)))) else (zfR.j1 k x0 x1 x6 bt315.1 bt315.2.1 true))) else (some (x6, true))
def zfR.j1 : Nat → List Int → Int → List (S24) → List Int → Int → Bool → Option ((List (S24)) × Bool)
 | 0, _, _, _, _, _, _ => none
 | k + 1, x0, x1, x6, x8, x9, x40 => if x40 = true then (some (([] : List (S24)), false)) else (if 0 ≤ x9 then (if x9 < (x0.length : Int) then (if (rd x0 x9) = 116 then (zfR.j3 k x0 x1 x6 (wrap64 (x9 + 1)) 1 (strOfNums x8) (rd x0 x9) 0 (⟨#[]⟩ : ByteArray) ([] : List (S24))) else (if (rd x0 x9) = 73 then (zfR.j3 k x0 x1 x6 (wrap64 (x9 + 1)) 4 (strOfNums x8) (rd x0 x9) 0 (⟨#[]⟩ : ByteArray) ([] : List (S24))) else (if (rd x0 x9) = 108 then (zfR.j3 k x0 x1 x6 (wrap64 (x9 + 1)) 8 (strOfNums x8) (rd x0 x9) 0 (⟨#[]⟩ : ByteArray) ([] : List (S24))) else (if (rd x0 x9) = 83 then (zfR.j2 k x0 x1 x6 (wrap64 (x9 + 1)) 0 (rd x0 x9) ((rd x0 x9) == 83) (strOfNums x8) (rd x0 x9) 0 (⟨#[]⟩ : ByteArray)) else (zfR.j2 k x0 x1 x6 (wrap64 (x9 + 1)) 0 (rd x0 x9) ((rd x0 x9) == 70) (strOfNums x8) (rd x0 x9) 0 (⟨#[]⟩ : ByteArray)))))) else (none)) else (none))
def zfR.j3 : Nat → List Int → Int → List (S24) → Int → Int → ByteArray → Int → Int → ByteArray → List (S24) → Option ((List (S24)) × Bool)
 | 0, _, _, _, _, _, _, _, _, _, _ => none
 | k + 1, x0, x1, x6, x9, x12, x322000, x322001, x322002, x322003, x322004 => if x12 > 0 then ((zfN.f k x0 x9 x12).bind fun bt331 => (if bt331.2 = true then (if x12 = 4 then (if x6.length < 1954687338268 then (zfR.l0 k x0 x1 (x6 ++ [(⟨x322000, x322001, wrap64 (wrap32 ((bt331.1) % 4294967296)), x322003, x322004⟩ : S24)]) (wrap64 (x9 + x12))) else (none)) else (if x6.length < 1954687338268 then (zfR.l0 k x0 x1 (x6 ++ [(⟨x322000, x322001, wrap64 (bt331.1), x322003, x322004⟩ : S24)]) (wrap64 (x9 + x12))) else (none))) else (some (([] : List (S24)), false)))) else (if x6.length < 1954687338268 then (zfR.l0 k x0 x1 (x6 ++ [(⟨x322000, x322001, x322002, x322003, x322004⟩ : S24)]) x9) else (none))
def zfR.j2 : Nat → List Int → Int → List (S24) → Int → Int → Int → Bool → ByteArray → Int → Int → ByteArray → Option ((List (S24)) × Bool)
 | 0, _, _, _, _, _, _, _, _, _, _, _ => none
 | k + 1, x0, x1, x6, x9, x12, x51, x58, x322000, x322001, x322002, x322003 => if x58 = true then ((waybillref1_Text.f k x0 x9 4).bind fun bt322 => (if bt322.2.2 = true then (if x322001 = 83 then (zfR.j3 k x0 x1 x6 bt322.2.1 x12 x322000 x322001 x322002 (strOfNums bt322.1) ([] : List (S24))) else ((zfR.f k bt322.1 (wrap64 (x1 + 1))).bind fun bt327 => (if bt327.2 = true then (zfR.j3 k x0 x1 x6 bt322.2.1 x12 x322000 x322001 x322002 x322003 bt327.1) else (some (([] : List (S24)), false))))) else (some (([] : List (S24)), false)))) else (if x51 = 86 then (zfR.j3 k x0 x1 x6 x9 x12 x322000 x322001 x322002 x322003 ([] : List (S24))) else (some (([] : List (S24)), false)))
def zfR.f : Nat → List Int → Int → Option ((List (S24)) × Bool)
 | 0, _, _ => none
 | k + 1, l0, a1 => zfR.l0 k l0 a1 ([] : List (S24)) 0
end
theorem zfR.mono_l : ∀ k, (∀ y0 y1, LeO (zfR.f k y0 y1) (zfR.f (k + 1) y0 y1)) ∧ (∀ y0 y1 y2 y3, LeO (zfR.l0 k y0 y1 y2 y3) (zfR.l0 (k + 1) y0 y1 y2 y3)) ∧ (∀ y0 y1 y2 y3 y4 y5, LeO (zfR.j1 k y0 y1 y2 y3 y4 y5) (zfR.j1 (k + 1) y0 y1 y2 y3 y4 y5)) ∧ (∀ y0 y1 y2 y3 y4 y5 y6 y7 y8 y9, LeO (zfR.j3 k y0 y1 y2 y3 y4 y5 y6 y7 y8 y9) (zfR.j3 (k + 1) y0 y1 y2 y3 y4 y5 y6 y7 y8 y9)) ∧ (∀ y0 y1 y2 y3 y4 y5 y6 y7 y8 y9 y10, LeO (zfR.j2 k y0 y1 y2 y3 y4 y5 y6 y7 y8 y9 y10) (zfR.j2 (k + 1) y0 y1 y2 y3 y4 y5 y6 y7 y8 y9 y10))
 | 0 => ⟨fun _ _ r h => by simp [zfR.f] at h, fun _ _ _ _ r h => by simp [zfR.l0] at h, fun _ _ _ _ _ _ r h => by simp [zfR.j1] at h, fun _ _ _ _ _ _ _ _ _ _ r h => by simp [zfR.j3] at h, fun _ _ _ _ _ _ _ _ _ _ _ r h => by simp [zfR.j2] at h⟩
 | k + 1 => by
  obtain ⟨ih0, ih1, ih2, ih3, ih4⟩ := zfR.mono_l k
  refine ⟨?_, ?_, ?_, ?_, ?_⟩
  ·
   intro y0 y1
   unfold zfR.f
   repeat' first
   | (with_reducible exact ih0 _ _)
   | (with_reducible exact ih1 _ _ _ _)
   | (with_reducible exact ih2 _ _ _ _ _ _)
   | (with_reducible exact ih3 _ _ _ _ _ _ _ _ _ _)
   | (with_reducible exact ih4 _ _ _ _ _ _ _ _ _ _ _)
   | (with_reducible exact zfN.mono _ _ _ _)
   | (with_reducible exact waybillref1_Text.mono _ _ _ _)
   | (with_reducible exact LeO.refl _)
   | (with_reducible exact LeO.none _)
   | (with_reducible refine LeO.ite ?_ ?_)
   | (with_reducible refine LeO.bind ?_ (fun _ => ?_))
   | exact ih0 _ _
   | exact ih1 _ _ _ _
   | exact ih2 _ _ _ _ _ _
   | exact ih3 _ _ _ _ _ _ _ _ _ _
   | exact ih4 _ _ _ _ _ _ _ _ _ _ _
   | exact zfN.mono _ _ _ _
   | exact waybillref1_Text.mono _ _ _ _
   | exact LeO.none _
   | refine LeO.ite ?_ ?_
   | refine LeO.bind ?_ (fun _ => ?_)
  ·
   intro y0 y1 y2 y3
   unfold zfR.l0
   repeat' first
   | (with_reducible exact ih0 _ _)
   | (with_reducible exact ih1 _ _ _ _)
   | (with_reducible exact ih2 _ _ _ _ _ _)
   | (with_reducible exact ih3 _ _ _ _ _ _ _ _ _ _)
   | (with_reducible exact ih4 _ _ _ _ _ _ _ _ _ _ _)
   | (with_reducible exact zfN.mono _ _ _ _)
   | (with_reducible exact waybillref1_Text.mono _ _ _ _)
   | (with_reducible exact LeO.refl _)
   | (with_reducible exact LeO.none _)
   | (with_reducible refine LeO.ite ?_ ?_)
   | (with_reducible refine LeO.bind ?_ (fun _ => ?_))
   | exact ih0 _ _
   | exact ih1 _ _ _ _
   | exact ih2 _ _ _ _ _ _
   | exact ih3 _ _ _ _ _ _ _ _ _ _
   | exact ih4 _ _ _ _ _ _ _ _ _ _ _
   | exact zfN.mono _ _ _ _
   | exact waybillref1_Text.mono _ _ _ _
   | exact LeO.none _
   | refine LeO.ite ?_ ?_
   | refine LeO.bind ?_ (fun _ => ?_)
  ·
   intro y0 y1 y2 y3 y4 y5
   unfold zfR.j1
   repeat' first
   | (with_reducible exact ih0 _ _)
   | (with_reducible exact ih1 _ _ _ _)
   | (with_reducible exact ih2 _ _ _ _ _ _)
   | (with_reducible exact ih3 _ _ _ _ _ _ _ _ _ _)
   | (with_reducible exact ih4 _ _ _ _ _ _ _ _ _ _ _)
   | (with_reducible exact zfN.mono _ _ _ _)
   | (with_reducible exact waybillref1_Text.mono _ _ _ _)
   | (with_reducible exact LeO.refl _)
   | (with_reducible exact LeO.none _)
   | (with_reducible refine LeO.ite ?_ ?_)
   | (with_reducible refine LeO.bind ?_ (fun _ => ?_))
   | exact ih0 _ _
   | exact ih1 _ _ _ _
   | exact ih2 _ _ _ _ _ _
   | exact ih3 _ _ _ _ _ _ _ _ _ _
   | exact ih4 _ _ _ _ _ _ _ _ _ _ _
   | exact zfN.mono _ _ _ _
   | exact waybillref1_Text.mono _ _ _ _
   | exact LeO.none _
   | refine LeO.ite ?_ ?_
   | refine LeO.bind ?_ (fun _ => ?_)
  ·
   intro y0 y1 y2 y3 y4 y5 y6 y7 y8 y9
   unfold zfR.j3
   repeat' first
   | (with_reducible exact ih0 _ _)
   | (with_reducible exact ih1 _ _ _ _)
   | (with_reducible exact ih2 _ _ _ _ _ _)
   | (with_reducible exact ih3 _ _ _ _ _ _ _ _ _ _)
   | (with_reducible exact ih4 _ _ _ _ _ _ _ _ _ _ _)
   | (with_reducible exact zfN.mono _ _ _ _)
   | (with_reducible exact waybillref1_Text.mono _ _ _ _)
   | (with_reducible exact LeO.refl _)
   | (with_reducible exact LeO.none _)
   | (with_reducible refine LeO.ite ?_ ?_)
   | (with_reducible refine LeO.bind ?_ (fun _ => ?_))
   | exact ih0 _ _
   | exact ih1 _ _ _ _
   | exact ih2 _ _ _ _ _ _
   | exact ih3 _ _ _ _ _ _ _ _ _ _
   | exact ih4 _ _ _ _ _ _ _ _ _ _ _
   | exact zfN.mono _ _ _ _
   | exact waybillref1_Text.mono _ _ _ _
   | exact LeO.none _
   | refine LeO.ite ?_ ?_
   | refine LeO.bind ?_ (fun _ => ?_)
  intro y0 y1 y2 y3 y4 y5 y6 y7 y8 y9 y10
  unfold zfR.j2
  repeat' first
  | (with_reducible exact ih0 _ _)
  | (with_reducible exact ih1 _ _ _ _)
  | (with_reducible exact ih2 _ _ _ _ _ _)
  | (with_reducible exact ih3 _ _ _ _ _ _ _ _ _ _)
  | (with_reducible exact ih4 _ _ _ _ _ _ _ _ _ _ _)
  | (with_reducible exact zfN.mono _ _ _ _)
  | (with_reducible exact waybillref1_Text.mono _ _ _ _)
  | (with_reducible exact LeO.refl _)
  | (with_reducible exact LeO.none _)
  | (with_reducible refine LeO.ite ?_ ?_)
  | (with_reducible refine LeO.bind ?_ (fun _ => ?_))
  | exact ih0 _ _
  | exact ih1 _ _ _ _
  | exact ih2 _ _ _ _ _ _
  | exact ih3 _ _ _ _ _ _ _ _ _ _
  | exact ih4 _ _ _ _ _ _ _ _ _ _ _
  | exact zfN.mono _ _ _ _
  | exact waybillref1_Text.mono _ _ _ _
  | exact LeO.none _
  | refine LeO.ite ?_ ?_
  | refine LeO.bind ?_ (fun _ => ?_)
theorem zfR.mono : ∀ a0 a1 k, LeO (zfR.f k a0 a1) (zfR.f (k + 1) a0 a1) := by
 intro a0 a1 k
 obtain ⟨ih0, ih1, ih2, ih3, ih4⟩ := zfR.mono_l k
 exact ih0 a0 a1
def zfR.T7 : Bool × List (List Nat × List Nat) := (true, [([], []), ([0], [0]), ([], []), ([], []), ([2, 3], [2, 3]), ([4], [4]), ([1, 5], [1, 5]), ([], []), ([7, 6, 0, 1, 2, 3, 4, 5, 6, 7], [6, 7])])
def zfR.B7 : List Nat := [0, 1, 0, 0, 12, 28, 63, 0, 255]
theorem zfR.tab7 : rtab .any (opsOf Try.f37 7) = zfR.T7 := by kernel_rfl
theorem zfR.bits7 : waitsOk zfR.T7.2 zfR.B7 = true := by kernel_rfl
set_option maxHeartbeats 8000000 in
set_option maxRecDepth 100000 in
theorem zfR.calls (k : Nat) : ∀ (A0 : Option Addr) (c0 : Nat) (l0 : List Int) (a1 : Int) (r1 : List (S24)) (r2 : Bool) (w : World) (hr0 : Kd.C (Kd.int .u8) w A0 l0.length l0) (hc0 : l0.length ≤ c0) (h : zfR.f k l0 a1 = some (r1, r2)),
  Calls Try.prog 37 #[.slice A0 l0.length c0, .int .i64 a1] w fun e w' => ∃ v0_ : Value, e = .returned (.tuple #[v0_, .bool r2]) ∧ Kd.R k24 24 w' w.heap.size (fun _ => True) v0_ r1 ∧ Below w.heap.size w w' := by
 induction k using Nat.strongRecOn with
 | _ k ih =>
 intro A0 c0 l0 a1 r1 r2 w hr0 hc0 h
 cases k with
 | zero => exact absurd h (by simp [zfR.f])
 | succ k =>
 simp only [zfR.f] at h
 have hu24 := Try.underlying24
 have HR0 := Zs.mk hr0
 have HC0 := Zs.mk hc0
 clear hr0 hc0
 have HB := Zs.mk (Below.refl w.heap.size w)
 have H : (zfR.l0 k l0 a1 ([] : List (S24)) 0) = some (r1, r2) := h
 clear h
 have H' := Zs.mk H
 clear H
 go_enter Try.func37, Try.ntmps37
 go_wp2
 go_loopg [6, 7] k (fun kq v6 v7 w' => ∃ (x6_1 : List (S24)) (x7_1 : Int), v7 = .int .i64 x7_1 ∧ Zs (zfR.l0 kq l0 a1 x6_1 x7_1 = some (r1, r2)) ∧ Zs (kq ≤ k) ∧ Zs (Kd.R k24 24 w' w.heap.size (fun _ => True) v6 x6_1) ∧ Zs (Below w.heap.size w w'))
 case atStart => exact ⟨(([] : List (S24))), (0), (by first | rfl | (simp; done) | (simp [*]; done)), H', ⟨Nat.le_refl _⟩, ⟨by first | exact Kd.R_nil _ _ _ _ _ | exact Kd.N_nil _ _ _ _ _ | exact Kd.V_nil _ _ _ _ _ | exact Kd.Q_nil _ _ _ _ _ | exact Kd.S_nil _ _ _ _ _⟩, ⟨by repeat (first | (with_reducible first | exact HB.out | apply zba | apply zbn | apply zbd) | exact HB.out)⟩⟩
 case round =>
  clear H'
  try clear p2
  obtain ⟨x6_1, x7_1, rfl, HA, HK1, HO_6, HB⟩ := hrel
  cases gk with
  | zero => exact absurd HA.out (by simp [zfR.l0])
  | succ k1 =>
   have H := HA.out
   clear HA
   simp only [zfR.l0] at H
   by_cases c3 : x7_1 < (l0.length : Int)
   ·
    rw [if_pos c3] at H
    have c3b0 : decide (x7_1 < (l0.length : Int)) = true := decide_eq_true c3
    clear c3
    replace H := Option.bind_eq_some_iff.mp H
    obtain ⟨⟨t315, t318, t319⟩, A40, H⟩ := H
    replace H : (if t319 = true then (if t318 ≥ (l0.length : Int) then (zfR.j1 k1 l0 a1 x6_1 t315 t318 true) else (zfR.j1 k1 l0 a1 x6_1 t315 t318 (decide (a1 > 8)))) else (zfR.j1 k1 l0 a1 x6_1 t315 t318 true)) = some (r1, r2) := H
    have A4 := Zs.mk A40
    clear A40
    have HC5 := Zs.mk H
    clear H
    go_upto_region 5 with (first | ((with_reducible refine gate_callee (f := 50) rfl ?_); refine goesL_ (some 25) rfl rfl Try.func50 (by kernel_rfl) rfl #[.slice A0 l0.length c0, .int .i64 x7_1, .int .i64 1] rfl (by (try simp only [List.map_toArray, List.map_cons, List.map_nil]); first | done | rfl | (simp only [List.length_drop, List.length_take]; rfl)) ?_; (with_reducible refine (waybillref1_Text.calls k1 (fun k_ => k_ < w.heap.size) _ _ l0 x7_1 1 t315 t318 t319 _ ?side1 A4.out).mono ?_); (case side1 => exact Kd.V_mk HC0.out (Kd.F_below (Kd.C_F (Kd.heap_int .u8) HR0.out) (by repeat (first | (with_reducible first | exact HB.out | apply zba | apply zbn | apply zbd) | exact HB.out)))); rintro e w6 ⟨v316, rfl, ho0, hb⟩; refine ⟨_, rfl, ?_⟩; have n0_ := Zs.mk (Kd.R_below (by (with_reducible repeat (first | apply Kd.R_alloc | apply Kd.R_drewN | apply Kd.R_drew)); exact HO_6.out) hb); have n1_ := Zs.mk (Kd.V_lower (Kd.V_mono (ok' := fun k_ => some k_ ≠ (u6 : Value).ownBlock) ho0 (fun k_ hk_ => Or.elim hk_ (fun hs_ => fun e_ => Nat.not_le.2 hs_ (Kd.R_base HO_6.out k_ e_.symm)) (fun hn_ => (Kd.fresh' (Kd.R_lt (by (with_reducible repeat (first | apply Kd.R_alloc | apply Kd.R_drewN | apply Kd.R_drew)); exact HO_6.out)) k_ hn_)))) (zbz (by repeat (first | (with_reducible first | exact HB.out | apply zba | apply zbn | apply zbd) | exact HB.out)))); have n2_ := Zs.mk (zbt (by repeat (first | (with_reducible first | exact HB.out | apply zba | apply zbn | apply zbd) | exact HB.out)) hb); clear HO_6; clear HB; have HO_6 := n0_; have HO317 := n1_; have HB := n2_; clear n0_ n1_ n2_; (try clear hb); (try clear hb2); (try clear hk); (try clear hi); (try clear hge); (try clear ho0)))
    (try simp only [Act.put, zq1, zq2, zq3])
    go_cut [40] (fun v40 wc => ∃ (kq : Nat) (x40_4 : Bool), v40 = .bool x40_4 ∧ Zs (zfR.j1 kq l0 a1 x6_1 t315 t318 x40_4 = some (r1, r2)) ∧ Zs (kq ≤ k1) ∧ Zs (Kd.R k24 24 wc w.heap.size (fun _ => True) u6 x6_1) ∧ Zs (Kd.V (Kd.int .u8) 5 wc w.heap.size (fun k_ => some k_ ≠ (u6 : Value).ownBlock) v316 t315) ∧ Zs (Below w.heap.size w wc))
    case first =>
     have H := HC5.out
     clear HC5
     by_cases c7 : t319 = true
     ·
      subst c7
      have H1 : (if t318 ≥ (l0.length : Int) then (zfR.j1 k1 l0 a1 x6_1 t315 t318 true) else (zfR.j1 k1 l0 a1 x6_1 t315 t318 (decide (a1 > 8)))) = some (r1, r2) := by rw [if_pos rfl] at H; exact H
      clear H
      have H := H1
      clear H1
      by_cases c8 : t318 ≥ (l0.length : Int)
      ·
       rw [if_pos c8] at H
       have c8b0 : decide ((l0.length : Int) ≤ t318) = true := decide_eq_true c8
       clear c8
       (first | rw [c8b0] | rw [c8b2] | rw [c8b1] | (simp only [i64_w, i32_w]; rw [c8b0]) | skip)
       have H' := Zs.mk H
       clear H
       go_wp2
       go_meet
       case rel => exact ⟨_, (true), (by first | rfl | (simp; done) | (simp [*]; done)), H', ⟨by have := HK1.out; first | omega | exact Nat.le_refl _⟩, ⟨by (with_reducible repeat (first | apply Kd.R_alloc | apply Kd.R_drewN | apply Kd.R_drew)); exact HO_6.out⟩, ⟨by (with_reducible repeat (first | apply Kd.V_alloc | apply Kd.V_drewN | apply Kd.V_drew)); exact HO317.out⟩, ⟨by repeat (first | (with_reducible first | exact HB.out | apply zba | apply zbn | apply zbd) | exact HB.out)⟩⟩
      rw [if_neg c8] at H
      have c8b0 : decide ((l0.length : Int) ≤ t318) = false := decide_eq_false c8
      clear c8
      (first | rw [c8b0] | rw [c8b2] | rw [c8b1] | (simp only [i64_w, i32_w]; rw [c8b0]) | skip)
      have H' := Zs.mk H
      clear H
      go_wp2
      go_meet
      case rel => exact ⟨_, (decide (a1 > 8)), (by first | rfl | (simp; done) | (simp [*]; done)), H', ⟨by have := HK1.out; first | omega | exact Nat.le_refl _⟩, ⟨by (with_reducible repeat (first | apply Kd.R_alloc | apply Kd.R_drewN | apply Kd.R_drew)); exact HO_6.out⟩, ⟨by (with_reducible repeat (first | apply Kd.V_alloc | apply Kd.V_drewN | apply Kd.V_drew)); exact HO317.out⟩, ⟨by repeat (first | (with_reducible first | exact HB.out | apply zba | apply zbn | apply zbd) | exact HB.out)⟩⟩
     replace c7 := Bool.eq_false_iff.mpr c7
     subst c7
     have H1 : (zfR.j1 k1 l0 a1 x6_1 t315 t318 true) = some (r1, r2) := by rw [if_neg (show ¬ (false = true) by decide)] at H; exact H
     clear H
     have H := H1
     clear H1
     have H' := Zs.mk H
     clear H
     go_wp2
     go_meet
     case rel => exact ⟨_, (true), (by first | rfl | (simp; done) | (simp [*]; done)), H', ⟨by have := HK1.out; first | omega | exact Nat.le_refl _⟩, ⟨by (with_reducible repeat (first | apply Kd.R_alloc | apply Kd.R_drewN | apply Kd.R_drew)); exact HO_6.out⟩, ⟨by (with_reducible repeat (first | apply Kd.V_alloc | apply Kd.V_drewN | apply Kd.V_drew)); exact HO317.out⟩, ⟨by repeat (first | (with_reducible first | exact HB.out | apply zba | apply zbn | apply zbd) | exact HB.out)⟩⟩
    case rest =>
     clear HC5
     try clear p2
     try clear c3
     try clear c3b0
     try clear c5
     try clear c7
     try clear c8
     try clear c8b0
     try clear p2
     obtain ⟨kq, x40_4, rfl, HA, HJ4, HO_6, HO_8, HB⟩ := hcut
     cases kq with
     | zero => exact absurd HA.out (by simp [zfR.j1])
     | succ kj4 =>
      have H := HA.out
      clear HA
      simp only [zfR.j1] at H
      by_cases c9 : x40_4 = true
      ·
       subst c9
       have H1 : (some (([] : List (S24)), false)) = some (r1, r2) := by rw [if_pos rfl] at H; exact H
       clear H
       have H := H1
       clear H1
       simp only [Option.some.injEq, Prod.mk.injEq] at H
       obtain ⟨rfl, rfl⟩ := H
       go_wp2
       all_goals first | (go_ret2; exact ⟨_, by first | rfl | (simp [zen, zes]; done) | (simp [zen, zes]; rfl) | (simp [*, zen, zes]; done) | (simp [*, zen, zes]; rfl), by first | exact Kd.R_nil _ _ _ _ _ | exact Kd.N_nil _ _ _ _ _ | exact Kd.V_nil _ _ _ _ _ | exact Kd.Q_nil _ _ _ _ _ | exact Kd.S_nil _ _ _ _ _, by repeat (first | (with_reducible first | exact HB.out | apply zba | apply zbn | apply zbd) | exact HB.out)⟩) | (exfalso; simp_all; done)
      replace c9 := Bool.eq_false_iff.mpr c9
      subst c9
      have H1 : (if 0 ≤ t318 then (if t318 < (l0.length : Int) then (if (rd l0 t318) = 116 then (zfR.j3 kj4 l0 a1 x6_1 (wrap64 (t318 + 1)) 1 (strOfNums t315) (rd l0 t318) 0 (⟨#[]⟩ : ByteArray) ([] : List (S24))) else (if (rd l0 t318) = 73 then (zfR.j3 kj4 l0 a1 x6_1 (wrap64 (t318 + 1)) 4 (strOfNums t315) (rd l0 t318) 0 (⟨#[]⟩ : ByteArray) ([] : List (S24))) else (if (rd l0 t318) = 108 then (zfR.j3 kj4 l0 a1 x6_1 (wrap64 (t318 + 1)) 8 (strOfNums t315) (rd l0 t318) 0 (⟨#[]⟩ : ByteArray) ([] : List (S24))) else (if (rd l0 t318) = 83 then (zfR.j2 kj4 l0 a1 x6_1 (wrap64 (t318 + 1)) 0 (rd l0 t318) ((rd l0 t318) == 83) (strOfNums t315) (rd l0 t318) 0 (⟨#[]⟩ : ByteArray)) else (zfR.j2 kj4 l0 a1 x6_1 (wrap64 (t318 + 1)) 0 (rd l0 t318) ((rd l0 t318) == 70) (strOfNums t315) (rd l0 t318) 0 (⟨#[]⟩ : ByteArray)))))) else (none)) else (none)) = some (r1, r2) := by rw [if_neg (show ¬ (false = true) by decide)] at H; exact H
      clear H
      have H := H1
      clear H1
      by_cases c10 : 0 ≤ t318
      ·
       rw [if_pos c10] at H
       have c10b0 : decide (0 ≤ t318) = true := decide_eq_true c10
       clear c10
       by_cases c11 : t318 < (l0.length : Int)
       ·
        rw [if_pos c11] at H
        have c11b0 : decide (t318 < (l0.length : Int)) = true := decide_eq_true c11
        clear c11
        have HC12 := Zs.mk H
        clear H
        obtain ⟨Ao13, co13, eo13⟩ := Kd.V_slice HO_8.out
        subst eo13
        try go_wp2
        have n0_ := Zs.mk (Kd.R_drew HO_6.out)
        have n1_ := Zs.mk (Kd.V_drew HO_8.out)
        have n2_ := Zs.mk (zbd HB.out)
        clear HO_6
        clear HO_8
        clear HB
        have HO_6 := n0_
        have HO_8 := n1_
        have HB := n2_
        clear n0_ n1_ n2_
        have p320 : 0 ≤ (t318 : Int) := of_decide_eq_true (by first | (with_reducible assumption) | assumption)
        have q320 : t318 < (l0.length : Int) := of_decide_eq_true (by first | (with_reducible assumption) | assumption)
        obtain ⟨ad320, e320, hx320_0⟩ := Kd.at_int HR0.out t318 p320 q320
        have hw320_0 := hx320_0
        cases e320
        replace hx320_0 := (HB.out.cell (zq4 w _ hx320_0)).trans hx320_0
        replace p320 := eq_true p320
        replace q320 := eq_true q320
        refine start_ (n := 9) (S := fun w' => (convert 25 9 (Value.slice Ao13 t315.length co13)).run Try.prog w' = .ok (.string (strOfNums t315)) w' ∧ w'.cell? (ad320.add (t318).toNat) = some (.int .u8 (rd l0 t318))) (ds := []) #[false, false, false, false, false, false, false, false, false] (by kernel_rfl) rfl rfl ⟨(Kd.C_string (P := Try.prog) (A := Ao13) (c := co13) Try.underlying25 Try.underlying5 Try.underlying9 ((Kd.V_reads' HO_8.out).2.2)), ((HB.out.cell (zq4 w _ hw320_0)).trans hw320_0)⟩ (fun hHeld => ?_); refine with_tabW zfR.tab7 zfR.bits7 (fun HT_ HW_ => ?_)
        generalize wc.drew = w14 at HO_6 HO_8 HB hx320_0 hHeld ⊢
        refine pure_ (i := 0) (N := some 41) (v := ?_) (a' := ?_) #[true, false, false, false, false, false, false, false, false] rfl rfl (any_of HT_.out (by kernel_rfl)) (fun _ _ _ h => h) (Or.inl ⟨by rfl, ?_⟩) ?_ ?_
        rotate_left
        ·
         intro w'
         go_simp
         with_reducible rfl
        rotate_left
        ·
         simp only [Act.put, zq1, zq2, zq3, i64_w, i32_w]
         rfl
        refine pure_ (i := 2) (N := some 43) (v := ?_) (a' := ?_) #[true, false, true, false, false, false, false, false, false] rfl rfl (any_of HT_.out (by kernel_rfl)) (fun _ _ _ h => h) (Or.inl ⟨by rfl, ?_⟩) ?_ ?_
        rotate_left
        ·
         intro w'
         go_simp
         with_reducible rfl
        rotate_left
        ·
         simp only [Act.put, zq1, zq2, zq3, i64_w, i32_w]
         rfl
        refine pure_ (i := 3) (N := some 44) (v := ?_) (a' := ?_) #[true, false, true, true, false, false, false, false, false] rfl rfl (any_of HT_.out (by kernel_rfl)) (fun _ _ _ h => h) (Or.inl ⟨by rfl, ?_⟩) ?_ ?_
        rotate_left
        ·
         intro w'
         go_simp
         with_reducible rfl
        rotate_left
        ·
         simp only [Act.put, zq1, zq2, zq3, i64_w, i32_w]
         rfl
        refine pure_ (i := 4) (N := some 45) (v := ?_) (a' := ?_) #[true, false, true, true, true, false, false, false, false] rfl rfl (any_of HT_.out (by kernel_rfl)) (fun _ _ _ h => h) (Or.inl ⟨by rfl, ?_⟩) ?_ ?_
        rotate_left
        ·
         intro w'
         go_simp
         with_reducible rfl
        rotate_left
        ·
         simp only [Act.put, zq1, zq2, zq3, i64_w, i32_w]
         rfl
        refine take_ (i := 1) (N := some 42) (v := ?_) (a' := ?_) #[true, true, true, true, true, false, false, false, false] rfl rfl (take_ofW HT_.out HW_.out (by kernel_rfl)) (fun _ _ _ h => h) (Or.inl ⟨by rfl, ?_⟩) hHeld ?_ ?_
        rotate_left
        ·
         rintro w' ⟨s0, s1⟩
         go_simp
         with_reducible rfl
        rotate_left
        ·
         simp only [Act.put, zq1, zq2, zq3, i64_w, i32_w]
         rfl
        refine take_ (i := 5) (N := some 46) (v := ?_) (a' := ?_) #[true, true, true, true, true, true, false, false, false] rfl rfl (take_ofW HT_.out HW_.out (by kernel_rfl)) (fun _ _ _ h => h) (Or.inl ⟨by rfl, ?_⟩) hHeld ?_ ?_
        rotate_left
        ·
         rintro w' ⟨s0, s1⟩
         go_simp
         with_reducible rfl
        rotate_left
        ·
         simp only [Act.put, zq1, zq2, zq3, i64_w, i32_w]
         rfl
        refine pure_ (i := 6) (N := some 47) (v := ?_) (a' := ?_) #[true, true, true, true, true, true, true, false, false] rfl rfl (any_of HT_.out (by kernel_rfl)) (fun _ _ _ h => h) (Or.inl ⟨by rfl, ?_⟩) ?_ ?_
        rotate_left
        ·
         intro w'
         go_simp
         with_reducible rfl
        rotate_left
        ·
         simp only [Act.put, zq1, zq2, zq3, i64_w, i32_w]
         rfl
        refine one_ (i := 7) (N := some 11) #[true, true, true, true, true, true, true, true, false] rfl rfl (one_of HT_.out (by kernel_rfl)) (by decide) (fun K hK => ?_)
        refine box_step ?hg (N := 11) ?hd (cs := #[.string (⟨#[]⟩ : ByteArray), .int .u8 0, .int .i64 0, .string (⟨#[]⟩ : ByteArray), .slice none 0 0]) (t := 24) ?hr ?_; (case hd => rfl); (case hg => rfl); (case hr => first | (go_simp; done) | (go_simp; rfl))
        intro gb321 hg w15 hbox hb
        have n0_ := Zs.mk (Kd.R_below (Kd.R_elderB (by (with_reducible repeat (first | apply Kd.R_alloc | apply Kd.R_drewN | apply Kd.R_drew)); exact HO_6.out) gb321 (Nat.le_of_eq hg.symm)) hb)
        have n1_ := Zs.mk (Kd.V_below (Kd.V_elderB (by (with_reducible repeat (first | apply Kd.V_alloc | apply Kd.V_drewN | apply Kd.V_drew)); exact HO_8.out) gb321 (Nat.le_of_eq hg.symm)) hb)
        have n2_ := Zs.mk (zbt (by repeat (first | (with_reducible first | exact HB.out | apply zba | apply zbn | apply zbd) | exact HB.out)) hb)
        have n3_ := Zs.mk (hbox)
        have n4_ := Zs.mk ((by rw [hg]; exact (zbz (by repeat (first | (with_reducible first | exact HB.out | apply zba | apply zbn | apply zbd) | exact HB.out))) : w.heap.size ≤ gb321))
        have n5_ := Zs.mk ((by rw [hg]; exact (zbz (by repeat (first | (with_reducible first | exact HB.out | apply zba | apply zbn | apply zbd) | exact HB.out))) : w.heap.size ≤ gb321))
        clear HO_6
        clear HO_8
        clear HB
        have HO_6 := n0_
        have HO_8 := n1_
        have HB := n2_
        have BK321 := n3_
        have GW321 := n4_
        have GE321 := n5_
        clear n0_ n1_ n2_ n3_ n4_ n5_
        clear hb hbox hg
        refine hK.out _ _ ⟨(Kd.C_string (P := Try.prog) (A := Ao13) (c := co13) Try.underlying25 Try.underlying5 Try.underlying9 ((Kd.V_reads' HO_8.out).2.2)), ((HB.out.cell (zq4 w _ hw320_0)).trans hw320_0)⟩ (fun hHeld => ?_)
        clear hK K
        refine norm_ (a' := ?_) ?_ ?_
        rotate_left
        ·
         show Act.put _ (some 11) _ = _
         simp only [Act.put, zq1, zq2, zq3, i64_w, i32_w]
         rfl
        refine one_ (i := 8) (N := none) #[true, true, true, true, true, true, true, true, true] rfl rfl (one_of HT_.out (by kernel_rfl)) (by decide) (fun K hK => ?_)
        have hs16 : w15.cell? ⟨gb321, 0, none⟩ = some (.string (⟨#[]⟩ : ByteArray)) := (zbc BK321.out 0).trans rfl
        have hfs16 := zbf BK321.out 0
        have hs17 : w15.cell? ⟨gb321, 1, none⟩ = some (.int .u8 0) := (zbc BK321.out 1).trans rfl
        have hfs17 := zbf BK321.out 1
        have hs18 : w15.cell? ⟨gb321, 2, none⟩ = some (.int .i64 0) := (zbc BK321.out 2).trans rfl
        have hfs18 := zbf BK321.out 2
        have hs19 : w15.cell? ⟨gb321, 3, none⟩ = some (.string (⟨#[]⟩ : ByteArray)) := (zbc BK321.out 3).trans rfl
        have hfs19 := zbf BK321.out 3
        have hs20 : w15.cell? ⟨gb321, 4, none⟩ = some (.slice none 0 0) := (zbc BK321.out 4).trans rfl
        have hfs20 := zbf BK321.out 4
        refine skip_ (w1 := ?_) (by rfl) rfl ?_ ?_
        rotate_left
        ·
         go_simp
         rfl
        refine hK.out _ _ ⟨(Kd.C_string (P := Try.prog) (A := Ao13) (c := co13) Try.underlying25 Try.underlying5 Try.underlying9 ((Kd.V_reads' (Kd.V_far (p := ⟨gb321, _, none⟩) (Kd.V_far (p := ⟨gb321, _, none⟩) (Kd.V_far (p := ⟨gb321, _, none⟩) (Kd.V_far (p := ⟨gb321, _, none⟩) (Kd.V_far (p := ⟨gb321, _, none⟩) HO_8.out (fun _ hk => hk.2) _) (fun _ hk => hk.2) _) (fun _ hk => hk.2) _) (fun _ hk => hk.2) _) (fun _ hk => hk.2) _)).2.2)), ((cell_far (p := ⟨gb321, _, none⟩) (by first | exact zq6 (zq5 (by have := zq4 _ _ hw320_0; first | rwa [zab] at this | exact this) GW321.out) | (rw [zab]; exact zq6 (zq5 (by have := zq4 _ _ hw320_0; first | rwa [zab] at this | exact this) GW321.out)) | (show (Addr.add _ _).block ≠ _; rw [zab]; exact zq6 (zq5 (by have := zq4 _ _ hw320_0; first | rwa [zab] at this | exact this) GW321.out)) | (dsimp only; exact zq6 (zq5 (by have := zq4 _ _ hw320_0; first | rwa [zab] at this | exact this) GW321.out))) _).trans (((cell_far (p := ⟨gb321, _, none⟩) (by first | exact zq6 (zq5 (by have := zq4 _ _ hw320_0; first | rwa [zab] at this | exact this) GW321.out) | (rw [zab]; exact zq6 (zq5 (by have := zq4 _ _ hw320_0; first | rwa [zab] at this | exact this) GW321.out)) | (show (Addr.add _ _).block ≠ _; rw [zab]; exact zq6 (zq5 (by have := zq4 _ _ hw320_0; first | rwa [zab] at this | exact this) GW321.out)) | (dsimp only; exact zq6 (zq5 (by have := zq4 _ _ hw320_0; first | rwa [zab] at this | exact this) GW321.out))) _).trans (((cell_far (p := ⟨gb321, _, none⟩) (by first | exact zq6 (zq5 (by have := zq4 _ _ hw320_0; first | rwa [zab] at this | exact this) GW321.out) | (rw [zab]; exact zq6 (zq5 (by have := zq4 _ _ hw320_0; first | rwa [zab] at this | exact this) GW321.out)) | (show (Addr.add _ _).block ≠ _; rw [zab]; exact zq6 (zq5 (by have := zq4 _ _ hw320_0; first | rwa [zab] at this | exact this) GW321.out)) | (dsimp only; exact zq6 (zq5 (by have := zq4 _ _ hw320_0; first | rwa [zab] at this | exact this) GW321.out))) _).trans (((cell_far (p := ⟨gb321, _, none⟩) (by first | exact zq6 (zq5 (by have := zq4 _ _ hw320_0; first | rwa [zab] at this | exact this) GW321.out) | (rw [zab]; exact zq6 (zq5 (by have := zq4 _ _ hw320_0; first | rwa [zab] at this | exact this) GW321.out)) | (show (Addr.add _ _).block ≠ _; rw [zab]; exact zq6 (zq5 (by have := zq4 _ _ hw320_0; first | rwa [zab] at this | exact this) GW321.out)) | (dsimp only; exact zq6 (zq5 (by have := zq4 _ _ hw320_0; first | rwa [zab] at this | exact this) GW321.out))) _).trans (((cell_far (p := ⟨gb321, _, none⟩) (by first | exact zq6 (zq5 (by have := zq4 _ _ hw320_0; first | rwa [zab] at this | exact this) GW321.out) | (rw [zab]; exact zq6 (zq5 (by have := zq4 _ _ hw320_0; first | rwa [zab] at this | exact this) GW321.out)) | (show (Addr.add _ _).block ≠ _; rw [zab]; exact zq6 (zq5 (by have := zq4 _ _ hw320_0; first | rwa [zab] at this | exact this) GW321.out)) | (dsimp only; exact zq6 (zq5 (by have := zq4 _ _ hw320_0; first | rwa [zab] at this | exact this) GW321.out))) _).trans (hHeld.2))))))))))⟩ (fun hHeld => ?_)
        clear hK K
        refine done_ (done_of HT_.out (by kernel_rfl)) ?_
        have hcz21_0 : w15.cell? ⟨gb321, 0, none⟩ = some (.string (⟨#[]⟩ : ByteArray)) := (zbc BK321.out 0).trans rfl
        have hcz21_1 : w15.cell? ⟨gb321, 1, none⟩ = some (.int .u8 0) := (zbc BK321.out 1).trans rfl
        have hcz21_2 : w15.cell? ⟨gb321, 2, none⟩ = some (.int .i64 0) := (zbc BK321.out 2).trans rfl
        have hcz21_3 : w15.cell? ⟨gb321, 3, none⟩ = some (.string (⟨#[]⟩ : ByteArray)) := (zbc BK321.out 3).trans rfl
        have hcz21_4 : w15.cell? ⟨gb321, 4, none⟩ = some (.slice none 0 0) := (zbc BK321.out 4).trans rfl
        have hfz21_0 := zbf BK321.out 0
        have hfz21_1 := zbf BK321.out 1
        have hfz21_2 := zbf BK321.out 2
        have hfz21_3 := zbf BK321.out 3
        have hfz21_4 := zbf BK321.out 4
        go_upto_block 2 with (fail)
        go_cut [9, 12] (fun v9 v12 wc => ∃ (kq : Nat) (x9_11 : Int) (x12_11 : Int) (x322003_11 : ByteArray) (x322004_11 : List (S24)) (u322004 : Value), v9 = .int .i64 x9_11 ∧ v12 = .int .i64 x12_11 ∧ Zs (zfR.j3 kq l0 a1 x6_1 x9_11 x12_11 (strOfNums t315) (rd l0 t318) 0 x322003_11 x322004_11 = some (r1, r2)) ∧ Zs (kq ≤ kj4) ∧ Zs (Kd.R k24 24 wc w.heap.size (fun k_ => some k_ ≠ (u322004 : Value).ownBlock ∧ k_ ≠ gb321) u6 x6_1) ∧ Zs (Kd.R k24 24 wc w.heap.size (fun k_ => some k_ ≠ (u6 : Value).ownBlock ∧ k_ ≠ gb321) u322004 x322004_11) ∧ Zs (wc.heap[gb321]? = some (.cells #[.string (strOfNums t315), .int .u8 (rd l0 t318), .int .i64 0, .string x322003_11, u322004] 24 (0, 0))) ∧ Zs (Below w.heap.size w wc))
        case first =>
         have H := HC12.out
         clear HC12
         by_cases c22 : (rd l0 t318) = 116
         ·
          rw [if_pos c22] at H
          have c22b0 : ((rd l0 t318) == 116) = true := beq_iff_eq.mpr c22
          have c22b1 : ((rd l0 t318) != 116) = false := bne_eq_false_iff_eq.mpr c22
          clear c22
          (first | rw [c22b0] | rw [c22b2] | rw [c22b1] | (simp only [i64_w, i32_w]; rw [c22b0]) | skip)
          have H' := Zs.mk H
          clear H
          go_wp2
          go_meet
          case rel => exact ⟨_, (wrap64 (t318 + 1)), (1), ((⟨#[]⟩ : ByteArray)), (([] : List (S24))), (.slice none 0 0), (by first | rfl | (simp; done) | (simp [*]; done)), (by first | rfl | (simp; done) | (simp [*]; done)), H', ⟨by have := HK1.out; have := HJ4.out; first | omega | exact Nat.le_refl _⟩, ⟨by (with_reducible repeat (first | apply Kd.R_alloc | apply Kd.R_drewN | apply Kd.R_drew)); exact Kd.R_mono (Kd.R_far (p := ⟨gb321, 4, none⟩) (Kd.R_far (p := ⟨gb321, 3, none⟩) (Kd.R_far (p := ⟨gb321, 2, none⟩) (Kd.R_far (p := ⟨gb321, 1, none⟩) (Kd.R_far (p := ⟨gb321, 0, none⟩) (Kd.R_mono HO_6.out (fun k_ hk => (⟨hk, hk.2⟩ : _ ∧ k_ ≠ gb321))) (fun _ hk => hk.2) (.string (strOfNums t315))) (fun _ hk => hk.2) (.int .u8 (rd l0 t318))) (fun _ hk => hk.2) (.int .i64 0)) (fun _ hk => hk.2) (.string (⟨#[]⟩ : ByteArray))) (fun _ hk => hk.2) (.slice none 0 0)) (fun _ hk => ⟨(by simp [Value.ownBlock]), hk.1.2⟩)⟩, ⟨by first | exact Kd.R_nil _ _ _ _ _ | exact Kd.N_nil _ _ _ _ _ | exact Kd.V_nil _ _ _ _ _ | exact Kd.Q_nil _ _ _ _ _ | exact Kd.S_nil _ _ _ _ _⟩, ⟨by (with_reducible repeat (first | refine blk_drewN ?_ _ | refine blk_drew ?_ | refine blk_alloc ?_ _)); refine blk_put (cs := #[.string (strOfNums t315), .int .u8 (rd l0 t318), .int .i64 0, .string (⟨#[]⟩ : ByteArray), .slice none 0 0]) ?_ 4 _ rfl; (with_reducible repeat (first | refine blk_drewN ?_ _ | refine blk_drew ?_ | refine blk_alloc ?_ _)); refine blk_put (cs := #[.string (strOfNums t315), .int .u8 (rd l0 t318), .int .i64 0, .string (⟨#[]⟩ : ByteArray), .slice none 0 0]) ?_ 3 _ rfl; (with_reducible repeat (first | refine blk_drewN ?_ _ | refine blk_drew ?_ | refine blk_alloc ?_ _)); refine blk_put (cs := #[.string (strOfNums t315), .int .u8 (rd l0 t318), .int .i64 0, .string (⟨#[]⟩ : ByteArray), .slice none 0 0]) ?_ 2 _ rfl; (with_reducible repeat (first | refine blk_drewN ?_ _ | refine blk_drew ?_ | refine blk_alloc ?_ _)); refine blk_put (cs := #[.string (strOfNums t315), .int .u8 0, .int .i64 0, .string (⟨#[]⟩ : ByteArray), .slice none 0 0]) ?_ 1 _ rfl; (with_reducible repeat (first | refine blk_drewN ?_ _ | refine blk_drew ?_ | refine blk_alloc ?_ _)); refine blk_put (cs := #[.string (⟨#[]⟩ : ByteArray), .int .u8 0, .int .i64 0, .string (⟨#[]⟩ : ByteArray), .slice none 0 0]) ?_ 0 _ rfl; (with_reducible repeat (first | refine blk_drewN ?_ _ | refine blk_drew ?_ | refine blk_alloc ?_ _)); exact BK321.out⟩, ⟨by repeat (first | (with_reducible first | exact HB.out | apply zba | apply zbn | apply zbd | refine zbs ?_ GE321.out) | exact HB.out)⟩⟩
         rw [if_neg c22] at H
         have c22b0 : ((rd l0 t318) == 116) = false := beq_eq_false_iff_ne.mpr c22
         have c22b1 : ((rd l0 t318) != 116) = true := bne_iff_ne.mpr c22
         (first | rw [c22b0] | rw [c22b2] | rw [c22b1] | (simp only [i64_w, i32_w]; rw [c22b0]) | skip)
         by_cases c23 : (rd l0 t318) = 73
         ·
          rw [if_pos c23] at H
          have c23b0 : ((rd l0 t318) == 73) = true := beq_iff_eq.mpr c23
          have c23b1 : ((rd l0 t318) != 73) = false := bne_eq_false_iff_eq.mpr c23
          clear c23
          have H' := Zs.mk H
          clear H
          go_wp2
          go_meet
          case rel => exact ⟨_, (wrap64 (t318 + 1)), (4), ((⟨#[]⟩ : ByteArray)), (([] : List (S24))), (.slice none 0 0), (by first | rfl | (simp; done) | (simp [*]; done)), (by first | rfl | (simp; done) | (simp [*]; done)), H', ⟨by have := HK1.out; have := HJ4.out; first | omega | exact Nat.le_refl _⟩, ⟨by (with_reducible repeat (first | apply Kd.R_alloc | apply Kd.R_drewN | apply Kd.R_drew)); exact Kd.R_mono (Kd.R_far (p := ⟨gb321, 4, none⟩) (Kd.R_far (p := ⟨gb321, 3, none⟩) (Kd.R_far (p := ⟨gb321, 2, none⟩) (Kd.R_far (p := ⟨gb321, 1, none⟩) (Kd.R_far (p := ⟨gb321, 0, none⟩) (Kd.R_mono HO_6.out (fun k_ hk => (⟨hk, hk.2⟩ : _ ∧ k_ ≠ gb321))) (fun _ hk => hk.2) (.string (strOfNums t315))) (fun _ hk => hk.2) (.int .u8 (rd l0 t318))) (fun _ hk => hk.2) (.int .i64 0)) (fun _ hk => hk.2) (.string (⟨#[]⟩ : ByteArray))) (fun _ hk => hk.2) (.slice none 0 0)) (fun _ hk => ⟨(by simp [Value.ownBlock]), hk.1.2⟩)⟩, ⟨by first | exact Kd.R_nil _ _ _ _ _ | exact Kd.N_nil _ _ _ _ _ | exact Kd.V_nil _ _ _ _ _ | exact Kd.Q_nil _ _ _ _ _ | exact Kd.S_nil _ _ _ _ _⟩, ⟨by (with_reducible repeat (first | refine blk_drewN ?_ _ | refine blk_drew ?_ | refine blk_alloc ?_ _)); refine blk_put (cs := #[.string (strOfNums t315), .int .u8 (rd l0 t318), .int .i64 0, .string (⟨#[]⟩ : ByteArray), .slice none 0 0]) ?_ 4 _ rfl; (with_reducible repeat (first | refine blk_drewN ?_ _ | refine blk_drew ?_ | refine blk_alloc ?_ _)); refine blk_put (cs := #[.string (strOfNums t315), .int .u8 (rd l0 t318), .int .i64 0, .string (⟨#[]⟩ : ByteArray), .slice none 0 0]) ?_ 3 _ rfl; (with_reducible repeat (first | refine blk_drewN ?_ _ | refine blk_drew ?_ | refine blk_alloc ?_ _)); refine blk_put (cs := #[.string (strOfNums t315), .int .u8 (rd l0 t318), .int .i64 0, .string (⟨#[]⟩ : ByteArray), .slice none 0 0]) ?_ 2 _ rfl; (with_reducible repeat (first | refine blk_drewN ?_ _ | refine blk_drew ?_ | refine blk_alloc ?_ _)); refine blk_put (cs := #[.string (strOfNums t315), .int .u8 0, .int .i64 0, .string (⟨#[]⟩ : ByteArray), .slice none 0 0]) ?_ 1 _ rfl; (with_reducible repeat (first | refine blk_drewN ?_ _ | refine blk_drew ?_ | refine blk_alloc ?_ _)); refine blk_put (cs := #[.string (⟨#[]⟩ : ByteArray), .int .u8 0, .int .i64 0, .string (⟨#[]⟩ : ByteArray), .slice none 0 0]) ?_ 0 _ rfl; (with_reducible repeat (first | refine blk_drewN ?_ _ | refine blk_drew ?_ | refine blk_alloc ?_ _)); exact BK321.out⟩, ⟨by repeat (first | (with_reducible first | exact HB.out | apply zba | apply zbn | apply zbd | refine zbs ?_ GE321.out) | exact HB.out)⟩⟩
         rw [if_neg c23] at H
         have c23b0 : ((rd l0 t318) == 73) = false := beq_eq_false_iff_ne.mpr c23
         have c23b1 : ((rd l0 t318) != 73) = true := bne_iff_ne.mpr c23
         by_cases c24 : (rd l0 t318) = 108
         ·
          rw [if_pos c24] at H
          have c24b0 : ((rd l0 t318) == 108) = true := beq_iff_eq.mpr c24
          have c24b1 : ((rd l0 t318) != 108) = false := bne_eq_false_iff_eq.mpr c24
          clear c24
          have H' := Zs.mk H
          clear H
          go_wp2
          go_meet
          case rel => exact ⟨_, (wrap64 (t318 + 1)), (8), ((⟨#[]⟩ : ByteArray)), (([] : List (S24))), (.slice none 0 0), (by first | rfl | (simp; done) | (simp [*]; done)), (by first | rfl | (simp; done) | (simp [*]; done)), H', ⟨by have := HK1.out; have := HJ4.out; first | omega | exact Nat.le_refl _⟩, ⟨by (with_reducible repeat (first | apply Kd.R_alloc | apply Kd.R_drewN | apply Kd.R_drew)); exact Kd.R_mono (Kd.R_far (p := ⟨gb321, 4, none⟩) (Kd.R_far (p := ⟨gb321, 3, none⟩) (Kd.R_far (p := ⟨gb321, 2, none⟩) (Kd.R_far (p := ⟨gb321, 1, none⟩) (Kd.R_far (p := ⟨gb321, 0, none⟩) (Kd.R_mono HO_6.out (fun k_ hk => (⟨hk, hk.2⟩ : _ ∧ k_ ≠ gb321))) (fun _ hk => hk.2) (.string (strOfNums t315))) (fun _ hk => hk.2) (.int .u8 (rd l0 t318))) (fun _ hk => hk.2) (.int .i64 0)) (fun _ hk => hk.2) (.string (⟨#[]⟩ : ByteArray))) (fun _ hk => hk.2) (.slice none 0 0)) (fun _ hk => ⟨(by simp [Value.ownBlock]), hk.1.2⟩)⟩, ⟨by first | exact Kd.R_nil _ _ _ _ _ | exact Kd.N_nil _ _ _ _ _ | exact Kd.V_nil _ _ _ _ _ | exact Kd.Q_nil _ _ _ _ _ | exact Kd.S_nil _ _ _ _ _⟩, ⟨by (with_reducible repeat (first | refine blk_drewN ?_ _ | refine blk_drew ?_ | refine blk_alloc ?_ _)); refine blk_put (cs := #[.string (strOfNums t315), .int .u8 (rd l0 t318), .int .i64 0, .string (⟨#[]⟩ : ByteArray), .slice none 0 0]) ?_ 4 _ rfl; (with_reducible repeat (first | refine blk_drewN ?_ _ | refine blk_drew ?_ | refine blk_alloc ?_ _)); refine blk_put (cs := #[.string (strOfNums t315), .int .u8 (rd l0 t318), .int .i64 0, .string (⟨#[]⟩ : ByteArray), .slice none 0 0]) ?_ 3 _ rfl; (with_reducible repeat (first | refine blk_drewN ?_ _ | refine blk_drew ?_ | refine blk_alloc ?_ _)); refine blk_put (cs := #[.string (strOfNums t315), .int .u8 (rd l0 t318), .int .i64 0, .string (⟨#[]⟩ : ByteArray), .slice none 0 0]) ?_ 2 _ rfl; (with_reducible repeat (first | refine blk_drewN ?_ _ | refine blk_drew ?_ | refine blk_alloc ?_ _)); refine blk_put (cs := #[.string (strOfNums t315), .int .u8 0, .int .i64 0, .string (⟨#[]⟩ : ByteArray), .slice none 0 0]) ?_ 1 _ rfl; (with_reducible repeat (first | refine blk_drewN ?_ _ | refine blk_drew ?_ | refine blk_alloc ?_ _)); refine blk_put (cs := #[.string (⟨#[]⟩ : ByteArray), .int .u8 0, .int .i64 0, .string (⟨#[]⟩ : ByteArray), .slice none 0 0]) ?_ 0 _ rfl; (with_reducible repeat (first | refine blk_drewN ?_ _ | refine blk_drew ?_ | refine blk_alloc ?_ _)); exact BK321.out⟩, ⟨by repeat (first | (with_reducible first | exact HB.out | apply zba | apply zbn | apply zbd | refine zbs ?_ GE321.out) | exact HB.out)⟩⟩
         rw [if_neg c24] at H
         have c24b0 : ((rd l0 t318) == 108) = false := beq_eq_false_iff_ne.mpr c24
         have c24b1 : ((rd l0 t318) != 108) = true := bne_iff_ne.mpr c24
         have HC25 := Zs.mk H
         clear H
         go_upto_if 58 with (fail)
         go_cut [58] (fun v58 wc => ∃ (kq : Nat) (x58_24 : Bool), v58 = .bool x58_24 ∧ Zs (zfR.j2 kq l0 a1 x6_1 (wrap64 (t318 + 1)) 0 (rd l0 t318) x58_24 (strOfNums t315) (rd l0 t318) 0 (⟨#[]⟩ : ByteArray) = some (r1, r2)) ∧ Zs (kq ≤ kj4) ∧ Zs (Kd.R k24 24 wc w.heap.size (fun k_ => k_ ≠ gb321) u6 x6_1) ∧ Zs (wc.heap[gb321]? = some (.cells #[.string (strOfNums t315), .int .u8 (rd l0 t318), .int .i64 0, .string (⟨#[]⟩ : ByteArray), (.slice none 0 0)] 24 (0, 0))) ∧ Zs (Below w.heap.size w wc))
         case first =>
          have H := HC25.out
          clear HC25
          by_cases c26 : (rd l0 t318) = 83
          ·
           rw [if_pos c26] at H
           have c26b0 : ((rd l0 t318) == 83) = true := beq_iff_eq.mpr c26
           have c26b1 : ((rd l0 t318) != 83) = false := bne_eq_false_iff_eq.mpr c26
           clear c26
           (first | rw [c26b0] | rw [c26b2] | rw [c26b1] | (simp only [i64_w, i32_w]; rw [c26b0]) | skip)
           have H' := Zs.mk H
           clear H
           go_wp2
           go_meet
           case rel => exact ⟨_, (((rd l0 t318) == 83)), (by first | rfl | (simp; done) | (simp [*]; done)), H', ⟨by have := HK1.out; have := HJ4.out; first | omega | exact Nat.le_refl _⟩, ⟨by (with_reducible repeat (first | apply Kd.R_alloc | apply Kd.R_drewN | apply Kd.R_drew)); exact Kd.R_mono (Kd.R_far (p := ⟨gb321, 4, none⟩) (Kd.R_far (p := ⟨gb321, 3, none⟩) (Kd.R_far (p := ⟨gb321, 2, none⟩) (Kd.R_far (p := ⟨gb321, 1, none⟩) (Kd.R_far (p := ⟨gb321, 0, none⟩) (Kd.R_mono HO_6.out (fun k_ hk => (⟨hk, hk.2⟩ : _ ∧ k_ ≠ gb321))) (fun _ hk => hk.2) (.string (strOfNums t315))) (fun _ hk => hk.2) (.int .u8 (rd l0 t318))) (fun _ hk => hk.2) (.int .i64 0)) (fun _ hk => hk.2) (.string (⟨#[]⟩ : ByteArray))) (fun _ hk => hk.2) (.slice none 0 0)) (fun _ hk => hk.1.2)⟩, ⟨by (with_reducible repeat (first | refine blk_drewN ?_ _ | refine blk_drew ?_ | refine blk_alloc ?_ _)); refine blk_put (cs := #[.string (strOfNums t315), .int .u8 (rd l0 t318), .int .i64 0, .string (⟨#[]⟩ : ByteArray), .slice none 0 0]) ?_ 4 _ rfl; (with_reducible repeat (first | refine blk_drewN ?_ _ | refine blk_drew ?_ | refine blk_alloc ?_ _)); refine blk_put (cs := #[.string (strOfNums t315), .int .u8 (rd l0 t318), .int .i64 0, .string (⟨#[]⟩ : ByteArray), .slice none 0 0]) ?_ 3 _ rfl; (with_reducible repeat (first | refine blk_drewN ?_ _ | refine blk_drew ?_ | refine blk_alloc ?_ _)); refine blk_put (cs := #[.string (strOfNums t315), .int .u8 (rd l0 t318), .int .i64 0, .string (⟨#[]⟩ : ByteArray), .slice none 0 0]) ?_ 2 _ rfl; (with_reducible repeat (first | refine blk_drewN ?_ _ | refine blk_drew ?_ | refine blk_alloc ?_ _)); refine blk_put (cs := #[.string (strOfNums t315), .int .u8 0, .int .i64 0, .string (⟨#[]⟩ : ByteArray), .slice none 0 0]) ?_ 1 _ rfl; (with_reducible repeat (first | refine blk_drewN ?_ _ | refine blk_drew ?_ | refine blk_alloc ?_ _)); refine blk_put (cs := #[.string (⟨#[]⟩ : ByteArray), .int .u8 0, .int .i64 0, .string (⟨#[]⟩ : ByteArray), .slice none 0 0]) ?_ 0 _ rfl; (with_reducible repeat (first | refine blk_drewN ?_ _ | refine blk_drew ?_ | refine blk_alloc ?_ _)); exact BK321.out⟩, ⟨by repeat (first | (with_reducible first | exact HB.out | apply zba | apply zbn | apply zbd | refine zbs ?_ GE321.out) | exact HB.out)⟩⟩
          rw [if_neg c26] at H
          have c26b0 : ((rd l0 t318) == 83) = false := beq_eq_false_iff_ne.mpr c26
          have c26b1 : ((rd l0 t318) != 83) = true := bne_iff_ne.mpr c26
          (first | rw [c26b0] | rw [c26b2] | rw [c26b1] | (simp only [i64_w, i32_w]; rw [c26b0]) | skip)
          have H' := Zs.mk H
          clear H
          go_wp2
          go_meet
          case rel => exact ⟨_, (((rd l0 t318) == 70)), (by first | rfl | (simp; done) | (simp [*]; done)), H', ⟨by have := HK1.out; have := HJ4.out; first | omega | exact Nat.le_refl _⟩, ⟨by (with_reducible repeat (first | apply Kd.R_alloc | apply Kd.R_drewN | apply Kd.R_drew)); exact Kd.R_mono (Kd.R_far (p := ⟨gb321, 4, none⟩) (Kd.R_far (p := ⟨gb321, 3, none⟩) (Kd.R_far (p := ⟨gb321, 2, none⟩) (Kd.R_far (p := ⟨gb321, 1, none⟩) (Kd.R_far (p := ⟨gb321, 0, none⟩) (Kd.R_mono HO_6.out (fun k_ hk => (⟨hk, hk.2⟩ : _ ∧ k_ ≠ gb321))) (fun _ hk => hk.2) (.string (strOfNums t315))) (fun _ hk => hk.2) (.int .u8 (rd l0 t318))) (fun _ hk => hk.2) (.int .i64 0)) (fun _ hk => hk.2) (.string (⟨#[]⟩ : ByteArray))) (fun _ hk => hk.2) (.slice none 0 0)) (fun _ hk => hk.1.2)⟩, ⟨by (with_reducible repeat (first | refine blk_drewN ?_ _ | refine blk_drew ?_ | refine blk_alloc ?_ _)); refine blk_put (cs := #[.string (strOfNums t315), .int .u8 (rd l0 t318), .int .i64 0, .string (⟨#[]⟩ : ByteArray), .slice none 0 0]) ?_ 4 _ rfl; (with_reducible repeat (first | refine blk_drewN ?_ _ | refine blk_drew ?_ | refine blk_alloc ?_ _)); refine blk_put (cs := #[.string (strOfNums t315), .int .u8 (rd l0 t318), .int .i64 0, .string (⟨#[]⟩ : ByteArray), .slice none 0 0]) ?_ 3 _ rfl; (with_reducible repeat (first | refine blk_drewN ?_ _ | refine blk_drew ?_ | refine blk_alloc ?_ _)); refine blk_put (cs := #[.string (strOfNums t315), .int .u8 (rd l0 t318), .int .i64 0, .string (⟨#[]⟩ : ByteArray), .slice none 0 0]) ?_ 2 _ rfl; (with_reducible repeat (first | refine blk_drewN ?_ _ | refine blk_drew ?_ | refine blk_alloc ?_ _)); refine blk_put (cs := #[.string (strOfNums t315), .int .u8 0, .int .i64 0, .string (⟨#[]⟩ : ByteArray), .slice none 0 0]) ?_ 1 _ rfl; (with_reducible repeat (first | refine blk_drewN ?_ _ | refine blk_drew ?_ | refine blk_alloc ?_ _)); refine blk_put (cs := #[.string (⟨#[]⟩ : ByteArray), .int .u8 0, .int .i64 0, .string (⟨#[]⟩ : ByteArray), .slice none 0 0]) ?_ 0 _ rfl; (with_reducible repeat (first | refine blk_drewN ?_ _ | refine blk_drew ?_ | refine blk_alloc ?_ _)); exact BK321.out⟩, ⟨by repeat (first | (with_reducible first | exact HB.out | apply zba | apply zbn | apply zbd | refine zbs ?_ GE321.out) | exact HB.out)⟩⟩
         case rest =>
          clear HC25
          try clear c1
          try clear c2
          try clear p2
          try clear c3
          try clear c3b0
          try clear p3
          try clear q3
          try clear hx3
          try clear c5
          try clear p6
          try clear c7
          try clear c8
          try clear c8b0
          try clear c9
          try clear c10
          try clear c10b0
          try clear c11
          try clear c11b0
          try clear c22
          try clear c22b0
          try clear c22b1
          try clear c23
          try clear c23b0
          try clear c23b1
          try clear c24
          try clear c24b0
          try clear c24b1
          try clear c26
          try clear c26b0
          try clear c26b1
          try clear hcz21_0
          try clear hcz21_1
          try clear hcz21_2
          try clear hcz21_3
          try clear hcz21_4
          try clear hfz21_0
          try clear hfz21_1
          try clear hfz21_2
          try clear hfz21_3
          try clear hfz21_4
          try clear hx320_0
          try clear p2
          try clear p320
          try clear q320
          obtain ⟨kq, x58_24, rfl, HA, HJ24, HO_6, BK321, HB⟩ := hcut
          cases kq with
          | zero => exact absurd HA.out (by simp [zfR.j2])
          | succ kj24 =>
           have H := HA.out
           clear HA
           simp only [zfR.j2] at H
           by_cases c27 : x58_24 = true
           ·
            subst c27
            have H1 : ((waybillref1_Text.f kj24 l0 (wrap64 (t318 + 1)) 4).bind fun bt322 => (if bt322.2.2 = true then (if (rd l0 t318) = 83 then (zfR.j3 kj24 l0 a1 x6_1 bt322.2.1 0 (strOfNums t315) (rd l0 t318) 0 (strOfNums bt322.1) ([] : List (S24))) else ((zfR.f kj24 bt322.1 (wrap64 (a1 + 1))).bind fun bt327 => (if bt327.2 = true then (zfR.j3 kj24 l0 a1 x6_1 bt322.2.1 0 (strOfNums t315) (rd l0 t318) 0 (⟨#[]⟩ : ByteArray) bt327.1) else (some (([] : List (S24)), false))))) else (some (([] : List (S24)), false)))) = some (r1, r2) := by rw [if_pos rfl] at H; exact H
            clear H
            have H := H1
            clear H1
            replace H := Option.bind_eq_some_iff.mp H
            obtain ⟨⟨t322, t325, t326⟩, A280, H⟩ := H
            replace H : (if t326 = true then (if (rd l0 t318) = 83 then (zfR.j3 kj24 l0 a1 x6_1 t325 0 (strOfNums t315) (rd l0 t318) 0 (strOfNums t322) ([] : List (S24))) else ((zfR.f kj24 t322 (wrap64 (a1 + 1))).bind fun bt327 => (if bt327.2 = true then (zfR.j3 kj24 l0 a1 x6_1 t325 0 (strOfNums t315) (rd l0 t318) 0 (⟨#[]⟩ : ByteArray) bt327.1) else (some (([] : List (S24)), false))))) else (some (([] : List (S24)), false))) = some (r1, r2) := H
            have A28 := Zs.mk A280
            clear A280
            by_cases c29 : t326 = true
            ·
             subst c29
             have H1 : (if (rd l0 t318) = 83 then (zfR.j3 kj24 l0 a1 x6_1 t325 0 (strOfNums t315) (rd l0 t318) 0 (strOfNums t322) ([] : List (S24))) else ((zfR.f kj24 t322 (wrap64 (a1 + 1))).bind fun bt327 => (if bt327.2 = true then (zfR.j3 kj24 l0 a1 x6_1 t325 0 (strOfNums t315) (rd l0 t318) 0 (⟨#[]⟩ : ByteArray) bt327.1) else (some (([] : List (S24)), false))))) = some (r1, r2) := by rw [if_pos rfl] at H; exact H
             clear H
             have H := H1
             clear H1
             by_cases c30 : (rd l0 t318) = 83
             ·
              rw [if_pos c30] at H
              have c30b0 : ((rd l0 t318) == 83) = true := beq_iff_eq.mpr c30
              have c30b1 : ((rd l0 t318) != 83) = false := bne_eq_false_iff_eq.mpr c30
              clear c30
              have H' := Zs.mk H
              clear H
              go_wp2_with (first | ((with_reducible refine gate_callee (f := 50) rfl ?_); refine goesL_ (some 64) rfl rfl Try.func50 (by kernel_rfl) rfl #[.slice (some ad320) l0.length c0, .int .i64 (wrap64 (t318 + 1)), .int .i64 4] rfl (by (try simp only [List.map_toArray, List.map_cons, List.map_nil]); first | done | rfl | (simp only [List.length_drop, List.length_take]; rfl)) ?_; (with_reducible refine (waybillref1_Text.calls kj24 (fun k_ => k_ < w.heap.size) _ _ l0 (wrap64 (t318 + 1)) 4 t322 t325 true _ ?side1 A28.out).mono ?_); (case side1 => exact Kd.V_mk HC0.out (Kd.F_below (Kd.C_F (Kd.heap_int .u8) HR0.out) (by repeat (first | (with_reducible first | exact HB.out | apply zba | apply zbn | apply zbd | refine zbs ?_ GE321.out) | exact HB.out)))); rintro e w31 ⟨v323, rfl, ho0, hb⟩; refine ⟨_, rfl, ?_⟩; have n0_ := Zs.mk (Kd.R_below (by (with_reducible repeat (first | apply Kd.R_alloc | apply Kd.R_drewN | apply Kd.R_drew)); exact HO_6.out) hb); have n1_ := Zs.mk (Kd.V_lower (Kd.V_mono (ok' := fun k_ => some k_ ≠ (u6 : Value).ownBlock ∧ k_ ≠ gb321) ho0 (fun k_ hk_ => ⟨Or.elim hk_ (fun hs_ => fun e_ => Nat.not_le.2 hs_ (Kd.R_base HO_6.out k_ e_.symm)) (fun hn_ => (Kd.fresh' (Kd.R_lt (by (with_reducible repeat (first | apply Kd.R_alloc | apply Kd.R_drewN | apply Kd.R_drew)); exact HO_6.out)) k_ hn_)), Or.elim hk_ (fun hs_ => fun e_ => Nat.not_le.2 hs_ (by rw [e_]; exact GW321.out)) (fun hn_ => (Kd.freshB (g := gb321) (o := .cells #[.string (strOfNums t315), .int .u8 (rd l0 t318), .int .i64 0, .string (⟨#[]⟩ : ByteArray), .slice none 0 0] 24 (0, 0)) (by (with_reducible repeat (first | refine blk_drewN ?_ _ | refine blk_drew ?_ | refine blk_alloc ?_ _)); exact BK321.out) k_ hn_))⟩)) (zbz (by repeat (first | (with_reducible first | exact HB.out | apply zba | apply zbn | apply zbd | refine zbs ?_ GE321.out) | exact HB.out)))); have n2_ := Zs.mk (blk_below (g := gb321) (o := .cells #[.string (strOfNums t315), .int .u8 (rd l0 t318), .int .i64 0, .string (⟨#[]⟩ : ByteArray), .slice none 0 0] 24 (0, 0)) (by (with_reducible repeat (first | refine blk_drewN ?_ _ | refine blk_drew ?_ | refine blk_alloc ?_ _)); exact BK321.out) hb); have n3_ := Zs.mk (zbt (by repeat (first | (with_reducible first | exact HB.out | apply zba | apply zbn | apply zbd | refine zbs ?_ GE321.out) | exact HB.out)) hb); clear HO_6; clear BK321; clear HB; have HO_6 := n0_; have HO324 := n1_; have BK321 := n2_; have HB := n3_; clear n0_ n1_ n2_ n3_; (try clear hb); (try clear hb2); (try clear hk); (try clear hi); (try clear hge); (try clear ho0); have hcz32_0 : w31.cell? ⟨gb321, 0, none⟩ = some (.string (strOfNums t315)) := (zbc BK321.out 0).trans rfl; have hcz32_1 : w31.cell? ⟨gb321, 1, none⟩ = some (.int .u8 (rd l0 t318)) := (zbc BK321.out 1).trans rfl; have hcz32_2 : w31.cell? ⟨gb321, 2, none⟩ = some (.int .i64 0) := (zbc BK321.out 2).trans rfl; have hcz32_3 : w31.cell? ⟨gb321, 3, none⟩ = some (.string (⟨#[]⟩ : ByteArray)) := (zbc BK321.out 3).trans rfl; have hcz32_4 : w31.cell? ⟨gb321, 4, none⟩ = some (.slice none 0 0) := (zbc BK321.out 4).trans rfl; have hfz32_0 := zbf BK321.out 0; have hfz32_1 := zbf BK321.out 1; have hfz32_2 := zbf BK321.out 2; have hfz32_3 := zbf BK321.out 3; have hfz32_4 := zbf BK321.out 4; obtain ⟨Ao33, co33, eo33⟩ := Kd.V_slice HO324.out; subst eo33; have hcv34 := Kd.C_string (P := Try.prog) (A := Ao33) (c := co33) Try.underlying25 Try.underlying5 Try.underlying9 ((Kd.V_reads' (by exact HO324.out)).2.2)))
              go_meet
              case rel => exact ⟨_, (t325), (0), (strOfNums t322), (([] : List (S24))), (.slice none 0 0), (by first | rfl | (simp; done) | (simp [*]; done)), (by first | rfl | (simp; done) | (simp [*]; done)), H', ⟨by have := HK1.out; have := HJ4.out; have := HJ24.out; first | omega | exact Nat.le_refl _⟩, ⟨by (with_reducible repeat (first | apply Kd.R_alloc | apply Kd.R_drewN | apply Kd.R_drew)); exact Kd.R_mono (Kd.R_far (p := ⟨gb321, 3, none⟩) (Kd.R_mono HO_6.out (fun k_ hk => (⟨hk, hk⟩ : _ ∧ k_ ≠ gb321))) (fun _ hk => hk.2) (.string (strOfNums t322))) (fun _ hk => ⟨(by simp [Value.ownBlock]), hk.1⟩)⟩, ⟨by first | exact Kd.R_nil _ _ _ _ _ | exact Kd.N_nil _ _ _ _ _ | exact Kd.V_nil _ _ _ _ _ | exact Kd.Q_nil _ _ _ _ _ | exact Kd.S_nil _ _ _ _ _⟩, ⟨by (with_reducible repeat (first | refine blk_drewN ?_ _ | refine blk_drew ?_ | refine blk_alloc ?_ _)); refine blk_put (cs := #[.string (strOfNums t315), .int .u8 (rd l0 t318), .int .i64 0, .string (⟨#[]⟩ : ByteArray), .slice none 0 0]) ?_ 3 _ rfl; (with_reducible repeat (first | refine blk_drewN ?_ _ | refine blk_drew ?_ | refine blk_alloc ?_ _)); exact BK321.out⟩, ⟨by repeat (first | (with_reducible first | exact HB.out | apply zba | apply zbn | apply zbd | refine zbs ?_ GE321.out) | exact HB.out)⟩⟩
             rw [if_neg c30] at H
             have c30b0 : ((rd l0 t318) == 83) = false := beq_eq_false_iff_ne.mpr c30
             have c30b1 : ((rd l0 t318) != 83) = true := bne_iff_ne.mpr c30
             replace H := Option.bind_eq_some_iff.mp H
             obtain ⟨⟨t327, t328⟩, A350, H⟩ := H
             replace H : (if t328 = true then (zfR.j3 kj24 l0 a1 x6_1 t325 0 (strOfNums t315) (rd l0 t318) 0 (⟨#[]⟩ : ByteArray) t327) else (some (([] : List (S24)), false))) = some (r1, r2) := H
             have A35 := Zs.mk A350
             clear A350
             by_cases c36 : t328 = true
             ·
              subst c36
              have H1 : (zfR.j3 kj24 l0 a1 x6_1 t325 0 (strOfNums t315) (rd l0 t318) 0 (⟨#[]⟩ : ByteArray) t327) = some (r1, r2) := by rw [if_pos rfl] at H; exact H
              clear H
              have H := H1
              clear H1
              have H' := Zs.mk H
              clear H
              go_wp2_with (first | ((with_reducible refine gate_callee (f := 50) rfl ?_); refine goesL_ (some 64) rfl rfl Try.func50 (by kernel_rfl) rfl #[.slice (some ad320) l0.length c0, .int .i64 (wrap64 (t318 + 1)), .int .i64 4] rfl (by (try simp only [List.map_toArray, List.map_cons, List.map_nil]); first | done | rfl | (simp only [List.length_drop, List.length_take]; rfl)) ?_; (with_reducible refine (waybillref1_Text.calls kj24 (fun k_ => k_ < w.heap.size) _ _ l0 (wrap64 (t318 + 1)) 4 t322 t325 true _ ?side1 A28.out).mono ?_); (case side1 => exact Kd.V_mk HC0.out (Kd.F_below (Kd.C_F (Kd.heap_int .u8) HR0.out) (by repeat (first | (with_reducible first | exact HB.out | apply zba | apply zbn | apply zbd | refine zbs ?_ GE321.out) | exact HB.out)))); rintro e w37 ⟨v323, rfl, ho0, hb⟩; refine ⟨_, rfl, ?_⟩; have n0_ := Zs.mk (Kd.R_below (by (with_reducible repeat (first | apply Kd.R_alloc | apply Kd.R_drewN | apply Kd.R_drew)); exact HO_6.out) hb); have n1_ := Zs.mk (Kd.V_lower (Kd.V_mono (ok' := fun k_ => some k_ ≠ (u6 : Value).ownBlock ∧ k_ ≠ gb321) ho0 (fun k_ hk_ => ⟨Or.elim hk_ (fun hs_ => fun e_ => Nat.not_le.2 hs_ (Kd.R_base HO_6.out k_ e_.symm)) (fun hn_ => (Kd.fresh' (Kd.R_lt (by (with_reducible repeat (first | apply Kd.R_alloc | apply Kd.R_drewN | apply Kd.R_drew)); exact HO_6.out)) k_ hn_)), Or.elim hk_ (fun hs_ => fun e_ => Nat.not_le.2 hs_ (by rw [e_]; exact GW321.out)) (fun hn_ => (Kd.freshB (g := gb321) (o := .cells #[.string (strOfNums t315), .int .u8 (rd l0 t318), .int .i64 0, .string (⟨#[]⟩ : ByteArray), .slice none 0 0] 24 (0, 0)) (by (with_reducible repeat (first | refine blk_drewN ?_ _ | refine blk_drew ?_ | refine blk_alloc ?_ _)); exact BK321.out) k_ hn_))⟩)) (zbz (by repeat (first | (with_reducible first | exact HB.out | apply zba | apply zbn | apply zbd | refine zbs ?_ GE321.out) | exact HB.out)))); have n2_ := Zs.mk (blk_below (g := gb321) (o := .cells #[.string (strOfNums t315), .int .u8 (rd l0 t318), .int .i64 0, .string (⟨#[]⟩ : ByteArray), .slice none 0 0] 24 (0, 0)) (by (with_reducible repeat (first | refine blk_drewN ?_ _ | refine blk_drew ?_ | refine blk_alloc ?_ _)); exact BK321.out) hb); have n3_ := Zs.mk (zbt (by repeat (first | (with_reducible first | exact HB.out | apply zba | apply zbn | apply zbd | refine zbs ?_ GE321.out) | exact HB.out)) hb); clear HO_6; clear BK321; clear HB; have HO_6 := n0_; have HO324 := n1_; have BK321 := n2_; have HB := n3_; clear n0_ n1_ n2_ n3_; (try clear hb); (try clear hb2); (try clear hk); (try clear hi); (try clear hge); (try clear ho0); have hcz38_0 : w37.cell? ⟨gb321, 0, none⟩ = some (.string (strOfNums t315)) := (zbc BK321.out 0).trans rfl; have hcz38_1 : w37.cell? ⟨gb321, 1, none⟩ = some (.int .u8 (rd l0 t318)) := (zbc BK321.out 1).trans rfl; have hcz38_2 : w37.cell? ⟨gb321, 2, none⟩ = some (.int .i64 0) := (zbc BK321.out 2).trans rfl; have hcz38_3 : w37.cell? ⟨gb321, 3, none⟩ = some (.string (⟨#[]⟩ : ByteArray)) := (zbc BK321.out 3).trans rfl; have hcz38_4 : w37.cell? ⟨gb321, 4, none⟩ = some (.slice none 0 0) := (zbc BK321.out 4).trans rfl; have hfz38_0 := zbf BK321.out 0; have hfz38_1 := zbf BK321.out 1; have hfz38_2 := zbf BK321.out 2; have hfz38_3 := zbf BK321.out 3; have hfz38_4 := zbf BK321.out 4; obtain ⟨Ao39, co39, eo39⟩ := Kd.V_slice HO324.out; subst eo39) | ((with_reducible refine gate_callee (f := 37) rfl ?_); refine goesL_ (some 81) rfl rfl Try.func37 (by kernel_rfl) rfl #[.slice Ao39 t322.length co39, .int .i64 (wrap64 (a1 + 1))] rfl (by (try simp only [List.map_toArray, List.map_cons, List.map_nil]); first | done | rfl | (simp only [List.length_drop, List.length_take]; rfl)) ?_; (with_reducible refine (ih kj24 (by have := HK1.out; have := HJ4.out; have := HJ24.out; omega) _ _ t322 (wrap64 (a1 + 1)) t327 true _ ?side1 ?side2 A35.out).mono ?_); (case side1 => repeat (first | exact (Kd.V_reads' HO324.out).2.2 | (with_reducible refine Kd.C_alloc ?_ _) | (with_reducible refine Kd.C_drewN ?_ _) | (with_reducible refine Kd.C_drew ?_))); (case side2 => exact (Kd.V_reads' HO324.out).2.1); rintro e w40 ⟨v329, rfl, ho0, hb⟩; refine ⟨_, rfl, ?_⟩; have n0_ := Zs.mk (Kd.R_elder' (by (with_reducible repeat (first | apply Kd.R_alloc | apply Kd.R_drewN | apply Kd.R_drew)); exact HO_6.out) (Kd.R_base ho0) hb); have n1_ := Zs.mk (Kd.V_elder' (by (with_reducible repeat (first | apply Kd.V_alloc | apply Kd.V_drewN | apply Kd.V_drew)); exact HO324.out) (Kd.R_base ho0) hb); have n2_ := Zs.mk (Kd.R_lower (Kd.R_newB (Kd.R_new' ho0 (Kd.R_lt (by (with_reducible repeat (first | apply Kd.R_alloc | apply Kd.R_drewN | apply Kd.R_drew)); exact HO_6.out))) (g := gb321) (o := .cells #[.string (strOfNums t315), .int .u8 (rd l0 t318), .int .i64 0, .string (⟨#[]⟩ : ByteArray), .slice none 0 0] 24 (0, 0)) (by (with_reducible repeat (first | refine blk_drewN ?_ _ | refine blk_drew ?_ | refine blk_alloc ?_ _)); exact BK321.out)) (zbz (by repeat (first | (with_reducible first | exact HB.out | apply zba | apply zbn | apply zbd | refine zbs ?_ GE321.out) | exact HB.out)))); have n3_ := Zs.mk (blk_below (g := gb321) (o := .cells #[.string (strOfNums t315), .int .u8 (rd l0 t318), .int .i64 0, .string (⟨#[]⟩ : ByteArray), .slice none 0 0] 24 (0, 0)) (by (with_reducible repeat (first | refine blk_drewN ?_ _ | refine blk_drew ?_ | refine blk_alloc ?_ _)); exact BK321.out) hb); have n4_ := Zs.mk (zbt (by repeat (first | (with_reducible first | exact HB.out | apply zba | apply zbn | apply zbd | refine zbs ?_ GE321.out) | exact HB.out)) hb); clear HO_6; clear HO324; clear BK321; clear HB; have HO_6 := n0_; have HO324 := n1_; have HO330 := n2_; have BK321 := n3_; have HB := n4_; clear n0_ n1_ n2_ n3_ n4_; (try clear hb); (try clear hb2); (try clear hk); (try clear hi); (try clear hge); (try clear ho0); obtain ⟨Ao41, co41, eo41⟩ := Kd.R_slice HO330.out; subst eo41; have hcz42_0 : w40.cell? ⟨gb321, 0, none⟩ = some (.string (strOfNums t315)) := (zbc BK321.out 0).trans rfl; have hcz42_1 : w40.cell? ⟨gb321, 1, none⟩ = some (.int .u8 (rd l0 t318)) := (zbc BK321.out 1).trans rfl; have hcz42_2 : w40.cell? ⟨gb321, 2, none⟩ = some (.int .i64 0) := (zbc BK321.out 2).trans rfl; have hcz42_3 : w40.cell? ⟨gb321, 3, none⟩ = some (.string (⟨#[]⟩ : ByteArray)) := (zbc BK321.out 3).trans rfl; have hcz42_4 : w40.cell? ⟨gb321, 4, none⟩ = some (.slice none 0 0) := (zbc BK321.out 4).trans rfl; have hfz42_0 := zbf BK321.out 0; have hfz42_1 := zbf BK321.out 1; have hfz42_2 := zbf BK321.out 2; have hfz42_3 := zbf BK321.out 3; have hfz42_4 := zbf BK321.out 4))
              go_meet
              case rel => exact ⟨_, (t325), (0), ((⟨#[]⟩ : ByteArray)), (t327), (.slice Ao41 t327.length co41), (by first | rfl | (simp; done) | (simp [*]; done)), (by first | rfl | (simp; done) | (simp [*]; done)), H', ⟨by have := HK1.out; have := HJ4.out; have := HJ24.out; first | omega | exact Nat.le_refl _⟩, ⟨by (with_reducible repeat (first | apply Kd.R_alloc | apply Kd.R_drewN | apply Kd.R_drew)); exact Kd.R_mono (Kd.R_far (p := ⟨gb321, 4, none⟩) (Kd.R_mono HO_6.out (fun k_ hk => (⟨hk, hk.1⟩ : _ ∧ k_ ≠ gb321))) (fun _ hk => hk.2) (.slice Ao41 t327.length co41)) (fun _ hk => ⟨hk.1.2, hk.1.1⟩)⟩, ⟨by (with_reducible repeat (first | apply Kd.R_alloc | apply Kd.R_drewN | apply Kd.R_drew)); exact Kd.R_mono (Kd.R_far (p := ⟨gb321, 4, none⟩) (Kd.R_mono HO330.out (fun k_ hk => (⟨hk, hk.2⟩ : _ ∧ k_ ≠ gb321))) (fun _ hk => hk.2) (.slice Ao41 t327.length co41)) (fun _ hk => ⟨hk.1.1.2, hk.1.2⟩)⟩, ⟨by (with_reducible repeat (first | refine blk_drewN ?_ _ | refine blk_drew ?_ | refine blk_alloc ?_ _)); refine blk_put (cs := #[.string (strOfNums t315), .int .u8 (rd l0 t318), .int .i64 0, .string (⟨#[]⟩ : ByteArray), .slice none 0 0]) ?_ 4 _ rfl; (with_reducible repeat (first | refine blk_drewN ?_ _ | refine blk_drew ?_ | refine blk_alloc ?_ _)); exact BK321.out⟩, ⟨by repeat (first | (with_reducible first | exact HB.out | apply zba | apply zbn | apply zbd | refine zbs ?_ GE321.out) | exact HB.out)⟩⟩
             replace c36 := Bool.eq_false_iff.mpr c36
             subst c36
             have H1 : (some (([] : List (S24)), false)) = some (r1, r2) := by rw [if_neg (show ¬ (false = true) by decide)] at H; exact H
             clear H
             have H := H1
             clear H1
             simp only [Option.some.injEq, Prod.mk.injEq] at H
             obtain ⟨rfl, rfl⟩ := H
             go_wp2_with (first | ((with_reducible refine gate_callee (f := 50) rfl ?_); refine goesL_ (some 64) rfl rfl Try.func50 (by kernel_rfl) rfl #[.slice (some ad320) l0.length c0, .int .i64 (wrap64 (t318 + 1)), .int .i64 4] rfl (by (try simp only [List.map_toArray, List.map_cons, List.map_nil]); first | done | rfl | (simp only [List.length_drop, List.length_take]; rfl)) ?_; (with_reducible refine (waybillref1_Text.calls kj24 (fun k_ => k_ < w.heap.size) _ _ l0 (wrap64 (t318 + 1)) 4 t322 t325 true _ ?side1 A28.out).mono ?_); (case side1 => exact Kd.V_mk HC0.out (Kd.F_below (Kd.C_F (Kd.heap_int .u8) HR0.out) (by repeat (first | (with_reducible first | exact HB.out | apply zba | apply zbn | apply zbd | refine zbs ?_ GE321.out) | exact HB.out)))); rintro e w43 ⟨v323, rfl, ho0, hb⟩; refine ⟨_, rfl, ?_⟩; have n0_ := Zs.mk (Kd.R_below (by (with_reducible repeat (first | apply Kd.R_alloc | apply Kd.R_drewN | apply Kd.R_drew)); exact HO_6.out) hb); have n1_ := Zs.mk (Kd.V_lower (Kd.V_mono (ok' := fun k_ => some k_ ≠ (u6 : Value).ownBlock ∧ k_ ≠ gb321) ho0 (fun k_ hk_ => ⟨Or.elim hk_ (fun hs_ => fun e_ => Nat.not_le.2 hs_ (Kd.R_base HO_6.out k_ e_.symm)) (fun hn_ => (Kd.fresh' (Kd.R_lt (by (with_reducible repeat (first | apply Kd.R_alloc | apply Kd.R_drewN | apply Kd.R_drew)); exact HO_6.out)) k_ hn_)), Or.elim hk_ (fun hs_ => fun e_ => Nat.not_le.2 hs_ (by rw [e_]; exact GW321.out)) (fun hn_ => (Kd.freshB (g := gb321) (o := .cells #[.string (strOfNums t315), .int .u8 (rd l0 t318), .int .i64 0, .string (⟨#[]⟩ : ByteArray), .slice none 0 0] 24 (0, 0)) (by (with_reducible repeat (first | refine blk_drewN ?_ _ | refine blk_drew ?_ | refine blk_alloc ?_ _)); exact BK321.out) k_ hn_))⟩)) (zbz (by repeat (first | (with_reducible first | exact HB.out | apply zba | apply zbn | apply zbd | refine zbs ?_ GE321.out) | exact HB.out)))); have n2_ := Zs.mk (blk_below (g := gb321) (o := .cells #[.string (strOfNums t315), .int .u8 (rd l0 t318), .int .i64 0, .string (⟨#[]⟩ : ByteArray), .slice none 0 0] 24 (0, 0)) (by (with_reducible repeat (first | refine blk_drewN ?_ _ | refine blk_drew ?_ | refine blk_alloc ?_ _)); exact BK321.out) hb); have n3_ := Zs.mk (zbt (by repeat (first | (with_reducible first | exact HB.out | apply zba | apply zbn | apply zbd | refine zbs ?_ GE321.out) | exact HB.out)) hb); clear HO_6; clear BK321; clear HB; have HO_6 := n0_; have HO324 := n1_; have BK321 := n2_; have HB := n3_; clear n0_ n1_ n2_ n3_; (try clear hb); (try clear hb2); (try clear hk); (try clear hi); (try clear hge); (try clear ho0); have hcz44_0 : w43.cell? ⟨gb321, 0, none⟩ = some (.string (strOfNums t315)) := (zbc BK321.out 0).trans rfl; have hcz44_1 : w43.cell? ⟨gb321, 1, none⟩ = some (.int .u8 (rd l0 t318)) := (zbc BK321.out 1).trans rfl; have hcz44_2 : w43.cell? ⟨gb321, 2, none⟩ = some (.int .i64 0) := (zbc BK321.out 2).trans rfl; have hcz44_3 : w43.cell? ⟨gb321, 3, none⟩ = some (.string (⟨#[]⟩ : ByteArray)) := (zbc BK321.out 3).trans rfl; have hcz44_4 : w43.cell? ⟨gb321, 4, none⟩ = some (.slice none 0 0) := (zbc BK321.out 4).trans rfl; have hfz44_0 := zbf BK321.out 0; have hfz44_1 := zbf BK321.out 1; have hfz44_2 := zbf BK321.out 2; have hfz44_3 := zbf BK321.out 3; have hfz44_4 := zbf BK321.out 4; obtain ⟨Ao45, co45, eo45⟩ := Kd.V_slice HO324.out; subst eo45) | ((with_reducible refine gate_callee (f := 37) rfl ?_); refine goesL_ (some 81) rfl rfl Try.func37 (by kernel_rfl) rfl #[.slice Ao45 t322.length co45, .int .i64 (wrap64 (a1 + 1))] rfl (by (try simp only [List.map_toArray, List.map_cons, List.map_nil]); first | done | rfl | (simp only [List.length_drop, List.length_take]; rfl)) ?_; (with_reducible refine (ih kj24 (by have := HK1.out; have := HJ4.out; have := HJ24.out; omega) _ _ t322 (wrap64 (a1 + 1)) t327 false _ ?side1 ?side2 A35.out).mono ?_); (case side1 => repeat (first | exact (Kd.V_reads' HO324.out).2.2 | (with_reducible refine Kd.C_alloc ?_ _) | (with_reducible refine Kd.C_drewN ?_ _) | (with_reducible refine Kd.C_drew ?_))); (case side2 => exact (Kd.V_reads' HO324.out).2.1); rintro e w46 ⟨v329, rfl, ho0, hb⟩; refine ⟨_, rfl, ?_⟩; have n0_ := Zs.mk (Kd.R_elder' (by (with_reducible repeat (first | apply Kd.R_alloc | apply Kd.R_drewN | apply Kd.R_drew)); exact HO_6.out) (Kd.R_base ho0) hb); have n1_ := Zs.mk (Kd.V_elder' (by (with_reducible repeat (first | apply Kd.V_alloc | apply Kd.V_drewN | apply Kd.V_drew)); exact HO324.out) (Kd.R_base ho0) hb); have n2_ := Zs.mk (Kd.R_lower (Kd.R_newB (Kd.R_new' ho0 (Kd.R_lt (by (with_reducible repeat (first | apply Kd.R_alloc | apply Kd.R_drewN | apply Kd.R_drew)); exact HO_6.out))) (g := gb321) (o := .cells #[.string (strOfNums t315), .int .u8 (rd l0 t318), .int .i64 0, .string (⟨#[]⟩ : ByteArray), .slice none 0 0] 24 (0, 0)) (by (with_reducible repeat (first | refine blk_drewN ?_ _ | refine blk_drew ?_ | refine blk_alloc ?_ _)); exact BK321.out)) (zbz (by repeat (first | (with_reducible first | exact HB.out | apply zba | apply zbn | apply zbd | refine zbs ?_ GE321.out) | exact HB.out)))); have n3_ := Zs.mk (blk_below (g := gb321) (o := .cells #[.string (strOfNums t315), .int .u8 (rd l0 t318), .int .i64 0, .string (⟨#[]⟩ : ByteArray), .slice none 0 0] 24 (0, 0)) (by (with_reducible repeat (first | refine blk_drewN ?_ _ | refine blk_drew ?_ | refine blk_alloc ?_ _)); exact BK321.out) hb); have n4_ := Zs.mk (zbt (by repeat (first | (with_reducible first | exact HB.out | apply zba | apply zbn | apply zbd | refine zbs ?_ GE321.out) | exact HB.out)) hb); clear HO_6; clear HO324; clear BK321; clear HB; have HO_6 := n0_; have HO324 := n1_; have HO330 := n2_; have BK321 := n3_; have HB := n4_; clear n0_ n1_ n2_ n3_ n4_; (try clear hb); (try clear hb2); (try clear hk); (try clear hi); (try clear hge); (try clear ho0); obtain ⟨Ao47, co47, eo47⟩ := Kd.R_slice HO330.out; subst eo47; have hcz48_0 : w46.cell? ⟨gb321, 0, none⟩ = some (.string (strOfNums t315)) := (zbc BK321.out 0).trans rfl; have hcz48_1 : w46.cell? ⟨gb321, 1, none⟩ = some (.int .u8 (rd l0 t318)) := (zbc BK321.out 1).trans rfl; have hcz48_2 : w46.cell? ⟨gb321, 2, none⟩ = some (.int .i64 0) := (zbc BK321.out 2).trans rfl; have hcz48_3 : w46.cell? ⟨gb321, 3, none⟩ = some (.string (⟨#[]⟩ : ByteArray)) := (zbc BK321.out 3).trans rfl; have hcz48_4 : w46.cell? ⟨gb321, 4, none⟩ = some (.slice none 0 0) := (zbc BK321.out 4).trans rfl; have hfz48_0 := zbf BK321.out 0; have hfz48_1 := zbf BK321.out 1; have hfz48_2 := zbf BK321.out 2; have hfz48_3 := zbf BK321.out 3; have hfz48_4 := zbf BK321.out 4))
             all_goals first | (go_ret2; exact ⟨_, by first | rfl | (simp [zen, zes]; done) | (simp [zen, zes]; rfl) | (simp [*, zen, zes]; done) | (simp [*, zen, zes]; rfl), by first | exact Kd.R_nil _ _ _ _ _ | exact Kd.N_nil _ _ _ _ _ | exact Kd.V_nil _ _ _ _ _ | exact Kd.Q_nil _ _ _ _ _ | exact Kd.S_nil _ _ _ _ _, by repeat (first | (with_reducible first | exact HB.out | apply zba | apply zbn | apply zbd | refine zbs ?_ GE321.out) | exact HB.out)⟩) | (exfalso; simp_all; done)
            replace c29 := Bool.eq_false_iff.mpr c29
            subst c29
            have H1 : (some (([] : List (S24)), false)) = some (r1, r2) := by rw [if_neg (show ¬ (false = true) by decide)] at H; exact H
            clear H
            have H := H1
            clear H1
            simp only [Option.some.injEq, Prod.mk.injEq] at H
            obtain ⟨rfl, rfl⟩ := H
            go_wp2_with (first | ((with_reducible refine gate_callee (f := 50) rfl ?_); refine goesL_ (some 64) rfl rfl Try.func50 (by kernel_rfl) rfl #[.slice (some ad320) l0.length c0, .int .i64 (wrap64 (t318 + 1)), .int .i64 4] rfl (by (try simp only [List.map_toArray, List.map_cons, List.map_nil]); first | done | rfl | (simp only [List.length_drop, List.length_take]; rfl)) ?_; (with_reducible refine (waybillref1_Text.calls kj24 (fun k_ => k_ < w.heap.size) _ _ l0 (wrap64 (t318 + 1)) 4 t322 t325 false _ ?side1 A28.out).mono ?_); (case side1 => exact Kd.V_mk HC0.out (Kd.F_below (Kd.C_F (Kd.heap_int .u8) HR0.out) (by repeat (first | (with_reducible first | exact HB.out | apply zba | apply zbn | apply zbd | refine zbs ?_ GE321.out) | exact HB.out)))); rintro e w49 ⟨v323, rfl, ho0, hb⟩; refine ⟨_, rfl, ?_⟩; have n0_ := Zs.mk (Kd.R_below (by (with_reducible repeat (first | apply Kd.R_alloc | apply Kd.R_drewN | apply Kd.R_drew)); exact HO_6.out) hb); have n1_ := Zs.mk (Kd.V_lower (Kd.V_mono (ok' := fun k_ => some k_ ≠ (u6 : Value).ownBlock ∧ k_ ≠ gb321) ho0 (fun k_ hk_ => ⟨Or.elim hk_ (fun hs_ => fun e_ => Nat.not_le.2 hs_ (Kd.R_base HO_6.out k_ e_.symm)) (fun hn_ => (Kd.fresh' (Kd.R_lt (by (with_reducible repeat (first | apply Kd.R_alloc | apply Kd.R_drewN | apply Kd.R_drew)); exact HO_6.out)) k_ hn_)), Or.elim hk_ (fun hs_ => fun e_ => Nat.not_le.2 hs_ (by rw [e_]; exact GW321.out)) (fun hn_ => (Kd.freshB (g := gb321) (o := .cells #[.string (strOfNums t315), .int .u8 (rd l0 t318), .int .i64 0, .string (⟨#[]⟩ : ByteArray), .slice none 0 0] 24 (0, 0)) (by (with_reducible repeat (first | refine blk_drewN ?_ _ | refine blk_drew ?_ | refine blk_alloc ?_ _)); exact BK321.out) k_ hn_))⟩)) (zbz (by repeat (first | (with_reducible first | exact HB.out | apply zba | apply zbn | apply zbd | refine zbs ?_ GE321.out) | exact HB.out)))); have n2_ := Zs.mk (blk_below (g := gb321) (o := .cells #[.string (strOfNums t315), .int .u8 (rd l0 t318), .int .i64 0, .string (⟨#[]⟩ : ByteArray), .slice none 0 0] 24 (0, 0)) (by (with_reducible repeat (first | refine blk_drewN ?_ _ | refine blk_drew ?_ | refine blk_alloc ?_ _)); exact BK321.out) hb); have n3_ := Zs.mk (zbt (by repeat (first | (with_reducible first | exact HB.out | apply zba | apply zbn | apply zbd | refine zbs ?_ GE321.out) | exact HB.out)) hb); clear HO_6; clear BK321; clear HB; have HO_6 := n0_; have HO324 := n1_; have BK321 := n2_; have HB := n3_; clear n0_ n1_ n2_ n3_; (try clear hb); (try clear hb2); (try clear hk); (try clear hi); (try clear hge); (try clear ho0)))
            all_goals first | (go_ret2; exact ⟨_, by first | rfl | (simp [zen, zes]; done) | (simp [zen, zes]; rfl) | (simp [*, zen, zes]; done) | (simp [*, zen, zes]; rfl), by first | exact Kd.R_nil _ _ _ _ _ | exact Kd.N_nil _ _ _ _ _ | exact Kd.V_nil _ _ _ _ _ | exact Kd.Q_nil _ _ _ _ _ | exact Kd.S_nil _ _ _ _ _, by repeat (first | (with_reducible first | exact HB.out | apply zba | apply zbn | apply zbd | refine zbs ?_ GE321.out) | exact HB.out)⟩) | (exfalso; simp_all; done)
           replace c27 := Bool.eq_false_iff.mpr c27
           subst c27
           have H1 : (if (rd l0 t318) = 86 then (zfR.j3 kj24 l0 a1 x6_1 (wrap64 (t318 + 1)) 0 (strOfNums t315) (rd l0 t318) 0 (⟨#[]⟩ : ByteArray) ([] : List (S24))) else (some (([] : List (S24)), false))) = some (r1, r2) := by rw [if_neg (show ¬ (false = true) by decide)] at H; exact H
           clear H
           have H := H1
           clear H1
           by_cases c50 : (rd l0 t318) = 86
           ·
            rw [if_pos c50] at H
            have c50b0 : ((rd l0 t318) == 86) = true := beq_iff_eq.mpr c50
            have c50b1 : ((rd l0 t318) != 86) = false := bne_eq_false_iff_eq.mpr c50
            clear c50
            have H' := Zs.mk H
            clear H
            go_wp2
            go_meet
            case rel => exact ⟨_, ((wrap64 (t318 + 1))), (0), ((⟨#[]⟩ : ByteArray)), (([] : List (S24))), (.slice none 0 0), (by first | rfl | (simp; done) | (simp [*]; done)), (by first | rfl | (simp; done) | (simp [*]; done)), H', ⟨by have := HK1.out; have := HJ4.out; have := HJ24.out; first | omega | exact Nat.le_refl _⟩, ⟨by (with_reducible repeat (first | apply Kd.R_alloc | apply Kd.R_drewN | apply Kd.R_drew)); exact Kd.R_mono HO_6.out (fun _ hk => ⟨(by simp [Value.ownBlock]), hk⟩)⟩, ⟨by first | exact Kd.R_nil _ _ _ _ _ | exact Kd.N_nil _ _ _ _ _ | exact Kd.V_nil _ _ _ _ _ | exact Kd.Q_nil _ _ _ _ _ | exact Kd.S_nil _ _ _ _ _⟩, ⟨by (with_reducible repeat (first | refine blk_drewN ?_ _ | refine blk_drew ?_ | refine blk_alloc ?_ _)); exact BK321.out⟩, ⟨by repeat (first | (with_reducible first | exact HB.out | apply zba | apply zbn | apply zbd | refine zbs ?_ GE321.out) | exact HB.out)⟩⟩
           rw [if_neg c50] at H
           have c50b0 : ((rd l0 t318) == 86) = false := beq_eq_false_iff_ne.mpr c50
           have c50b1 : ((rd l0 t318) != 86) = true := bne_iff_ne.mpr c50
           simp only [Option.some.injEq, Prod.mk.injEq] at H
           obtain ⟨rfl, rfl⟩ := H
           go_wp2
           all_goals first | (go_ret2; exact ⟨_, by first | rfl | (simp [zen, zes]; done) | (simp [zen, zes]; rfl) | (simp [*, zen, zes]; done) | (simp [*, zen, zes]; rfl), by first | exact Kd.R_nil _ _ _ _ _ | exact Kd.N_nil _ _ _ _ _ | exact Kd.V_nil _ _ _ _ _ | exact Kd.Q_nil _ _ _ _ _ | exact Kd.S_nil _ _ _ _ _, by repeat (first | (with_reducible first | exact HB.out | apply zba | apply zbn | apply zbd | refine zbs ?_ GE321.out) | exact HB.out)⟩) | (exfalso; simp_all; done)
        case rest =>
         clear HC12
         try clear c1
         try clear c2
         try clear p2
         try clear c3
         try clear c3b0
         try clear p3
         try clear q3
         try clear hx3
         try clear hcv3
         try clear c5
         try clear p6
         try clear c7
         try clear c8
         try clear c8b0
         try clear c9
         try clear c10
         try clear c10b0
         try clear c11
         try clear c11b0
         try clear c22
         try clear c22b0
         try clear c22b1
         try clear c23
         try clear c23b0
         try clear c23b1
         try clear c24
         try clear c24b0
         try clear c24b1
         try clear c26
         try clear c26b0
         try clear c26b1
         try clear c27
         try clear c29
         try clear c30
         try clear c30b0
         try clear c30b1
         try clear p32
         try clear q32
         try clear hx32
         try clear hcv34
         try clear c36
         try clear c37
         try clear c50
         try clear c50b0
         try clear c50b1
         try clear hcz21_0
         try clear hcz21_1
         try clear hcz21_2
         try clear hcz21_3
         try clear hcz21_4
         try clear hcz32_0
         try clear hcz32_1
         try clear hcz32_2
         try clear hcz32_3
         try clear hcz32_4
         try clear hcz38_0
         try clear hcz38_1
         try clear hcz38_2
         try clear hcz38_3
         try clear hcz38_4
         try clear hcz42_0
         try clear hcz42_1
         try clear hcz42_2
         try clear hcz42_3
         try clear hcz42_4
         try clear hcz44_0
         try clear hcz44_1
         try clear hcz44_2
         try clear hcz44_3
         try clear hcz44_4
         try clear hcz48_0
         try clear hcz48_1
         try clear hcz48_2
         try clear hcz48_3
         try clear hcz48_4
         try clear hfz21_0
         try clear hfz21_1
         try clear hfz21_2
         try clear hfz21_3
         try clear hfz21_4
         try clear hfz32_0
         try clear hfz32_1
         try clear hfz32_2
         try clear hfz32_3
         try clear hfz32_4
         try clear hfz38_0
         try clear hfz38_1
         try clear hfz38_2
         try clear hfz38_3
         try clear hfz38_4
         try clear hfz42_0
         try clear hfz42_1
         try clear hfz42_2
         try clear hfz42_3
         try clear hfz42_4
         try clear hfz44_0
         try clear hfz44_1
         try clear hfz44_2
         try clear hfz44_3
         try clear hfz44_4
         try clear hfz48_0
         try clear hfz48_1
         try clear hfz48_2
         try clear hfz48_3
         try clear hfz48_4
         try clear hx320_0
         try clear p2
         try clear p3
         try clear p320
         try clear p6
         try clear q3
         try clear q320
         obtain ⟨kq, x9_11, x12_11, x322003_11, x322004_11, u322004, rfl, rfl, HA, HJ11, HO_6, HO_322004, BK321, HB⟩ := hcut
         cases kq with
         | zero => exact absurd HA.out (by simp [zfR.j3])
         | succ kj11 =>
          have H := HA.out
          clear HA
          simp only [zfR.j3] at H
          by_cases c51 : x12_11 > 0
          ·
           rw [if_pos c51] at H
           have c51b0 : decide (0 < x12_11) = true := decide_eq_true c51
           clear c51
           replace H := Option.bind_eq_some_iff.mp H
           obtain ⟨⟨t331, t332⟩, A520, H⟩ := H
           replace H : (if t332 = true then (if x12_11 = 4 then (if x6_1.length < 1954687338268 then (zfR.l0 kj11 l0 a1 (x6_1 ++ [(⟨(strOfNums t315), (rd l0 t318), wrap64 (wrap32 ((t331) % 4294967296)), x322003_11, x322004_11⟩ : S24)]) (wrap64 (x9_11 + x12_11))) else (none)) else (if x6_1.length < 1954687338268 then (zfR.l0 kj11 l0 a1 (x6_1 ++ [(⟨(strOfNums t315), (rd l0 t318), wrap64 (t331), x322003_11, x322004_11⟩ : S24)]) (wrap64 (x9_11 + x12_11))) else (none))) else (some (([] : List (S24)), false))) = some (r1, r2) := H
           have A52 := Zs.mk A520
           clear A520
           by_cases c53 : t332 = true
           ·
            subst c53
            have H1 : (if x12_11 = 4 then (if x6_1.length < 1954687338268 then (zfR.l0 kj11 l0 a1 (x6_1 ++ [(⟨(strOfNums t315), (rd l0 t318), wrap64 (wrap32 ((t331) % 4294967296)), x322003_11, x322004_11⟩ : S24)]) (wrap64 (x9_11 + x12_11))) else (none)) else (if x6_1.length < 1954687338268 then (zfR.l0 kj11 l0 a1 (x6_1 ++ [(⟨(strOfNums t315), (rd l0 t318), wrap64 (t331), x322003_11, x322004_11⟩ : S24)]) (wrap64 (x9_11 + x12_11))) else (none))) = some (r1, r2) := by rw [if_pos rfl] at H; exact H
            clear H
            have H := H1
            clear H1
            by_cases c54 : x12_11 = 4
            ·
             rw [if_pos c54] at H
             have c54b0 : (x12_11 == 4) = true := beq_iff_eq.mpr c54
             have c54b1 : (x12_11 != 4) = false := bne_eq_false_iff_eq.mpr c54
             clear c54
             by_cases c55 : x6_1.length < 1954687338268
             ·
              rw [if_pos c55] at H
              have LMc55 := Zs.mk c55
              clear c55
              obtain ⟨y333, hy333⟩ : ∃ y_ : List (S24), y_ = (x6_1 ++ [(⟨(strOfNums t315), (rd l0 t318), wrap64 (wrap32 ((t331) % 4294967296)), x322003_11, x322004_11⟩ : S24)]) := ⟨_, rfl⟩
              replace H : (zfR.l0 kj11 l0 a1 y333 (wrap64 (x9_11 + x12_11))) = some (r1, r2) := by first | (rw [hy333]; with_reducible exact H) | (have H2_ := (Option.bind_some _ _).symm.trans H; rw [hy333]; with_reducible exact H2_) | (have H2_ := (Option.bind_some _ _).symm.trans H; with_reducible exact H2_) | with_reducible exact H | (rw [hy333]; exact H) | exact H
              have Ny333 := Zs.mk hy333
              clear hy333
              have H' := Zs.mk H
              clear H
              go_wp2_with (first | ((with_reducible refine gate_callee (f := 49) rfl ?_); refine goesL_ (some 95) rfl rfl Try.func49 (by kernel_rfl) rfl #[.slice (some ad320) l0.length c0, .int .i64 x9_11, .int .i64 x12_11] rfl (by (try simp only [List.map_toArray, List.map_cons, List.map_nil]); first | done | rfl | (simp only [List.length_drop, List.length_take]; rfl)) ?_; (with_reducible refine (zfN.calls kj11 _ _ l0 x9_11 x12_11 t331 true _ ?side1 ?side2 A52.out).mono ?_); (case side1 => repeat (first | exact (Kd.C_below HR0.out HB.out) | (with_reducible refine Kd.C_alloc ?_ _) | (with_reducible refine Kd.C_drewN ?_ _) | (with_reducible refine Kd.C_drew ?_))); (case side2 => exact HC0.out); rintro e w' ⟨rfl, ⟨nd, rfl⟩⟩; refine ⟨_, rfl, ?_⟩; (try (rw [drewN_self wc]; generalize hq_ : World.drewN wc _ = wc; have n0_ : Zs (Kd.R k24 24 wc w.heap.size (fun k_ => some k_ ≠ (u6 : Value).ownBlock ∧ k_ ≠ gb321) u322004 x322004_11) := ⟨by rw [← hq_]; exact (by (with_reducible repeat (first | apply Kd.R_alloc | apply Kd.R_drewN | apply Kd.R_drew)); exact HO_322004.out)⟩; have n1_ : Zs (Kd.R k24 24 wc w.heap.size (fun k_ => some k_ ≠ (u322004 : Value).ownBlock ∧ k_ ≠ gb321) u6 x6_1) := ⟨by rw [← hq_]; exact (by (with_reducible repeat (first | apply Kd.R_alloc | apply Kd.R_drewN | apply Kd.R_drew)); exact HO_6.out)⟩; have n2_ : Zs (wc.heap[gb321]? = some (.cells #[.string (strOfNums t315), .int .u8 (rd l0 t318), .int .i64 0, .string x322003_11, u322004] 24 (0, 0))) := ⟨by rw [← hq_]; exact (by (with_reducible repeat (first | refine blk_drewN ?_ _ | refine blk_drew ?_ | refine blk_alloc ?_ _)); exact BK321.out)⟩; have n3_ : Zs (Below w.heap.size w wc) := ⟨by rw [← hq_]; exact (by repeat (first | (with_reducible first | exact HB.out | apply zba | apply zbn | apply zbd | refine zbs ?_ GE321.out) | exact HB.out))⟩; clear HO_322004 HO_6 BK321 HB hq_; have HO_322004 := n0_; have HO_6 := n1_; have BK321 := n2_; have HB := n3_; clear n0_ n1_ n2_ n3_)); have hcz56_0 : wc.cell? ⟨gb321, 0, none⟩ = some (.string (strOfNums t315)) := (zbc BK321.out 0).trans rfl; have hcz56_1 : wc.cell? ⟨gb321, 1, none⟩ = some (.int .u8 (rd l0 t318)) := (zbc BK321.out 1).trans rfl; have hcz56_2 : wc.cell? ⟨gb321, 2, none⟩ = some (.int .i64 0) := (zbc BK321.out 2).trans rfl; have hcz56_3 : wc.cell? ⟨gb321, 3, none⟩ = some (.string x322003_11) := (zbc BK321.out 3).trans rfl; have hcz56_4 : wc.cell? ⟨gb321, 4, none⟩ = some (u322004) := (zbc BK321.out 4).trans rfl; have hfz56_0 := zbf BK321.out 0; have hfz56_1 := zbf BK321.out 1; have hfz56_2 := zbf BK321.out 2; have hfz56_3 := zbf BK321.out 3; have hfz56_4 := zbf BK321.out 4) | ((with_reducible refine gate_store (t := 2) (p := 102) rfl ?_); refine store_event (t := 2) (p := 102) (v := ?vo_w57) (w1 := (wc.setCell ⟨gb321, 2, none⟩ (.int .i64 (wrap64 (t331))))) ?hg ?ho ?hn ?hr ?_; (case ho => rfl); (case hg => rfl); (case hn => rfl); (case hr => first | (go_simp; done) | (go_simp; rfl)); intro w57 hw; have n0_ : Zs (Kd.R k24 24 w57 w.heap.size (fun k_ => some k_ ≠ (u322004 : Value).ownBlock ∧ k_ ≠ gb321) u6 x6_1) := ⟨(by rw [hw]; exact (by (with_reducible repeat (first | apply Kd.R_alloc | apply Kd.R_drewN | apply Kd.R_drew)); exact Kd.R_mono (Kd.R_far (p := ⟨gb321, 2, none⟩) (Kd.R_mono HO_6.out (fun k_ hk => (⟨hk, hk.2⟩ : _ ∧ k_ ≠ gb321))) (fun _ hk => hk.2) (.int .i64 (wrap64 (t331)))) (fun _ hk => ⟨hk.1.1, hk.1.2⟩)))⟩; have n1_ : Zs (Kd.R k24 24 w57 w.heap.size (fun k_ => some k_ ≠ (u6 : Value).ownBlock ∧ k_ ≠ gb321) u322004 x322004_11) := ⟨(by rw [hw]; exact (by (with_reducible repeat (first | apply Kd.R_alloc | apply Kd.R_drewN | apply Kd.R_drew)); exact Kd.R_mono (Kd.R_far (p := ⟨gb321, 2, none⟩) (Kd.R_mono HO_322004.out (fun k_ hk => (⟨hk, hk.2⟩ : _ ∧ k_ ≠ gb321))) (fun _ hk => hk.2) (.int .i64 (wrap64 (t331)))) (fun _ hk => ⟨hk.1.1, hk.1.2⟩)))⟩; have n2_ : Zs (w57.heap[gb321]? = some (.cells #[.string (strOfNums t315), .int .u8 (rd l0 t318), .int .i64 (wrap64 (t331)), .string x322003_11, u322004] 24 (0, 0))) := ⟨(by rw [hw]; exact (by (with_reducible repeat (first | refine blk_drewN ?_ _ | refine blk_drew ?_ | refine blk_alloc ?_ _)); refine blk_put (cs := #[.string (strOfNums t315), .int .u8 (rd l0 t318), .int .i64 0, .string x322003_11, u322004]) ?_ 2 _ rfl; (with_reducible repeat (first | refine blk_drewN ?_ _ | refine blk_drew ?_ | refine blk_alloc ?_ _)); exact BK321.out))⟩; have n3_ : Zs (Below w.heap.size w w57) := ⟨(by rw [hw]; exact (by repeat (first | (with_reducible first | exact HB.out | apply zba | apply zbn | apply zbd | refine zbs ?_ GE321.out) | exact HB.out)))⟩; clear hw; clear HO_6; clear HO_322004; clear BK321; clear HB; have HO_6 := n0_; have HO_322004 := n1_; have BK321 := n2_; have HB := n3_; clear n0_ n1_ n2_ n3_; have hcz58_0 : w57.cell? ⟨gb321, 0, none⟩ = some (.string (strOfNums t315)) := (zbc BK321.out 0).trans rfl; have hcz58_1 : w57.cell? ⟨gb321, 1, none⟩ = some (.int .u8 (rd l0 t318)) := (zbc BK321.out 1).trans rfl; have hcz58_2 : w57.cell? ⟨gb321, 2, none⟩ = some (.int .i64 (wrap64 (t331))) := (zbc BK321.out 2).trans rfl; have hcz58_3 : w57.cell? ⟨gb321, 3, none⟩ = some (.string x322003_11) := (zbc BK321.out 3).trans rfl; have hcz58_4 : w57.cell? ⟨gb321, 4, none⟩ = some (u322004) := (zbc BK321.out 4).trans rfl; have hfz58_0 := zbf BK321.out 0; have hfz58_1 := zbf BK321.out 1; have hfz58_2 := zbf BK321.out 2; have hfz58_3 := zbf BK321.out 3; have hfz58_4 := zbf BK321.out 4) | ((with_reducible refine gate_store (t := 2) (p := 109) rfl ?_); refine store_event (t := 2) (p := 109) (v := ?vo_w59) (w1 := (w57.setCell ⟨gb321, 2, none⟩ (.int .i64 (wrap64 (wrap32 ((t331) % 4294967296)))))) ?hg ?ho ?hn ?hr ?_; (case ho => rfl); (case hg => rfl); (case hn => rfl); (case hr => first | (go_simp; done) | (go_simp; rfl)); intro w59 hw; have n0_ : Zs (Kd.R k24 24 w59 w.heap.size (fun k_ => some k_ ≠ (u322004 : Value).ownBlock ∧ k_ ≠ gb321) u6 x6_1) := ⟨(by rw [hw]; exact (by (with_reducible repeat (first | apply Kd.R_alloc | apply Kd.R_drewN | apply Kd.R_drew)); exact Kd.R_mono (Kd.R_far (p := ⟨gb321, 2, none⟩) (Kd.R_mono HO_6.out (fun k_ hk => (⟨hk, hk.2⟩ : _ ∧ k_ ≠ gb321))) (fun _ hk => hk.2) (.int .i64 (wrap64 (wrap32 ((t331) % 4294967296))))) (fun _ hk => ⟨hk.1.1, hk.1.2⟩)))⟩; have n1_ : Zs (Kd.R k24 24 w59 w.heap.size (fun k_ => some k_ ≠ (u6 : Value).ownBlock ∧ k_ ≠ gb321) u322004 x322004_11) := ⟨(by rw [hw]; exact (by (with_reducible repeat (first | apply Kd.R_alloc | apply Kd.R_drewN | apply Kd.R_drew)); exact Kd.R_mono (Kd.R_far (p := ⟨gb321, 2, none⟩) (Kd.R_mono HO_322004.out (fun k_ hk => (⟨hk, hk.2⟩ : _ ∧ k_ ≠ gb321))) (fun _ hk => hk.2) (.int .i64 (wrap64 (wrap32 ((t331) % 4294967296))))) (fun _ hk => ⟨hk.1.1, hk.1.2⟩)))⟩; have n2_ : Zs (w59.heap[gb321]? = some (.cells #[.string (strOfNums t315), .int .u8 (rd l0 t318), .int .i64 (wrap64 (wrap32 ((t331) % 4294967296))), .string x322003_11, u322004] 24 (0, 0))) := ⟨(by rw [hw]; exact (by (with_reducible repeat (first | refine blk_drewN ?_ _ | refine blk_drew ?_ | refine blk_alloc ?_ _)); refine blk_put (cs := #[.string (strOfNums t315), .int .u8 (rd l0 t318), .int .i64 (wrap64 (t331)), .string x322003_11, u322004]) ?_ 2 _ rfl; (with_reducible repeat (first | refine blk_drewN ?_ _ | refine blk_drew ?_ | refine blk_alloc ?_ _)); exact BK321.out))⟩; have n3_ : Zs (Below w.heap.size w w59) := ⟨(by rw [hw]; exact (by repeat (first | (with_reducible first | exact HB.out | apply zba | apply zbn | apply zbd | refine zbs ?_ GE321.out) | exact HB.out)))⟩; clear hw; clear HO_6; clear HO_322004; clear BK321; clear HB; have HO_6 := n0_; have HO_322004 := n1_; have BK321 := n2_; have HB := n3_; clear n0_ n1_ n2_ n3_; have hcz60_0 : w59.cell? ⟨gb321, 0, none⟩ = some (.string (strOfNums t315)) := (zbc BK321.out 0).trans rfl; have hcz60_1 : w59.cell? ⟨gb321, 1, none⟩ = some (.int .u8 (rd l0 t318)) := (zbc BK321.out 1).trans rfl; have hcz60_2 : w59.cell? ⟨gb321, 2, none⟩ = some (.int .i64 (wrap64 (wrap32 ((t331) % 4294967296)))) := (zbc BK321.out 2).trans rfl; have hcz60_3 : w59.cell? ⟨gb321, 3, none⟩ = some (.string x322003_11) := (zbc BK321.out 3).trans rfl; have hcz60_4 : w59.cell? ⟨gb321, 4, none⟩ = some (u322004) := (zbc BK321.out 4).trans rfl; have hfz60_0 := zbf BK321.out 0; have hfz60_1 := zbf BK321.out 1; have hfz60_2 := zbf BK321.out 2; have hfz60_3 := zbf BK321.out 3; have hfz60_4 := zbf BK321.out 4; obtain ⟨Ao62, co62, eo62⟩ := Kd.R_slice HO_322004.out; subst eo62) | ((with_reducible refine gate_builtin (b := .append) (xs := #[.tmp 113, .tmp 115]) rfl ?_); (try (refine gate_guard (by rfl) ?_; dsimp only)); at_builtin; refine Kd.R_append k24 (w0 := w) w.heap.size rfl (.tmp 113) (.tmp 115) 22 24 (.agg #[(.string ⟨#[]⟩), (.int .u8 0), (.int .i64 0), (.string ⟨#[]⟩), (.slice none 0 0)]) 72 rfl Try.underlying22 info24 rfl (by decide) (by omega) u6 x6_1 (⟨(strOfNums t315), (rd l0 t318), wrap64 (wrap32 ((t331) % 4294967296)), x322003_11, x322004_11⟩ : S24) [.string (strOfNums t315), .int .u8 (rd l0 t318), .int .i64 (wrap64 (wrap32 ((t331) % 4294967296))), .string x322003_11, .slice Ao62 x322004_11.length co62] (fun k_ => k_ ≠ gb321) (fun k_ => ((fun k_ => k_ ≠ gb321)) k_ ∧ some k_ ≠ (u6 : Value).ownBlock) rfl rfl ?aP (fun _ hk => hk) ?aF ?aO ?aB ?aS ?aL ?_; (case aP => exact k24_mkM _ _ _ (⟨(strOfNums t315), (rd l0 t318), wrap64 (wrap32 ((t331) % 4294967296)), x322003_11, x322004_11⟩ : S24) (Kd.R_mono (HO_322004.out) (fun k_ hk => ⟨hk.2, hk.1⟩))); (case aB => exact (by repeat (first | (with_reducible first | exact HB.out | apply zba | apply zbn | apply zbd | refine zbs ?_ GE321.out) | exact HB.out))); (case aF => exact (fun k_ hk => Kd.freshB (g := gb321) (o := .cells #[.string (strOfNums t315), .int .u8 (rd l0 t318), .int .i64 (wrap64 (wrap32 ((t331) % 4294967296))), .string x322003_11, .slice Ao62 x322004_11.length co62] 24 (0, 0)) (by (with_reducible repeat (first | refine blk_drewN ?_ _ | refine blk_drew ?_ | refine blk_alloc ?_ _)); exact BK321.out) k_ hk)); (case aO => exact (by (with_reducible repeat (first | apply Kd.R_alloc | apply Kd.R_drewN | apply Kd.R_drew)); exact Kd.R_mono HO_6.out (fun _ hk => hk.2))); (case aS => exact (zbz (by repeat (first | (with_reducible first | exact HB.out | apply zba | apply zbn | apply zbd | refine zbs ?_ GE321.out) | exact HB.out)))); (case aL => have := LMc55.out; omega); intro v334 w61 ho hb hg hat; rw [← Ny333.out] at ho; have n0_ := Zs.mk (blk_grown (g := gb321) (o := .cells #[.string (strOfNums t315), .int .u8 (rd l0 t318), .int .i64 (wrap64 (wrap32 ((t331) % 4294967296))), .string x322003_11, .slice Ao62 x322004_11.length co62] 24 (0, 0)) (by (with_reducible repeat (first | refine blk_drewN ?_ _ | refine blk_drew ?_ | refine blk_alloc ?_ _)); exact BK321.out) hg (Kd.R_away HO_6.out (fun _ hk => hk.2))); have n1_ := Zs.mk (hb); have n2_ := Zs.mk (ho); clear BK321; clear HB; clear HO_6; clear HO_322004; have BK321 := n0_; have HB := n1_; have HO335 := n2_; clear n0_ n1_ n2_; clear ho hb hg hat))
              go_roundg kj11
              case measure => have := HK1.out; have := HJ4.out; have := HJ11.out; omega
              case rel => exact ⟨(y333), (wrap64 (x9_11 + x12_11)), (by first | rfl | (simp; done) | (simp [*]; done)), H', ⟨by have := HK1.out; have := HJ4.out; have := HJ11.out; omega⟩, ⟨by (with_reducible repeat (first | apply Kd.R_alloc | apply Kd.R_drewN | apply Kd.R_drew)); exact Kd.R_mono HO335.out (fun _ hk => trivial)⟩, ⟨by repeat (first | (with_reducible first | exact HB.out | apply zba | apply zbn | apply zbd | refine zbs ?_ GE321.out) | exact HB.out)⟩⟩
             rw [if_neg c55] at H
             exact absurd H (by simp)
            rw [if_neg c54] at H
            have c54b0 : (x12_11 == 4) = false := beq_eq_false_iff_ne.mpr c54
            have c54b1 : (x12_11 != 4) = true := bne_iff_ne.mpr c54
            by_cases c63 : x6_1.length < 1954687338268
            ·
             rw [if_pos c63] at H
             have LMc63 := Zs.mk c63
             clear c63
             obtain ⟨y336, hy336⟩ : ∃ y_ : List (S24), y_ = (x6_1 ++ [(⟨(strOfNums t315), (rd l0 t318), wrap64 (t331), x322003_11, x322004_11⟩ : S24)]) := ⟨_, rfl⟩
             replace H : (zfR.l0 kj11 l0 a1 y336 (wrap64 (x9_11 + x12_11))) = some (r1, r2) := by first | (rw [hy336]; with_reducible exact H) | (have H2_ := (Option.bind_some _ _).symm.trans H; rw [hy336]; with_reducible exact H2_) | (have H2_ := (Option.bind_some _ _).symm.trans H; with_reducible exact H2_) | with_reducible exact H | (rw [hy336]; exact H) | exact H
             have Ny336 := Zs.mk hy336
             clear hy336
             have H' := Zs.mk H
             clear H
             go_wp2_with (first | ((with_reducible refine gate_callee (f := 49) rfl ?_); refine goesL_ (some 95) rfl rfl Try.func49 (by kernel_rfl) rfl #[.slice (some ad320) l0.length c0, .int .i64 x9_11, .int .i64 x12_11] rfl (by (try simp only [List.map_toArray, List.map_cons, List.map_nil]); first | done | rfl | (simp only [List.length_drop, List.length_take]; rfl)) ?_; (with_reducible refine (zfN.calls kj11 _ _ l0 x9_11 x12_11 t331 true _ ?side1 ?side2 A52.out).mono ?_); (case side1 => repeat (first | exact (Kd.C_below HR0.out HB.out) | (with_reducible refine Kd.C_alloc ?_ _) | (with_reducible refine Kd.C_drewN ?_ _) | (with_reducible refine Kd.C_drew ?_))); (case side2 => exact HC0.out); rintro e w' ⟨rfl, ⟨nd, rfl⟩⟩; refine ⟨_, rfl, ?_⟩; (try (rw [drewN_self wc]; generalize hq_ : World.drewN wc _ = wc; have n0_ : Zs (Kd.R k24 24 wc w.heap.size (fun k_ => some k_ ≠ (u6 : Value).ownBlock ∧ k_ ≠ gb321) u322004 x322004_11) := ⟨by rw [← hq_]; exact (by (with_reducible repeat (first | apply Kd.R_alloc | apply Kd.R_drewN | apply Kd.R_drew)); exact HO_322004.out)⟩; have n1_ : Zs (Kd.R k24 24 wc w.heap.size (fun k_ => some k_ ≠ (u322004 : Value).ownBlock ∧ k_ ≠ gb321) u6 x6_1) := ⟨by rw [← hq_]; exact (by (with_reducible repeat (first | apply Kd.R_alloc | apply Kd.R_drewN | apply Kd.R_drew)); exact HO_6.out)⟩; have n2_ : Zs (wc.heap[gb321]? = some (.cells #[.string (strOfNums t315), .int .u8 (rd l0 t318), .int .i64 0, .string x322003_11, u322004] 24 (0, 0))) := ⟨by rw [← hq_]; exact (by (with_reducible repeat (first | refine blk_drewN ?_ _ | refine blk_drew ?_ | refine blk_alloc ?_ _)); exact BK321.out)⟩; have n3_ : Zs (Below w.heap.size w wc) := ⟨by rw [← hq_]; exact (by repeat (first | (with_reducible first | exact HB.out | apply zba | apply zbn | apply zbd | refine zbs ?_ GE321.out) | exact HB.out))⟩; clear HO_322004 HO_6 BK321 HB hq_; have HO_322004 := n0_; have HO_6 := n1_; have BK321 := n2_; have HB := n3_; clear n0_ n1_ n2_ n3_)); have hcz64_0 : wc.cell? ⟨gb321, 0, none⟩ = some (.string (strOfNums t315)) := (zbc BK321.out 0).trans rfl; have hcz64_1 : wc.cell? ⟨gb321, 1, none⟩ = some (.int .u8 (rd l0 t318)) := (zbc BK321.out 1).trans rfl; have hcz64_2 : wc.cell? ⟨gb321, 2, none⟩ = some (.int .i64 0) := (zbc BK321.out 2).trans rfl; have hcz64_3 : wc.cell? ⟨gb321, 3, none⟩ = some (.string x322003_11) := (zbc BK321.out 3).trans rfl; have hcz64_4 : wc.cell? ⟨gb321, 4, none⟩ = some (u322004) := (zbc BK321.out 4).trans rfl; have hfz64_0 := zbf BK321.out 0; have hfz64_1 := zbf BK321.out 1; have hfz64_2 := zbf BK321.out 2; have hfz64_3 := zbf BK321.out 3; have hfz64_4 := zbf BK321.out 4) | ((with_reducible refine gate_store (t := 2) (p := 102) rfl ?_); refine store_event (t := 2) (p := 102) (v := ?vo_w65) (w1 := (wc.setCell ⟨gb321, 2, none⟩ (.int .i64 (wrap64 (t331))))) ?hg ?ho ?hn ?hr ?_; (case ho => rfl); (case hg => rfl); (case hn => rfl); (case hr => first | (go_simp; done) | (go_simp; rfl)); intro w65 hw; have n0_ : Zs (Kd.R k24 24 w65 w.heap.size (fun k_ => some k_ ≠ (u322004 : Value).ownBlock ∧ k_ ≠ gb321) u6 x6_1) := ⟨(by rw [hw]; exact (by (with_reducible repeat (first | apply Kd.R_alloc | apply Kd.R_drewN | apply Kd.R_drew)); exact Kd.R_mono (Kd.R_far (p := ⟨gb321, 2, none⟩) (Kd.R_mono HO_6.out (fun k_ hk => (⟨hk, hk.2⟩ : _ ∧ k_ ≠ gb321))) (fun _ hk => hk.2) (.int .i64 (wrap64 (t331)))) (fun _ hk => ⟨hk.1.1, hk.1.2⟩)))⟩; have n1_ : Zs (Kd.R k24 24 w65 w.heap.size (fun k_ => some k_ ≠ (u6 : Value).ownBlock ∧ k_ ≠ gb321) u322004 x322004_11) := ⟨(by rw [hw]; exact (by (with_reducible repeat (first | apply Kd.R_alloc | apply Kd.R_drewN | apply Kd.R_drew)); exact Kd.R_mono (Kd.R_far (p := ⟨gb321, 2, none⟩) (Kd.R_mono HO_322004.out (fun k_ hk => (⟨hk, hk.2⟩ : _ ∧ k_ ≠ gb321))) (fun _ hk => hk.2) (.int .i64 (wrap64 (t331)))) (fun _ hk => ⟨hk.1.1, hk.1.2⟩)))⟩; have n2_ : Zs (w65.heap[gb321]? = some (.cells #[.string (strOfNums t315), .int .u8 (rd l0 t318), .int .i64 (wrap64 (t331)), .string x322003_11, u322004] 24 (0, 0))) := ⟨(by rw [hw]; exact (by (with_reducible repeat (first | refine blk_drewN ?_ _ | refine blk_drew ?_ | refine blk_alloc ?_ _)); refine blk_put (cs := #[.string (strOfNums t315), .int .u8 (rd l0 t318), .int .i64 0, .string x322003_11, u322004]) ?_ 2 _ rfl; (with_reducible repeat (first | refine blk_drewN ?_ _ | refine blk_drew ?_ | refine blk_alloc ?_ _)); exact BK321.out))⟩; have n3_ : Zs (Below w.heap.size w w65) := ⟨(by rw [hw]; exact (by repeat (first | (with_reducible first | exact HB.out | apply zba | apply zbn | apply zbd | refine zbs ?_ GE321.out) | exact HB.out)))⟩; clear hw; clear HO_6; clear HO_322004; clear BK321; clear HB; have HO_6 := n0_; have HO_322004 := n1_; have BK321 := n2_; have HB := n3_; clear n0_ n1_ n2_ n3_; have hcz66_0 : w65.cell? ⟨gb321, 0, none⟩ = some (.string (strOfNums t315)) := (zbc BK321.out 0).trans rfl; have hcz66_1 : w65.cell? ⟨gb321, 1, none⟩ = some (.int .u8 (rd l0 t318)) := (zbc BK321.out 1).trans rfl; have hcz66_2 : w65.cell? ⟨gb321, 2, none⟩ = some (.int .i64 (wrap64 (t331))) := (zbc BK321.out 2).trans rfl; have hcz66_3 : w65.cell? ⟨gb321, 3, none⟩ = some (.string x322003_11) := (zbc BK321.out 3).trans rfl; have hcz66_4 : w65.cell? ⟨gb321, 4, none⟩ = some (u322004) := (zbc BK321.out 4).trans rfl; have hfz66_0 := zbf BK321.out 0; have hfz66_1 := zbf BK321.out 1; have hfz66_2 := zbf BK321.out 2; have hfz66_3 := zbf BK321.out 3; have hfz66_4 := zbf BK321.out 4; obtain ⟨Ao68, co68, eo68⟩ := Kd.R_slice HO_322004.out; subst eo68) | ((with_reducible refine gate_builtin (b := .append) (xs := #[.tmp 113, .tmp 115]) rfl ?_); (try (refine gate_guard (by rfl) ?_; dsimp only)); at_builtin; refine Kd.R_append k24 (w0 := w) w.heap.size rfl (.tmp 113) (.tmp 115) 22 24 (.agg #[(.string ⟨#[]⟩), (.int .u8 0), (.int .i64 0), (.string ⟨#[]⟩), (.slice none 0 0)]) 72 rfl Try.underlying22 info24 rfl (by decide) (by omega) u6 x6_1 (⟨(strOfNums t315), (rd l0 t318), wrap64 (t331), x322003_11, x322004_11⟩ : S24) [.string (strOfNums t315), .int .u8 (rd l0 t318), .int .i64 (wrap64 (t331)), .string x322003_11, .slice Ao68 x322004_11.length co68] (fun k_ => k_ ≠ gb321) (fun k_ => ((fun k_ => k_ ≠ gb321)) k_ ∧ some k_ ≠ (u6 : Value).ownBlock) rfl rfl ?aP (fun _ hk => hk) ?aF ?aO ?aB ?aS ?aL ?_; (case aP => exact k24_mkM _ _ _ (⟨(strOfNums t315), (rd l0 t318), wrap64 (t331), x322003_11, x322004_11⟩ : S24) (Kd.R_mono (HO_322004.out) (fun k_ hk => ⟨hk.2, hk.1⟩))); (case aB => exact (by repeat (first | (with_reducible first | exact HB.out | apply zba | apply zbn | apply zbd | refine zbs ?_ GE321.out) | exact HB.out))); (case aF => exact (fun k_ hk => Kd.freshB (g := gb321) (o := .cells #[.string (strOfNums t315), .int .u8 (rd l0 t318), .int .i64 (wrap64 (t331)), .string x322003_11, .slice Ao68 x322004_11.length co68] 24 (0, 0)) (by (with_reducible repeat (first | refine blk_drewN ?_ _ | refine blk_drew ?_ | refine blk_alloc ?_ _)); exact BK321.out) k_ hk)); (case aO => exact (by (with_reducible repeat (first | apply Kd.R_alloc | apply Kd.R_drewN | apply Kd.R_drew)); exact Kd.R_mono HO_6.out (fun _ hk => hk.2))); (case aS => exact (zbz (by repeat (first | (with_reducible first | exact HB.out | apply zba | apply zbn | apply zbd | refine zbs ?_ GE321.out) | exact HB.out)))); (case aL => have := LMc63.out; omega); intro v337 w67 ho hb hg hat; rw [← Ny336.out] at ho; have n0_ := Zs.mk (blk_grown (g := gb321) (o := .cells #[.string (strOfNums t315), .int .u8 (rd l0 t318), .int .i64 (wrap64 (t331)), .string x322003_11, .slice Ao68 x322004_11.length co68] 24 (0, 0)) (by (with_reducible repeat (first | refine blk_drewN ?_ _ | refine blk_drew ?_ | refine blk_alloc ?_ _)); exact BK321.out) hg (Kd.R_away HO_6.out (fun _ hk => hk.2))); have n1_ := Zs.mk (hb); have n2_ := Zs.mk (ho); clear BK321; clear HB; clear HO_6; clear HO_322004; have BK321 := n0_; have HB := n1_; have HO338 := n2_; clear n0_ n1_ n2_; clear ho hb hg hat))
             go_roundg kj11
             case measure => have := HK1.out; have := HJ4.out; have := HJ11.out; omega
             case rel => exact ⟨(y336), (wrap64 (x9_11 + x12_11)), (by first | rfl | (simp; done) | (simp [*]; done)), H', ⟨by have := HK1.out; have := HJ4.out; have := HJ11.out; omega⟩, ⟨by (with_reducible repeat (first | apply Kd.R_alloc | apply Kd.R_drewN | apply Kd.R_drew)); exact Kd.R_mono HO338.out (fun _ hk => trivial)⟩, ⟨by repeat (first | (with_reducible first | exact HB.out | apply zba | apply zbn | apply zbd | refine zbs ?_ GE321.out) | exact HB.out)⟩⟩
            rw [if_neg c63] at H
            exact absurd H (by simp)
           replace c53 := Bool.eq_false_iff.mpr c53
           subst c53
           have H1 : (some (([] : List (S24)), false)) = some (r1, r2) := by rw [if_neg (show ¬ (false = true) by decide)] at H; exact H
           clear H
           have H := H1
           clear H1
           simp only [Option.some.injEq, Prod.mk.injEq] at H
           obtain ⟨rfl, rfl⟩ := H
           go_wp2_with (first | ((with_reducible refine gate_callee (f := 49) rfl ?_); refine goesL_ (some 95) rfl rfl Try.func49 (by kernel_rfl) rfl #[.slice (some ad320) l0.length c0, .int .i64 x9_11, .int .i64 x12_11] rfl (by (try simp only [List.map_toArray, List.map_cons, List.map_nil]); first | done | rfl | (simp only [List.length_drop, List.length_take]; rfl)) ?_; (with_reducible refine (zfN.calls kj11 _ _ l0 x9_11 x12_11 t331 false _ ?side1 ?side2 A52.out).mono ?_); (case side1 => repeat (first | exact (Kd.C_below HR0.out HB.out) | (with_reducible refine Kd.C_alloc ?_ _) | (with_reducible refine Kd.C_drewN ?_ _) | (with_reducible refine Kd.C_drew ?_))); (case side2 => exact HC0.out); rintro e w' ⟨rfl, ⟨nd, rfl⟩⟩; refine ⟨_, rfl, ?_⟩))
           all_goals first | (go_ret2; exact ⟨_, by first | rfl | (simp [zen, zes]; done) | (simp [zen, zes]; rfl) | (simp [*, zen, zes]; done) | (simp [*, zen, zes]; rfl), by first | exact Kd.R_nil _ _ _ _ _ | exact Kd.N_nil _ _ _ _ _ | exact Kd.V_nil _ _ _ _ _ | exact Kd.Q_nil _ _ _ _ _ | exact Kd.S_nil _ _ _ _ _, by repeat (first | (with_reducible first | exact HB.out | apply zba | apply zbn | apply zbd | refine zbs ?_ GE321.out) | exact HB.out)⟩) | (exfalso; simp_all; done)
          rw [if_neg c51] at H
          have c51b0 : decide (0 < x12_11) = false := decide_eq_false c51
          clear c51
          by_cases c69 : x6_1.length < 1954687338268
          ·
           rw [if_pos c69] at H
           have LMc69 := Zs.mk c69
           clear c69
           obtain ⟨y339, hy339⟩ : ∃ y_ : List (S24), y_ = (x6_1 ++ [(⟨(strOfNums t315), (rd l0 t318), 0, x322003_11, x322004_11⟩ : S24)]) := ⟨_, rfl⟩
           replace H : (zfR.l0 kj11 l0 a1 y339 x9_11) = some (r1, r2) := by first | (rw [hy339]; with_reducible exact H) | (have H2_ := (Option.bind_some _ _).symm.trans H; rw [hy339]; with_reducible exact H2_) | (have H2_ := (Option.bind_some _ _).symm.trans H; with_reducible exact H2_) | with_reducible exact H | (rw [hy339]; exact H) | exact H
           have Ny339 := Zs.mk hy339
           clear hy339
           have H' := Zs.mk H
           clear H
           have hcz70_0 : wc.cell? ⟨gb321, 0, none⟩ = some (.string (strOfNums t315)) := (zbc BK321.out 0).trans rfl
           have hcz70_1 : wc.cell? ⟨gb321, 1, none⟩ = some (.int .u8 (rd l0 t318)) := (zbc BK321.out 1).trans rfl
           have hcz70_2 : wc.cell? ⟨gb321, 2, none⟩ = some (.int .i64 0) := (zbc BK321.out 2).trans rfl
           have hcz70_3 : wc.cell? ⟨gb321, 3, none⟩ = some (.string x322003_11) := (zbc BK321.out 3).trans rfl
           have hcz70_4 : wc.cell? ⟨gb321, 4, none⟩ = some (u322004) := (zbc BK321.out 4).trans rfl
           have hfz70_0 := zbf BK321.out 0
           have hfz70_1 := zbf BK321.out 1
           have hfz70_2 := zbf BK321.out 2
           have hfz70_3 := zbf BK321.out 3
           have hfz70_4 := zbf BK321.out 4
           obtain ⟨Ao72, co72, eo72⟩ := Kd.R_slice HO_322004.out
           subst eo72
           go_wp2_with (first | ((with_reducible refine gate_builtin (b := .append) (xs := #[.tmp 113, .tmp 115]) rfl ?_); (try (refine gate_guard (by rfl) ?_; dsimp only)); at_builtin; refine Kd.R_append k24 (w0 := w) w.heap.size rfl (.tmp 113) (.tmp 115) 22 24 (.agg #[(.string ⟨#[]⟩), (.int .u8 0), (.int .i64 0), (.string ⟨#[]⟩), (.slice none 0 0)]) 72 rfl Try.underlying22 info24 rfl (by decide) (by omega) u6 x6_1 (⟨(strOfNums t315), (rd l0 t318), 0, x322003_11, x322004_11⟩ : S24) [.string (strOfNums t315), .int .u8 (rd l0 t318), .int .i64 0, .string x322003_11, .slice Ao72 x322004_11.length co72] (fun k_ => k_ ≠ gb321) (fun k_ => ((fun k_ => k_ ≠ gb321)) k_ ∧ some k_ ≠ (u6 : Value).ownBlock) rfl rfl ?aP (fun _ hk => hk) ?aF ?aO ?aB ?aS ?aL ?_; (case aP => exact k24_mkM _ _ _ (⟨(strOfNums t315), (rd l0 t318), 0, x322003_11, x322004_11⟩ : S24) (Kd.R_mono (HO_322004.out) (fun k_ hk => ⟨hk.2, hk.1⟩))); (case aB => exact (by repeat (first | (with_reducible first | exact HB.out | apply zba | apply zbn | apply zbd | refine zbs ?_ GE321.out) | exact HB.out))); (case aF => exact (fun k_ hk => Kd.freshB (g := gb321) (o := .cells #[.string (strOfNums t315), .int .u8 (rd l0 t318), .int .i64 0, .string x322003_11, .slice Ao72 x322004_11.length co72] 24 (0, 0)) (by (with_reducible repeat (first | refine blk_drewN ?_ _ | refine blk_drew ?_ | refine blk_alloc ?_ _)); exact BK321.out) k_ hk)); (case aO => exact (by (with_reducible repeat (first | apply Kd.R_alloc | apply Kd.R_drewN | apply Kd.R_drew)); exact Kd.R_mono HO_6.out (fun _ hk => hk.2))); (case aS => exact (zbz (by repeat (first | (with_reducible first | exact HB.out | apply zba | apply zbn | apply zbd | refine zbs ?_ GE321.out) | exact HB.out)))); (case aL => have := LMc69.out; omega); intro v340 w71 ho hb hg hat; rw [← Ny339.out] at ho; have n0_ := Zs.mk (blk_grown (g := gb321) (o := .cells #[.string (strOfNums t315), .int .u8 (rd l0 t318), .int .i64 0, .string x322003_11, .slice Ao72 x322004_11.length co72] 24 (0, 0)) (by (with_reducible repeat (first | refine blk_drewN ?_ _ | refine blk_drew ?_ | refine blk_alloc ?_ _)); exact BK321.out) hg (Kd.R_away HO_6.out (fun _ hk => hk.2))); have n1_ := Zs.mk (hb); have n2_ := Zs.mk (ho); clear BK321; clear HB; clear HO_6; clear HO_322004; have BK321 := n0_; have HB := n1_; have HO341 := n2_; clear n0_ n1_ n2_; clear ho hb hg hat))
           go_roundg kj11
           case measure => have := HK1.out; have := HJ4.out; have := HJ11.out; omega
           case rel => exact ⟨(y339), (x9_11), (by first | rfl | (simp; done) | (simp [*]; done)), H', ⟨by have := HK1.out; have := HJ4.out; have := HJ11.out; omega⟩, ⟨by (with_reducible repeat (first | apply Kd.R_alloc | apply Kd.R_drewN | apply Kd.R_drew)); exact Kd.R_mono HO341.out (fun _ hk => trivial)⟩, ⟨by repeat (first | (with_reducible first | exact HB.out | apply zba | apply zbn | apply zbd | refine zbs ?_ GE321.out) | exact HB.out)⟩⟩
          rw [if_neg c69] at H
          exact absurd H (by simp)
       rw [if_neg c11] at H
       exact absurd H (by simp)
      rw [if_neg c10] at H
      exact absurd H (by simp)
   rw [if_neg c3] at H
   have c3b0 : decide (x7_1 < (l0.length : Int)) = false := decide_eq_false c3
   clear c3
   simp only [Option.some.injEq, Prod.mk.injEq] at H
   obtain ⟨rfl, rfl⟩ := H
   go_wp2
   all_goals first | (go_ret2; exact ⟨_, by first | rfl | (simp [zen, zes]; done) | (simp [zen, zes]; rfl) | (simp [*, zen, zes]; done) | (simp [*, zen, zes]; rfl), by (with_reducible repeat (first | apply Kd.R_alloc | apply Kd.R_drewN | apply Kd.R_drew)); exact HO_6.out, by repeat (first | (with_reducible first | exact HB.out | apply zba | apply zbn | apply zbd) | exact HB.out)⟩) | (exfalso; simp_all; done)

end Go.Proofs.Ytfhaffpegncdiaa.PT
