/- What functions of the given program come to, and that they do: written out of the translation by a program of this session; Lean checks it. -/
import Derived.Test.YtlhcjgmdcnmnnaaPB1x0
import Derived.Test.YtlhcjgmdcnmnnaaPB1x1
import Derived.Test.YtlhcjgmdcnmnnaaPB1x2
import Derived.Test.YtlhcjgmdcnmnnaaPB1x4
namespace Go.Proofs.Ytlhcjgmdcnmnnaa.PB1
open Go.RowKit Go.Proofs.YtlhcjgmdcnmnnaaW.PrintWords Go.Proofs.YtlhcjgmdcnmnnaaW.PrintLast Go.Proofs.YtlhcjgmdcnmnnaaW.PrintMore
attribute [local go_sem] max2_int min2_int max_two min_two max_three min_three max_four min_four   -- for this text's walks alone
set_option linter.unusedVariables false
set_option linter.unusedSimpArgs false

theorem shl_and_close {a n m j : Int} (hm : IntKind.u64.wrap (wrap64 (8 * n)) = m) (hj : shl .u64 1 m = j) (h0 : 0 ≤ n) (h8 : n < 8) :
    Value.int .u64 (Go.bits .and .u64 a (IntKind.u64.wrap (IntKind.u64.wrap (2 ^ (8 * n).toNat) - 1))) = Value.int .u64 (Go.bits .and .u64 a (IntKind.u64.wrap (j - 1))) := by
  have e1 : wrap64 (8 * n) = 8 * n := by unfold wrap64; omega
  have e2 : IntKind.u64.wrap (8 * n) = 8 * n := IntWalk.u64_in _ (by omega)
  rw [e1, e2] at hm
  subst hm
  rw [← hj]
  unfold shl
  rw [show min (8 * n).toNat IntKind.u64.bits = (8 * n).toNat by simp only [IntKind.bits]; omega, Int.one_mul]

/-! ### waybilllaw1_OctsBack: function 9 -/
mutual
def waybilllaw1_OctsBack.j0 : Nat → List Int → Int → Int → ByteArray → List Int → Bool → Option (Bool)
  | 0, _, _, _, _, _, _ => none
  | k + 1, x0, x1, x2, x3, x4, x25 => if x25 = true then ((waybilllaw1_awake.f k).bind fun t258 => (some t258)) else ((octs_Int.f k x0 x1 x2).bind fun t259 => ((octs_Short.f k t259 x3).bind fun bt262 => ((octs_Long.f k bt262.1 x4).bind fun t266 => (if (t259.length : Int) = (wrap64 ((x0.length : Int) + (mn (mx x1 1) 8))) then (if (bt262.2 != (decide ((x3.size : Int) ≤ 255))) = true then (waybilllaw1_OctsBack.j1 k x0 x1 x2 x3 x4 (mn (mx x1 1) 8) bt262.2 t266 true) else (if (t266.length : Int) = (wrap64 ((wrap64 ((bt262.1.length : Int) + 4)) + (x4.length : Int))) then (if bt262.2 = true then (waybilllaw1_OctsBack.j1 k x0 x1 x2 x3 x4 (mn (mx x1 1) 8) bt262.2 t266 false) else (waybilllaw1_OctsBack.j1 k x0 x1 x2 x3 x4 (mn (mx x1 1) 8) bt262.2 t266 ((bt262.1.length : Int) != (t259.length : Int)))) else (waybilllaw1_OctsBack.j1 k x0 x1 x2 x3 x4 (mn (mx x1 1) 8) bt262.2 t266 true))) else (waybilllaw1_OctsBack.j1 k x0 x1 x2 x3 x4 (mn (mx x1 1) 8) bt262.2 t266 true)))))
def waybilllaw1_OctsBack.j1 : Nat → List Int → Int → Int → ByteArray → List Int → Int → Bool → List Int → Bool → Option (Bool)
  | 0, _, _, _, _, _, _, _, _, _ => none
  | k + 1, x0, x1, x2, x3, x4, x11, x14, x15, x78 => if x78 = true then (none) else (if 0 ≤ (x0.length : Int) then (if (x0.length : Int) ≤ (x15.length : Int) then ((octs_From.f (x15.drop ((x0.length : Int) : Int).toNat)).bind fun bt273 => ((waybilllaw1_SameBytes.f (x15.take ((x0.length : Int) : Int).toNat) x0).bind fun t280 => (if t280 = true then (if x11 < 8 then (if 0 ≤ (IntKind.u64.wrap (wrap64 (8 * x11))) then (waybilllaw1_OctsBack.j2 k x1 x3 x4 x14 (Go.bits .and .u64 x2 (IntKind.u64.wrap ((shl .u64 1 (IntKind.u64.wrap (wrap64 (8 * x11)))) - 1))) bt273.1 bt273.2) else (none)) else (waybilllaw1_OctsBack.j2 k x1 x3 x4 x14 x2 bt273.1 bt273.2)) else (none)))) else (none)) else (none))
def waybilllaw1_OctsBack.j2 : Nat → Int → ByteArray → List Int → Bool → Int → List Int → Bool → Option (Bool)
  | 0, _, _, _, _, _, _, _ => none
  | k + 1, x1, x3, x4, x14, x17, x276000, x276001 => (octs_In_Int.f k x276000 x276001 x1).bind fun bt281 => (if bt281.1 = x17 then (if x14 = true then ((octs_In_Short.f k bt281.2.1 bt281.2.2).bind fun bt284 => (if bt284.1.toList = x3.toList then ((octs_In_Long.f k bt284.2.1 bt284.2.2).bind fun bt287 => ((waybilllaw1_SameBytes.f bt287.1 x4).bind fun t292 => (waybilllaw1_OctsBack.j3 k (!t292) bt287.2.1 bt287.2.2))) else (waybilllaw1_OctsBack.j3 k true bt284.2.1 bt284.2.2))) else ((octs_In_Long.f k bt281.2.1 bt281.2.2).bind fun bt293 => ((waybilllaw1_SameBytes.f bt293.1 x4).bind fun t298 => (waybilllaw1_OctsBack.j3 k (!t298) bt293.2.1 bt293.2.2)))) else (waybilllaw1_OctsBack.j3 k true bt281.2.1 bt281.2.2))
def waybilllaw1_OctsBack.j3 : Nat → Bool → List Int → Bool → Option (Bool)
  | 0, _, _, _ => none
  | k + 1, x125, x276000, x276001 => if x125 = true then (none) else ((octs_In_Ok.f x276000 x276001).bind fun bt299 => (if bt299.1 = true then ((octs_In_Left.f bt299.2.1 bt299.2.2).bind fun bt302 => (if bt302.1 = 0 then ((octs_In_Rest.f bt302.2.1 bt302.2.2).bind fun bt305 => (if (bt305.1.length : Int) = 0 then ((octs_In_Int.f k bt305.2.1 bt305.2.2 1).bind fun bt310 => (if bt310.1 = 0 then ((octs_In_Ok.f bt310.2.1 bt310.2.2).bind fun bt313 => (if bt313.1 = true then (none) else ((waybilllaw1_awake.f k).bind fun t316 => (some t316)))) else (none))) else (none))) else (none))) else (none)))
end
def waybilllaw1_OctsBack.f (k : Nat) (l0 : List Int) (a1 : Int) (a2 : Int) (a3 : ByteArray) (l4 : List Int) : Option (Bool) := if (l0.length : Int) > 300 then (waybilllaw1_OctsBack.j0 k l0 a1 a2 a3 l4 true) else (waybilllaw1_OctsBack.j0 k l0 a1 a2 a3 l4 (decide ((l4.length : Int) > 300)))
theorem waybilllaw1_OctsBack.mono_l : ∀ k, (∀ y0 y1 y2 y3 y4 y5, LeO (waybilllaw1_OctsBack.j0 k y0 y1 y2 y3 y4 y5) (waybilllaw1_OctsBack.j0 (k + 1) y0 y1 y2 y3 y4 y5)) ∧ (∀ y0 y1 y2 y3 y4 y5 y6 y7 y8, LeO (waybilllaw1_OctsBack.j1 k y0 y1 y2 y3 y4 y5 y6 y7 y8) (waybilllaw1_OctsBack.j1 (k + 1) y0 y1 y2 y3 y4 y5 y6 y7 y8)) ∧ (∀ y0 y1 y2 y3 y4 y5 y6, LeO (waybilllaw1_OctsBack.j2 k y0 y1 y2 y3 y4 y5 y6) (waybilllaw1_OctsBack.j2 (k + 1) y0 y1 y2 y3 y4 y5 y6)) ∧ (∀ y0 y1 y2, LeO (waybilllaw1_OctsBack.j3 k y0 y1 y2) (waybilllaw1_OctsBack.j3 (k + 1) y0 y1 y2))
  | 0 => ⟨fun _ _ _ _ _ _ r h => by simp [waybilllaw1_OctsBack.j0] at h, fun _ _ _ _ _ _ _ _ _ r h => by simp [waybilllaw1_OctsBack.j1] at h, fun _ _ _ _ _ _ _ r h => by simp [waybilllaw1_OctsBack.j2] at h, fun _ _ _ r h => by simp [waybilllaw1_OctsBack.j3] at h⟩
  | k + 1 => by
    obtain ⟨ih0, ih1, ih2, ih3⟩ := waybilllaw1_OctsBack.mono_l k
    refine ⟨?_, ?_, ?_, ?_⟩
    · intro y0 y1 y2 y3 y4 y5
      unfold waybilllaw1_OctsBack.j0
      repeat' first
      | (with_reducible exact ih0 _ _ _ _ _ _)
      | (with_reducible exact ih1 _ _ _ _ _ _ _ _ _)
      | (with_reducible exact ih2 _ _ _ _ _ _ _)
      | (with_reducible exact ih3 _ _ _)
      | (with_reducible exact octs_In_Int.mono _ _ _ _)
      | (with_reducible exact octs_In_Long.mono _ _ _)
      | (with_reducible exact octs_In_Short.mono _ _ _)
      | (with_reducible exact octs_Int.mono _ _ _ _)
      | (with_reducible exact octs_Long.mono _ _ _)
      | (with_reducible exact octs_Short.mono _ _ _)
      | (with_reducible exact waybilllaw1_awake.mono _)
      | (with_reducible exact LeO.refl _)
      | (with_reducible exact LeO.none _)
      | (with_reducible refine LeO.ite ?_ ?_)
      | (with_reducible refine LeO.bind ?_ (fun _ => ?_))
      | exact ih0 _ _ _ _ _ _
      | exact ih1 _ _ _ _ _ _ _ _ _
      | exact ih2 _ _ _ _ _ _ _
      | exact ih3 _ _ _
      | exact octs_In_Int.mono _ _ _ _
      | exact octs_In_Long.mono _ _ _
      | exact octs_In_Short.mono _ _ _
      | exact octs_Int.mono _ _ _ _
      | exact octs_Long.mono _ _ _
      | exact octs_Short.mono _ _ _
      | exact waybilllaw1_awake.mono _
      | exact LeO.none _
      | refine LeO.ite ?_ ?_
      | refine LeO.bind ?_ (fun _ => ?_)
    · intro y0 y1 y2 y3 y4 y5 y6 y7 y8
      unfold waybilllaw1_OctsBack.j1
      repeat' first
      | (with_reducible exact ih0 _ _ _ _ _ _)
      | (with_reducible exact ih1 _ _ _ _ _ _ _ _ _)
      | (with_reducible exact ih2 _ _ _ _ _ _ _)
      | (with_reducible exact ih3 _ _ _)
      | (with_reducible exact octs_In_Int.mono _ _ _ _)
      | (with_reducible exact octs_In_Long.mono _ _ _)
      | (with_reducible exact octs_In_Short.mono _ _ _)
      | (with_reducible exact octs_Int.mono _ _ _ _)
      | (with_reducible exact octs_Long.mono _ _ _)
      | (with_reducible exact octs_Short.mono _ _ _)
      | (with_reducible exact waybilllaw1_awake.mono _)
      | (with_reducible exact LeO.refl _)
      | (with_reducible exact LeO.none _)
      | (with_reducible refine LeO.ite ?_ ?_)
      | (with_reducible refine LeO.bind ?_ (fun _ => ?_))
      | exact ih0 _ _ _ _ _ _
      | exact ih1 _ _ _ _ _ _ _ _ _
      | exact ih2 _ _ _ _ _ _ _
      | exact ih3 _ _ _
      | exact octs_In_Int.mono _ _ _ _
      | exact octs_In_Long.mono _ _ _
      | exact octs_In_Short.mono _ _ _
      | exact octs_Int.mono _ _ _ _
      | exact octs_Long.mono _ _ _
      | exact octs_Short.mono _ _ _
      | exact waybilllaw1_awake.mono _
      | exact LeO.none _
      | refine LeO.ite ?_ ?_
      | refine LeO.bind ?_ (fun _ => ?_)
    · intro y0 y1 y2 y3 y4 y5 y6
      unfold waybilllaw1_OctsBack.j2
      repeat' first
      | (with_reducible exact ih0 _ _ _ _ _ _)
      | (with_reducible exact ih1 _ _ _ _ _ _ _ _ _)
      | (with_reducible exact ih2 _ _ _ _ _ _ _)
      | (with_reducible exact ih3 _ _ _)
      | (with_reducible exact octs_In_Int.mono _ _ _ _)
      | (with_reducible exact octs_In_Long.mono _ _ _)
      | (with_reducible exact octs_In_Short.mono _ _ _)
      | (with_reducible exact octs_Int.mono _ _ _ _)
      | (with_reducible exact octs_Long.mono _ _ _)
      | (with_reducible exact octs_Short.mono _ _ _)
      | (with_reducible exact waybilllaw1_awake.mono _)
      | (with_reducible exact LeO.refl _)
      | (with_reducible exact LeO.none _)
      | (with_reducible refine LeO.ite ?_ ?_)
      | (with_reducible refine LeO.bind ?_ (fun _ => ?_))
      | exact ih0 _ _ _ _ _ _
      | exact ih1 _ _ _ _ _ _ _ _ _
      | exact ih2 _ _ _ _ _ _ _
      | exact ih3 _ _ _
      | exact octs_In_Int.mono _ _ _ _
      | exact octs_In_Long.mono _ _ _
      | exact octs_In_Short.mono _ _ _
      | exact octs_Int.mono _ _ _ _
      | exact octs_Long.mono _ _ _
      | exact octs_Short.mono _ _ _
      | exact waybilllaw1_awake.mono _
      | exact LeO.none _
      | refine LeO.ite ?_ ?_
      | refine LeO.bind ?_ (fun _ => ?_)
    · intro y0 y1 y2
      unfold waybilllaw1_OctsBack.j3
      repeat' first
      | (with_reducible exact ih0 _ _ _ _ _ _)
      | (with_reducible exact ih1 _ _ _ _ _ _ _ _ _)
      | (with_reducible exact ih2 _ _ _ _ _ _ _)
      | (with_reducible exact ih3 _ _ _)
      | (with_reducible exact octs_In_Int.mono _ _ _ _)
      | (with_reducible exact octs_In_Long.mono _ _ _)
      | (with_reducible exact octs_In_Short.mono _ _ _)
      | (with_reducible exact octs_Int.mono _ _ _ _)
      | (with_reducible exact octs_Long.mono _ _ _)
      | (with_reducible exact octs_Short.mono _ _ _)
      | (with_reducible exact waybilllaw1_awake.mono _)
      | (with_reducible exact LeO.refl _)
      | (with_reducible exact LeO.none _)
      | (with_reducible refine LeO.ite ?_ ?_)
      | (with_reducible refine LeO.bind ?_ (fun _ => ?_))
      | exact ih0 _ _ _ _ _ _
      | exact ih1 _ _ _ _ _ _ _ _ _
      | exact ih2 _ _ _ _ _ _ _
      | exact ih3 _ _ _
      | exact octs_In_Int.mono _ _ _ _
      | exact octs_In_Long.mono _ _ _
      | exact octs_In_Short.mono _ _ _
      | exact octs_Int.mono _ _ _ _
      | exact octs_Long.mono _ _ _
      | exact octs_Short.mono _ _ _
      | exact waybilllaw1_awake.mono _
      | exact LeO.none _
      | refine LeO.ite ?_ ?_
      | refine LeO.bind ?_ (fun _ => ?_)
theorem waybilllaw1_OctsBack.mono : ∀ a0 a1 a2 a3 a4 k, LeO (waybilllaw1_OctsBack.f k a0 a1 a2 a3 a4) (waybilllaw1_OctsBack.f (k + 1) a0 a1 a2 a3 a4) := by
  intro a0 a1 a2 a3 a4 k
  obtain ⟨ih0, ih1, ih2, ih3⟩ := waybilllaw1_OctsBack.mono_l k
  unfold waybilllaw1_OctsBack.f
  repeat' first
      | (with_reducible exact ih0 _ _ _ _ _ _)
      | (with_reducible exact ih1 _ _ _ _ _ _ _ _ _)
      | (with_reducible exact ih2 _ _ _ _ _ _ _)
      | (with_reducible exact ih3 _ _ _)
      | (with_reducible exact octs_In_Int.mono _ _ _ _)
      | (with_reducible exact octs_In_Long.mono _ _ _)
      | (with_reducible exact octs_In_Short.mono _ _ _)
      | (with_reducible exact octs_Int.mono _ _ _ _)
      | (with_reducible exact octs_Long.mono _ _ _)
      | (with_reducible exact octs_Short.mono _ _ _)
      | (with_reducible exact waybilllaw1_awake.mono _)
      | (with_reducible exact LeO.refl _)
      | (with_reducible exact LeO.none _)
      | (with_reducible refine LeO.ite ?_ ?_)
      | (with_reducible refine LeO.bind ?_ (fun _ => ?_))
      | exact ih0 _ _ _ _ _ _
      | exact ih1 _ _ _ _ _ _ _ _ _
      | exact ih2 _ _ _ _ _ _ _
      | exact ih3 _ _ _
      | exact octs_In_Int.mono _ _ _ _
      | exact octs_In_Long.mono _ _ _
      | exact octs_In_Short.mono _ _ _
      | exact octs_Int.mono _ _ _ _
      | exact octs_Long.mono _ _ _
      | exact octs_Short.mono _ _ _
      | exact waybilllaw1_awake.mono _
      | exact LeO.none _
      | refine LeO.ite ?_ ?_
      | refine LeO.bind ?_ (fun _ => ?_)
set_option maxHeartbeats 8000000 in
set_option maxRecDepth 100000 in
theorem waybilllaw1_OctsBack.calls (k : Nat) (A0 : Option Addr) (c0 : Nat) (l0 : List Int) (a1 : Int) (a2 : Int) (a3 : ByteArray) (A4 : Option Addr) (c4 : Nat) (l4 : List Int) (r : Bool) (w : World) (hr0 : Kd.C (Kd.int .u8) w A0 l0.length l0) (hc0 : l0.length ≤ c0) (hr4 : Kd.C (Kd.int .u8) w A4 l4.length l4) (hc4 : l4.length ≤ c4) (h : waybilllaw1_OctsBack.f k l0 a1 a2 a3 l4 = some r) :
    Calls Try.prog 9 #[.slice A0 l0.length c0, .int .i64 a1, .int .u64 a2, .string a3, .slice A4 l4.length c4] w fun e w' => e = .returned (.bool r) ∧ Below w.heap.size w w' := by
  have hpe45 := fun (W : World) (p : Option Addr) => run_eql_pointer_nil (P := Try.prog) (w := W) 45 p (by kernel_rfl)
  have hpn45 := fun (W : World) (p : Option Addr) => run_neq_pointer_nil (P := Try.prog) (w := W) 45 p (by kernel_rfl)
  have HR0 := Aside0.mk hr0
  have HC0 := Aside0.mk hc0
  clear hr0 hc0
  have HR4 := Aside0.mk hr4
  have HC4 := Aside0.mk hc4
  clear hr4 hc4
  have HB := Aside0.mk (Below.refl w.heap.size w)
  have H : (if (l0.length : Int) > 300 then (waybilllaw1_OctsBack.j0 k l0 a1 a2 a3 l4 true) else (waybilllaw1_OctsBack.j0 k l0 a1 a2 a3 l4 (decide ((l4.length : Int) > 300)))) = some r := h
  clear h
  have HC6 := Aside0.mk H
  clear H
  go_enter Try.func9, Try.ntmps9
  go_upto_region 1 with (fail)
  go_cut [25] (fun v25 wc => ∃ (kq : Nat) (x25_5 : Bool), v25 = .bool x25_5 ∧ Aside0 (waybilllaw1_OctsBack.j0 kq l0 a1 a2 a3 l4 x25_5 = some r) ∧ Aside0 (kq ≤ k) ∧ Aside0 (Below w.heap.size w wc))
  case first =>
    have H := HC6.out
    clear HC6
    by_cases c7 : (l0.length : Int) > 300
    · rw [if_pos c7] at H
      have c7b0 : decide (300 < (l0.length : Int)) = true := decide_eq_true c7
      have c7b1 : decide (300 < l0.length) = true := decide_eq_true (by omega)
      clear c7
      (first | rw [c7b0] | (simp only [i64_w, i32_w]; rw [c7b0]) | skip)
      have H' := Aside0.mk H
      clear H
      go_wp2
      go_meet
      case rel => exact ⟨_, (true), (by first | rfl | (simp; done) | (simp [*]; done)), H', ⟨by first | omega | exact Nat.le_refl _⟩, ⟨by repeat (first | (with_reducible first | exact HB.out | apply below_alloc | apply pw_below_drewN | apply below_drew1) | exact HB.out)⟩⟩
    · rw [if_neg c7] at H
      have c7b0 : decide (300 < (l0.length : Int)) = false := decide_eq_false c7
      have c7b1 : decide (300 < l0.length) = false := decide_eq_false (by omega)
      clear c7
      (first | rw [c7b0] | (simp only [i64_w, i32_w]; rw [c7b0]) | skip)
      have H' := Aside0.mk H
      clear H
      go_wp2
      go_meet
      case rel => exact ⟨_, (decide ((l4.length : Int) > 300)), (by first | rfl | (simp; done) | (simp [*]; done)), H', ⟨by first | omega | exact Nat.le_refl _⟩, ⟨by repeat (first | (with_reducible first | exact HB.out | apply below_alloc | apply pw_below_drewN | apply below_drew1) | exact HB.out)⟩⟩
  case rest =>
    clear HC6
    try clear p2
    try clear c4
    try clear c7
    try clear c7b0
    try clear c7b1
    obtain ⟨kq, x25_5, rfl, HA, HJ5, HB⟩ := hcut
    cases kq with
    | zero => exact absurd HA.out (by simp [waybilllaw1_OctsBack.j0])
    | succ kj5 =>
      have H := HA.out
      clear HA
      simp only [waybilllaw1_OctsBack.j0] at H
      by_cases c8 : x25_5 = true
      · subst c8
        have H1 : ((waybilllaw1_awake.f kj5).bind fun t258 => (some t258)) = some r := by rw [if_pos rfl] at H; exact H
        clear H
        have H := H1
        clear H1
        replace H := Option.bind_eq_some_iff.mp H
        obtain ⟨t258, A90, H⟩ := H
        replace H : (some t258) = some r := H
        have A9 := Aside0.mk A90
        clear A90
        obtain rfl := Option.some.inj H
        go_wp2_with (first | ((with_reducible refine gate_callee (f := 28) rfl ?_); refine goesL_ (some 26) rfl rfl Try.func28 (by kernel_rfl) rfl #[] rfl (by (try simp only [List.map_toArray, List.map_cons, List.map_nil]); first | done | rfl | (simp only [List.length_drop, List.length_take]; rfl)) ?_; (with_reducible refine (waybilllaw1_awake.calls kj5  t258 _ A9.out).mono ?_); rintro e w10 ⟨rfl, hb⟩; refine ⟨_, rfl, ?_⟩; have n0_ := Aside0.mk (below_step (by repeat (first | (with_reducible first | exact HB.out | apply below_alloc | apply pw_below_drewN | apply below_drew1) | exact HB.out)) hb); clear HB; have HB := n0_; clear n0_; (try clear hb); (try clear hb2); (try clear hk); (try clear hi); (try clear hge)))
        all_goals first | (go_ret; exact ⟨by first | rfl | (simp [errW_none, errW_some] <;> rfl) | (simp [*, errW_none, errW_some] <;> rfl), by repeat (first | (with_reducible first | exact HB.out | apply below_alloc | apply pw_below_drewN | apply below_drew1) | exact HB.out)⟩) | (exfalso; simp_all; done)
      · replace c8 := Bool.eq_false_iff.mpr c8
        subst c8
        have H1 : ((octs_Int.f kj5 l0 a1 a2).bind fun t259 => ((octs_Short.f kj5 t259 a3).bind fun bt262 => ((octs_Long.f kj5 bt262.1 l4).bind fun t266 => (if (t259.length : Int) = (wrap64 ((l0.length : Int) + (mn (mx a1 1) 8))) then (if (bt262.2 != (decide ((a3.size : Int) ≤ 255))) = true then (waybilllaw1_OctsBack.j1 kj5 l0 a1 a2 a3 l4 (mn (mx a1 1) 8) bt262.2 t266 true) else (if (t266.length : Int) = (wrap64 ((wrap64 ((bt262.1.length : Int) + 4)) + (l4.length : Int))) then (if bt262.2 = true then (waybilllaw1_OctsBack.j1 kj5 l0 a1 a2 a3 l4 (mn (mx a1 1) 8) bt262.2 t266 false) else (waybilllaw1_OctsBack.j1 kj5 l0 a1 a2 a3 l4 (mn (mx a1 1) 8) bt262.2 t266 ((bt262.1.length : Int) != (t259.length : Int)))) else (waybilllaw1_OctsBack.j1 kj5 l0 a1 a2 a3 l4 (mn (mx a1 1) 8) bt262.2 t266 true))) else (waybilllaw1_OctsBack.j1 kj5 l0 a1 a2 a3 l4 (mn (mx a1 1) 8) bt262.2 t266 true))))) = some r := by rw [if_neg (show ¬ (false = true) by decide)] at H; exact H
        clear H
        have H := H1
        clear H1
        obtain ⟨ji11, hji11⟩ : ∃ j_ : Int, (mx a1 1) = j_ := ⟨_, rfl⟩
        replace H : ((octs_Int.f kj5 l0 a1 a2).bind fun t259 => ((octs_Short.f kj5 t259 a3).bind fun bt262 => ((octs_Long.f kj5 bt262.1 l4).bind fun t266 => (if (t259.length : Int) = (wrap64 ((l0.length : Int) + (mn (ji11) 8))) then (if (bt262.2 != (decide ((a3.size : Int) ≤ 255))) = true then (waybilllaw1_OctsBack.j1 kj5 l0 a1 a2 a3 l4 (mn (ji11) 8) bt262.2 t266 true) else (if (t266.length : Int) = (wrap64 ((wrap64 ((bt262.1.length : Int) + 4)) + (l4.length : Int))) then (if bt262.2 = true then (waybilllaw1_OctsBack.j1 kj5 l0 a1 a2 a3 l4 (mn (ji11) 8) bt262.2 t266 false) else (waybilllaw1_OctsBack.j1 kj5 l0 a1 a2 a3 l4 (mn (ji11) 8) bt262.2 t266 ((bt262.1.length : Int) != (t259.length : Int)))) else (waybilllaw1_OctsBack.j1 kj5 l0 a1 a2 a3 l4 (mn (ji11) 8) bt262.2 t266 true))) else (waybilllaw1_OctsBack.j1 kj5 l0 a1 a2 a3 l4 (mn (ji11) 8) bt262.2 t266 true))))) = some r := by first | (rw [hji11] at H; exact H) | (simp only [hji11] at H ⊢; exact H)
        have hji11_ : (if a1 < 1 then 1 else a1) = ji11 := hji11
        obtain ⟨ji12, hji12⟩ : ∃ j_ : Int, (mn (ji11) 8) = j_ := ⟨_, rfl⟩
        replace H : ((octs_Int.f kj5 l0 a1 a2).bind fun t259 => ((octs_Short.f kj5 t259 a3).bind fun bt262 => ((octs_Long.f kj5 bt262.1 l4).bind fun t266 => (if (t259.length : Int) = (wrap64 ((l0.length : Int) + (ji12))) then (if (bt262.2 != (decide ((a3.size : Int) ≤ 255))) = true then (waybilllaw1_OctsBack.j1 kj5 l0 a1 a2 a3 l4 ji12 bt262.2 t266 true) else (if (t266.length : Int) = (wrap64 ((wrap64 ((bt262.1.length : Int) + 4)) + (l4.length : Int))) then (if bt262.2 = true then (waybilllaw1_OctsBack.j1 kj5 l0 a1 a2 a3 l4 ji12 bt262.2 t266 false) else (waybilllaw1_OctsBack.j1 kj5 l0 a1 a2 a3 l4 ji12 bt262.2 t266 ((bt262.1.length : Int) != (t259.length : Int)))) else (waybilllaw1_OctsBack.j1 kj5 l0 a1 a2 a3 l4 ji12 bt262.2 t266 true))) else (waybilllaw1_OctsBack.j1 kj5 l0 a1 a2 a3 l4 ji12 bt262.2 t266 true))))) = some r := by first | (rw [hji12] at H; exact H) | (simp only [hji12] at H ⊢; exact H)
        have hji12_ : (if 8 < (ji11) then 8 else (ji11)) = ji12 := hji12
        replace H := Option.bind_eq_some_iff.mp H
        obtain ⟨t259, A130, H⟩ := H
        replace H : ((octs_Short.f kj5 t259 a3).bind fun bt262 => ((octs_Long.f kj5 bt262.1 l4).bind fun t266 => (if (t259.length : Int) = (wrap64 ((l0.length : Int) + (ji12))) then (if (bt262.2 != (decide ((a3.size : Int) ≤ 255))) = true then (waybilllaw1_OctsBack.j1 kj5 l0 a1 a2 a3 l4 ji12 bt262.2 t266 true) else (if (t266.length : Int) = (wrap64 ((wrap64 ((bt262.1.length : Int) + 4)) + (l4.length : Int))) then (if bt262.2 = true then (waybilllaw1_OctsBack.j1 kj5 l0 a1 a2 a3 l4 ji12 bt262.2 t266 false) else (waybilllaw1_OctsBack.j1 kj5 l0 a1 a2 a3 l4 ji12 bt262.2 t266 ((bt262.1.length : Int) != (t259.length : Int)))) else (waybilllaw1_OctsBack.j1 kj5 l0 a1 a2 a3 l4 ji12 bt262.2 t266 true))) else (waybilllaw1_OctsBack.j1 kj5 l0 a1 a2 a3 l4 ji12 bt262.2 t266 true)))) = some r := H
        have A13 := Aside0.mk A130
        clear A130
        replace H := Option.bind_eq_some_iff.mp H
        obtain ⟨⟨t262, t263⟩, A140, H⟩ := H
        replace H : ((octs_Long.f kj5 t262 l4).bind fun t266 => (if (t259.length : Int) = (wrap64 ((l0.length : Int) + (ji12))) then (if (t263 != (decide ((a3.size : Int) ≤ 255))) = true then (waybilllaw1_OctsBack.j1 kj5 l0 a1 a2 a3 l4 ji12 t263 t266 true) else (if (t266.length : Int) = (wrap64 ((wrap64 ((t262.length : Int) + 4)) + (l4.length : Int))) then (if t263 = true then (waybilllaw1_OctsBack.j1 kj5 l0 a1 a2 a3 l4 ji12 t263 t266 false) else (waybilllaw1_OctsBack.j1 kj5 l0 a1 a2 a3 l4 ji12 t263 t266 ((t262.length : Int) != (t259.length : Int)))) else (waybilllaw1_OctsBack.j1 kj5 l0 a1 a2 a3 l4 ji12 t263 t266 true))) else (waybilllaw1_OctsBack.j1 kj5 l0 a1 a2 a3 l4 ji12 t263 t266 true))) = some r := H
        have A14 := Aside0.mk A140
        clear A140
        replace H := Option.bind_eq_some_iff.mp H
        obtain ⟨t266, A150, H⟩ := H
        replace H : (if (t259.length : Int) = (wrap64 ((l0.length : Int) + (ji12))) then (if (t263 != (decide ((a3.size : Int) ≤ 255))) = true then (waybilllaw1_OctsBack.j1 kj5 l0 a1 a2 a3 l4 ji12 t263 t266 true) else (if (t266.length : Int) = (wrap64 ((wrap64 ((t262.length : Int) + 4)) + (l4.length : Int))) then (if t263 = true then (waybilllaw1_OctsBack.j1 kj5 l0 a1 a2 a3 l4 ji12 t263 t266 false) else (waybilllaw1_OctsBack.j1 kj5 l0 a1 a2 a3 l4 ji12 t263 t266 ((t262.length : Int) != (t259.length : Int)))) else (waybilllaw1_OctsBack.j1 kj5 l0 a1 a2 a3 l4 ji12 t263 t266 true))) else (waybilllaw1_OctsBack.j1 kj5 l0 a1 a2 a3 l4 ji12 t263 t266 true)) = some r := H
        have A15 := Aside0.mk A150
        clear A150
        have HC16 := Aside0.mk H
        clear H
        go_upto_region 7 with (first | ((with_reducible refine gate_callee (f := 24) rfl ?_); refine goesL_ (some 33) rfl rfl Try.func24 (by kernel_rfl) rfl #[.slice A0 l0.length c0, .int .i64 a1, .int .u64 a2] rfl (by (try simp only [List.map_toArray, List.map_cons, List.map_nil]); first | done | rfl | (simp only [List.length_drop, List.length_take]; rfl)) ?_; (with_reducible refine (octs_Int.calls kj5 _ _ l0 a1 a2 t259 _ ?side1 ?side2 A13.out).mono ?_); (case side1 => repeat (first | exact (Kd.C_below HR0.out HB.out) | (with_reducible refine Kd.C_alloc ?_ _) | (with_reducible refine Kd.C_drewN ?_ _) | (with_reducible refine Kd.C_drew ?_))); (case side2 => exact HC0.out); rintro e w17 ⟨v260, rfl, ho0, hb⟩; refine ⟨_, rfl, ?_⟩; have n0_ := Aside0.mk (Kd.R_lower ho0 (below_size (by repeat (first | (with_reducible first | exact HB.out | apply below_alloc | apply pw_below_drewN | apply below_drew1) | exact HB.out)))); have n1_ := Aside0.mk (below_step (by repeat (first | (with_reducible first | exact HB.out | apply below_alloc | apply pw_below_drewN | apply below_drew1) | exact HB.out)) hb); clear HB; have HO261 := n0_; have HB := n1_; clear n0_ n1_; (try clear hb); (try clear hb2); (try clear hk); (try clear hi); (try clear hge); (try clear ho0); obtain ⟨Ao18, co18, eo18⟩ := Kd.R_slice HO261.out; subst eo18) | ((with_reducible refine gate_callee (f := 36) rfl ?_); refine goesL_ (some 37) rfl rfl Try.func36 (by kernel_rfl) rfl #[.slice Ao18 t259.length co18, .string a3] rfl (by (try simp only [List.map_toArray, List.map_cons, List.map_nil]); first | done | rfl | (simp only [List.length_drop, List.length_take]; rfl)) ?_; (with_reducible refine (octs_Short.calls kj5 _ _ t259 a3 t262 t263 _ ?side1 ?side2 A14.out).mono ?_); (case side1 => repeat (first | exact (Kd.R_reads' HO261.out).2.2 | (with_reducible refine Kd.C_alloc ?_ _) | (with_reducible refine Kd.C_drewN ?_ _) | (with_reducible refine Kd.C_drew ?_))); (case side2 => exact (Kd.R_reads' HO261.out).2.1); rintro e w19 ⟨v264, rfl, ho0, hb⟩; refine ⟨_, rfl, ?_⟩; have n0_ := Aside0.mk (Kd.R_elder' (by (with_reducible repeat (first | apply Kd.R_alloc | apply Kd.R_drewN | apply Kd.R_drew)); exact HO261.out) (Kd.R_base ho0) hb); have n1_ := Aside0.mk (Kd.R_lower (Kd.R_new' ho0 (Kd.R_lt (by (with_reducible repeat (first | apply Kd.R_alloc | apply Kd.R_drewN | apply Kd.R_drew)); exact HO261.out))) (below_size (by repeat (first | (with_reducible first | exact HB.out | apply below_alloc | apply pw_below_drewN | apply below_drew1) | exact HB.out)))); have n2_ := Aside0.mk (below_step (by repeat (first | (with_reducible first | exact HB.out | apply below_alloc | apply pw_below_drewN | apply below_drew1) | exact HB.out)) hb); clear HO261; clear HB; have HO261 := n0_; have HO265 := n1_; have HB := n2_; clear n0_ n1_ n2_; (try clear hb); (try clear hb2); (try clear hk); (try clear hi); (try clear hge); (try clear ho0); obtain ⟨Ao20, co20, eo20⟩ := Kd.R_slice HO265.out; subst eo20) | ((with_reducible refine gate_callee (f := 37) rfl ?_); refine goesL_ (some 42) rfl rfl Try.func37 (by kernel_rfl) rfl #[.slice Ao20 t262.length co20, .slice A4 l4.length c4] rfl (by (try simp only [List.map_toArray, List.map_cons, List.map_nil]); first | done | rfl | (simp only [List.length_drop, List.length_take]; rfl)) ?_; (with_reducible refine (octs_Long.calls kj5 _ _ t262 _ _ l4 t266 _ ?side1 ?side2 ?side3 ?side4 A15.out).mono ?_); (case side1 => repeat (first | exact (Kd.R_reads' HO265.out).2.2 | (with_reducible refine Kd.C_alloc ?_ _) | (with_reducible refine Kd.C_drewN ?_ _) | (with_reducible refine Kd.C_drew ?_))); (case side2 => exact (Kd.R_reads' HO265.out).2.1); (case side3 => repeat (first | exact (Kd.C_below HR4.out HB.out) | (with_reducible refine Kd.C_alloc ?_ _) | (with_reducible refine Kd.C_drewN ?_ _) | (with_reducible refine Kd.C_drew ?_))); (case side4 => exact HC4.out); rintro e w21 ⟨v267, rfl, ho0, hb⟩; refine ⟨_, rfl, ?_⟩; have n0_ := Aside0.mk (Kd.R_elder' (by (with_reducible repeat (first | apply Kd.R_alloc | apply Kd.R_drewN | apply Kd.R_drew)); exact HO261.out) (Kd.R_base ho0) hb); have n1_ := Aside0.mk (Kd.R_elder' (by (with_reducible repeat (first | apply Kd.R_alloc | apply Kd.R_drewN | apply Kd.R_drew)); exact HO265.out) (Kd.R_base ho0) hb); have n2_ := Aside0.mk (Kd.R_lower (Kd.R_new' (Kd.R_new' ho0 (Kd.R_lt (by (with_reducible repeat (first | apply Kd.R_alloc | apply Kd.R_drewN | apply Kd.R_drew)); exact HO261.out))) (Kd.R_lt (by (with_reducible repeat (first | apply Kd.R_alloc | apply Kd.R_drewN | apply Kd.R_drew)); exact HO265.out))) (below_size (by repeat (first | (with_reducible first | exact HB.out | apply below_alloc | apply pw_below_drewN | apply below_drew1) | exact HB.out)))); have n3_ := Aside0.mk (below_step (by repeat (first | (with_reducible first | exact HB.out | apply below_alloc | apply pw_below_drewN | apply below_drew1) | exact HB.out)) hb); clear HO261; clear HO265; clear HB; have HO261 := n0_; have HO265 := n1_; have HO268 := n2_; have HB := n3_; clear n0_ n1_ n2_ n3_; (try clear hb); (try clear hb2); (try clear hk); (try clear hi); (try clear hge); (try clear ho0)))
        (try simp only [Act.put, List.setIfInBounds_toArray, List.set_cons_zero, List.set_cons_succ])
        go_cut [78] (fun v78 wc => ∃ (kq : Nat) (x78_15 : Bool), v78 = .bool x78_15 ∧ Aside0 (waybilllaw1_OctsBack.j1 kq l0 a1 a2 a3 l4 ji12 t263 t266 x78_15 = some r) ∧ Aside0 (kq ≤ kj5) ∧ Aside0 (Kd.R (Kd.int .u8) 5 wc w.heap.size (fun _ => True) v267 t266) ∧ Aside0 (Below w.heap.size w wc))
        case first =>
          have H := HC16.out
          clear HC16
          by_cases c22 : (t259.length : Int) = (wrap64 ((l0.length : Int) + (ji12)))
          · rw [if_pos c22] at H
            have c22b0 : ((t259.length : Int) == (wrap64 ((l0.length : Int) + (ji12)))) = true := beq_iff_eq.mpr c22
            have c22b1 : ((t259.length : Int) != (wrap64 ((l0.length : Int) + (ji12)))) = false := bne_eq_false_iff_eq.mpr c22
            clear c22
            (first | rw [c22b0] | (simp only [i64_w, i32_w]; rw [c22b0]) | skip)
            by_cases c23 : (t263 != (decide ((a3.size : Int) ≤ 255))) = true
            · rw [if_pos c23] at H
              have c23b0 : (t263 != (decide ((a3.size : Int) ≤ 255))) = true := c23
              (try (have c23b1 : decide (t263 = (decide ((a3.size : Int) ≤ 255))) = false := by simpa using c23))
              (try (have c23b2 : (t263 == (decide ((a3.size : Int) ≤ 255))) = false := by simpa using c23))
              (try (have c23b3 : ¬ (t263 = (decide ((a3.size : Int) ≤ 255))) := by simpa using c23))
              clear c23
              have H' := Aside0.mk H
              clear H
              go_wp2
              go_meet
              case rel => exact ⟨_, (true), (by first | rfl | (simp; done) | (simp [*]; done)), H', ⟨by have := HJ5.out; first | omega | exact Nat.le_refl _⟩, ⟨by (with_reducible repeat (first | apply Kd.R_alloc | apply Kd.R_drewN | apply Kd.R_drew)); exact Kd.R_mono HO268.out (fun _ hk => trivial)⟩, ⟨by repeat (first | (with_reducible first | exact HB.out | apply below_alloc | apply pw_below_drewN | apply below_drew1) | exact HB.out)⟩⟩
            · rw [if_neg c23] at H
              have c23b0 : (t263 != (decide ((a3.size : Int) ≤ 255))) = false := by simpa using c23
              (try (have c23b1 : decide (t263 = (decide ((a3.size : Int) ≤ 255))) = true := by simpa using c23))
              (try (have c23b2 : (t263 == (decide ((a3.size : Int) ≤ 255))) = true := by simpa using c23))
              clear c23
              by_cases c24 : (t266.length : Int) = (wrap64 ((wrap64 ((t262.length : Int) + 4)) + (l4.length : Int)))
              · rw [if_pos c24] at H
                have c24b0 : ((t266.length : Int) == (wrap64 ((wrap64 ((t262.length : Int) + 4)) + (l4.length : Int)))) = true := beq_iff_eq.mpr c24
                have c24b1 : ((t266.length : Int) != (wrap64 ((wrap64 ((t262.length : Int) + 4)) + (l4.length : Int)))) = false := bne_eq_false_iff_eq.mpr c24
                clear c24
                by_cases c25 : t263 = true
                · subst c25
                  have H1 : (waybilllaw1_OctsBack.j1 kj5 l0 a1 a2 a3 l4 ji12 true t266 false) = some r := by rw [if_pos rfl] at H; exact H
                  clear H
                  have H := H1
                  clear H1
                  have H' := Aside0.mk H
                  clear H
                  obtain ⟨Ao26, co26, eo26⟩ := Kd.R_slice HO268.out
                  subst eo26
                  go_wp2
                  go_meet
                  case rel => exact ⟨_, (false), (by first | rfl | (simp; done) | (simp [*]; done)), H', ⟨by have := HJ5.out; first | omega | exact Nat.le_refl _⟩, ⟨by (with_reducible repeat (first | apply Kd.R_alloc | apply Kd.R_drewN | apply Kd.R_drew)); exact Kd.R_mono HO268.out (fun _ hk => trivial)⟩, ⟨by repeat (first | (with_reducible first | exact HB.out | apply below_alloc | apply pw_below_drewN | apply below_drew1) | exact HB.out)⟩⟩
                · replace c25 := Bool.eq_false_iff.mpr c25
                  subst c25
                  have H1 : (waybilllaw1_OctsBack.j1 kj5 l0 a1 a2 a3 l4 ji12 false t266 ((t262.length : Int) != (t259.length : Int))) = some r := by rw [if_neg (show ¬ (false = true) by decide)] at H; exact H
                  clear H
                  have H := H1
                  clear H1
                  have H' := Aside0.mk H
                  clear H
                  obtain ⟨Ao27, co27, eo27⟩ := Kd.R_slice HO268.out
                  subst eo27
                  go_wp2
                  go_meet
                  case rel => exact ⟨_, (((t262.length : Int) != (t259.length : Int))), (by first | rfl | (simp; done) | (simp [*]; done)), H', ⟨by have := HJ5.out; first | omega | exact Nat.le_refl _⟩, ⟨by (with_reducible repeat (first | apply Kd.R_alloc | apply Kd.R_drewN | apply Kd.R_drew)); exact Kd.R_mono HO268.out (fun _ hk => trivial)⟩, ⟨by repeat (first | (with_reducible first | exact HB.out | apply below_alloc | apply pw_below_drewN | apply below_drew1) | exact HB.out)⟩⟩
              · rw [if_neg c24] at H
                have c24b0 : ((t266.length : Int) == (wrap64 ((wrap64 ((t262.length : Int) + 4)) + (l4.length : Int)))) = false := beq_eq_false_iff_ne.mpr c24
                have c24b1 : ((t266.length : Int) != (wrap64 ((wrap64 ((t262.length : Int) + 4)) + (l4.length : Int)))) = true := bne_iff_ne.mpr c24
                have H' := Aside0.mk H
                clear H
                obtain ⟨Ao28, co28, eo28⟩ := Kd.R_slice HO268.out
                subst eo28
                go_wp2
                go_meet
                case rel => exact ⟨_, (true), (by first | rfl | (simp; done) | (simp [*]; done)), H', ⟨by have := HJ5.out; first | omega | exact Nat.le_refl _⟩, ⟨by (with_reducible repeat (first | apply Kd.R_alloc | apply Kd.R_drewN | apply Kd.R_drew)); exact Kd.R_mono HO268.out (fun _ hk => trivial)⟩, ⟨by repeat (first | (with_reducible first | exact HB.out | apply below_alloc | apply pw_below_drewN | apply below_drew1) | exact HB.out)⟩⟩
          · rw [if_neg c22] at H
            have c22b0 : ((t259.length : Int) == (wrap64 ((l0.length : Int) + (ji12)))) = false := beq_eq_false_iff_ne.mpr c22
            have c22b1 : ((t259.length : Int) != (wrap64 ((l0.length : Int) + (ji12)))) = true := bne_iff_ne.mpr c22
            (first | rw [c22b0] | (simp only [i64_w, i32_w]; rw [c22b0]) | skip)
            have H' := Aside0.mk H
            clear H
            go_wp2
            go_meet
            case rel => exact ⟨_, (true), (by first | rfl | (simp; done) | (simp [*]; done)), H', ⟨by have := HJ5.out; first | omega | exact Nat.le_refl _⟩, ⟨by (with_reducible repeat (first | apply Kd.R_alloc | apply Kd.R_drewN | apply Kd.R_drew)); exact Kd.R_mono HO268.out (fun _ hk => trivial)⟩, ⟨by repeat (first | (with_reducible first | exact HB.out | apply below_alloc | apply pw_below_drewN | apply below_drew1) | exact HB.out)⟩⟩
        case rest =>
          clear HC16
          try clear c2
          try clear p2
          try clear c3
          try clear c4
          try clear p6
          try clear c7
          try clear c7b0
          try clear c7b1
          try clear c8
          try clear c9
          try clear c22
          try clear c22b0
          try clear c22b1
          try clear c23
          try clear c23b0
          try clear c23b1
          try clear c23b2
          try clear c24
          try clear c24b0
          try clear c24b1
          try clear c25
          try clear c28
          try clear p2
          obtain ⟨kq, x78_15, rfl, HA, HJ15, HO_15, HB⟩ := hcut
          cases kq with
          | zero => exact absurd HA.out (by simp [waybilllaw1_OctsBack.j1])
          | succ kj15 =>
            have H := HA.out
            clear HA
            simp only [waybilllaw1_OctsBack.j1] at H
            by_cases c29 : x78_15 = true
            · subst c29
              have H1 : (none) = some r := by rw [if_pos rfl] at H; exact H
              clear H
              have H := H1
              clear H1
              exact absurd H (by simp)
            · replace c29 := Bool.eq_false_iff.mpr c29
              subst c29
              have H1 : (if 0 ≤ (l0.length : Int) then (if (l0.length : Int) ≤ (t266.length : Int) then ((octs_From.f (t266.drop ((l0.length : Int) : Int).toNat)).bind fun bt273 => ((waybilllaw1_SameBytes.f (t266.take ((l0.length : Int) : Int).toNat) l0).bind fun t280 => (if t280 = true then (if ji12 < 8 then (if 0 ≤ (IntKind.u64.wrap (wrap64 (8 * ji12))) then (waybilllaw1_OctsBack.j2 kj15 a1 a3 l4 t263 (Go.bits .and .u64 a2 (IntKind.u64.wrap ((shl .u64 1 (IntKind.u64.wrap (wrap64 (8 * ji12)))) - 1))) bt273.1 bt273.2) else (none)) else (waybilllaw1_OctsBack.j2 kj15 a1 a3 l4 t263 a2 bt273.1 bt273.2)) else (none)))) else (none)) else (none)) = some r := by rw [if_neg (show ¬ (false = true) by decide)] at H; exact H
              clear H
              have H := H1
              clear H1
              by_cases c30 : 0 ≤ (l0.length : Int)
              · rw [if_pos c30] at H
                have c30b0 := eq_true c30
                have c30b1 : decide (0 ≤ (l0.length : Int)) = true := decide_eq_true c30
                clear c30
                by_cases c31 : (l0.length : Int) ≤ (t266.length : Int)
                · rw [if_pos c31] at H
                  have c31b0 := eq_true c31
                  have c31b1 : decide ((l0.length : Int) ≤ (t266.length : Int)) = true := decide_eq_true c31
                  clear c31
                  obtain ⟨y269, hy269⟩ : ∃ y_ : List Int, y_ = (t266.drop ((l0.length : Int) : Int).toNat) := ⟨_, rfl⟩
                  replace H : ((octs_From.f y269).bind fun bt273 => ((waybilllaw1_SameBytes.f (t266.take ((l0.length : Int) : Int).toNat) l0).bind fun t280 => (if t280 = true then (if ji12 < 8 then (if 0 ≤ (IntKind.u64.wrap (wrap64 (8 * ji12))) then (waybilllaw1_OctsBack.j2 kj15 a1 a3 l4 t263 (Go.bits .and .u64 a2 (IntKind.u64.wrap ((shl .u64 1 (IntKind.u64.wrap (wrap64 (8 * ji12)))) - 1))) bt273.1 bt273.2) else (none)) else (waybilllaw1_OctsBack.j2 kj15 a1 a3 l4 t263 a2 bt273.1 bt273.2)) else (none)))) = some r := by first | (rw [hy269]; with_reducible exact H) | (have H2_ := (Option.bind_some _ _).symm.trans H; rw [hy269]; with_reducible exact H2_) | (have H2_ := (Option.bind_some _ _).symm.trans H; with_reducible exact H2_) | with_reducible exact H | (rw [hy269]; exact H) | exact H
                  have Ny269 := Aside0.mk hy269
                  clear hy269
                  replace H := Option.bind_eq_some_iff.mp H
                  obtain ⟨⟨t273, t274⟩, A320, H⟩ := H
                  replace H : ((waybilllaw1_SameBytes.f (t266.take ((l0.length : Int) : Int).toNat) l0).bind fun t280 => (if t280 = true then (if ji12 < 8 then (if 0 ≤ (IntKind.u64.wrap (wrap64 (8 * ji12))) then (waybilllaw1_OctsBack.j2 kj15 a1 a3 l4 t263 (Go.bits .and .u64 a2 (IntKind.u64.wrap ((shl .u64 1 (IntKind.u64.wrap (wrap64 (8 * ji12)))) - 1))) t273 t274) else (none)) else (waybilllaw1_OctsBack.j2 kj15 a1 a3 l4 t263 a2 t273 t274)) else (none))) = some r := H
                  have A32 := Aside0.mk A320
                  clear A320
                  have c33b0 := eq_true (of_decide_eq_true (by first | (with_reducible assumption) | assumption) : 0 ≤ (l0.length : Int))
                  have c34b0 := eq_true (of_decide_eq_true (by first | (with_reducible assumption) | assumption) : (l0.length : Int) ≤ (t266.length : Int))
                  obtain ⟨y276, hy276⟩ : ∃ y_ : List Int, y_ = (t266.take ((l0.length : Int) : Int).toNat) := ⟨_, rfl⟩
                  replace H : ((waybilllaw1_SameBytes.f y276 l0).bind fun t280 => (if t280 = true then (if ji12 < 8 then (if 0 ≤ (IntKind.u64.wrap (wrap64 (8 * ji12))) then (waybilllaw1_OctsBack.j2 kj15 a1 a3 l4 t263 (Go.bits .and .u64 a2 (IntKind.u64.wrap ((shl .u64 1 (IntKind.u64.wrap (wrap64 (8 * ji12)))) - 1))) t273 t274) else (none)) else (waybilllaw1_OctsBack.j2 kj15 a1 a3 l4 t263 a2 t273 t274)) else (none))) = some r := by first | (rw [hy276]; with_reducible exact H) | (have H2_ := (Option.bind_some _ _).symm.trans H; rw [hy276]; with_reducible exact H2_) | (have H2_ := (Option.bind_some _ _).symm.trans H; with_reducible exact H2_) | with_reducible exact H | (rw [hy276]; exact H) | exact H
                  have Ny276 := Aside0.mk hy276
                  clear hy276
                  replace H := Option.bind_eq_some_iff.mp H
                  obtain ⟨t280, A350, H⟩ := H
                  replace H : (if t280 = true then (if ji12 < 8 then (if 0 ≤ (IntKind.u64.wrap (wrap64 (8 * ji12))) then (waybilllaw1_OctsBack.j2 kj15 a1 a3 l4 t263 (Go.bits .and .u64 a2 (IntKind.u64.wrap ((shl .u64 1 (IntKind.u64.wrap (wrap64 (8 * ji12)))) - 1))) t273 t274) else (none)) else (waybilllaw1_OctsBack.j2 kj15 a1 a3 l4 t263 a2 t273 t274)) else (none)) = some r := H
                  have A35 := Aside0.mk A350
                  clear A350
                  by_cases c36 : t280 = true
                  · subst c36
                    have H1 : (if ji12 < 8 then (if 0 ≤ (IntKind.u64.wrap (wrap64 (8 * ji12))) then (waybilllaw1_OctsBack.j2 kj15 a1 a3 l4 t263 (Go.bits .and .u64 a2 (IntKind.u64.wrap ((shl .u64 1 (IntKind.u64.wrap (wrap64 (8 * ji12)))) - 1))) t273 t274) else (none)) else (waybilllaw1_OctsBack.j2 kj15 a1 a3 l4 t263 a2 t273 t274)) = some r := by rw [if_pos rfl] at H; exact H
                    clear H
                    have H := H1
                    clear H1
                    have HC37 := Aside0.mk H
                    clear H
                    obtain ⟨Ao39, co39, eo39⟩ := Kd.R_slice HO_15.out
                    subst eo39
                    have q38 : ((l0.length : Int) : Int) ≤ ((t266.length : Int) : Int) := of_decide_eq_true (by first | (with_reducible assumption) | assumption)
                    obtain ⟨i038, hi038, _, hsz38, _⟩ := info_parts info5
                    have hroom38 : t266.length ≤ co39 := (Kd.R_reads' HO_15.out).2.1
                    have hC38 : Kd.C (Kd.int .u8) _ Ao39 t266.length t266 := (Kd.R_reads' HO_15.out).2.2
                    have q038 : (0 : Int) ≤ ((l0.length : Int) : Int) := of_decide_eq_true (by first | (with_reducible assumption) | assumption)
                    have hcut38 := cut_from (P := Try.prog) 26 5 .i64 Try.underlying26 hi038 1 hsz38 Ao39 t266.length co39 (l0.length : Int) q038 q38
                    have hr38 := Kd.C_drop (m := ((l0.length : Int) : Int).toNat) (c := co39) hC38 (by omega) hroom38
                    obtain ⟨A38, hA38⟩ : ∃ A1, A1 = (if co39 = ((l0.length : Int) : Int).toNat then Ao39 else (Ao39 : Option Addr).map (·.add (((l0.length : Int) : Int).toNat * 1))) := ⟨_, rfl⟩
                    obtain ⟨c38, hc38⟩ : ∃ c1, c1 = co39 - ((l0.length : Int) : Int).toNat := ⟨_, rfl⟩
                    have hy38 : y269.length = t266.length - ((l0.length : Int) : Int).toNat := (by rw [Ny269.out, List.length_drop] <;> omega)
                    rw [show (t266).drop ((l0.length : Int) : Int).toNat = y269 from Ny269.out.symm] at hr38
                    replace hr38 : Kd.C (Kd.int .u8) _ A38 y269.length y269 := (by rw [hA38]; exact hr38)
                    rw [← hy38, ← hA38, ← hc38] at hcut38
                    have HR272 := Aside0.mk hr38
                    have HC272 := Aside0.mk (show y269.length ≤ c38 from by rw [hy38, hc38]; exact Nat.sub_le_sub_right hroom38 _)
                    clear hr38 hC38 hroom38 hi038 hsz38 hc38
                    have KY38 := Aside0.mk hy38
                    have KA38 := Aside0.mk hA38
                    clear hy38 hA38
                    have KL38 := Aside0.mk (show ((l0.length : Int) : Int).toNat ≤ t266.length from by omega)
                    replace q38 := eq_true q38
                    go_upto_if 97 with (first | ((with_reducible refine gate_callee (f := 25) rfl ?_); refine goesL_ (some 83) rfl rfl Try.func25 (by kernel_rfl) rfl #[.slice A38 y269.length c38] rfl (by (try simp only [List.map_toArray, List.map_cons, List.map_nil]); first | done | rfl | (simp only [List.length_drop, List.length_take]; rfl)) ?_; (with_reducible refine (octs_From.callsB _ _ y269 t273 t274 w _ ?side1 ?side2 ?side3 A32.out).mono ?_); (case side1 => repeat (first | (with_reducible first | exact HB.out | apply below_alloc | apply pw_below_drewN | apply below_drew1) | exact HB.out)); (case side2 => repeat (first | exact (by repeat (first | (with_reducible exact HR272.out) | (with_reducible refine Kd.C_alloc ?_ _) | (with_reducible refine Kd.C_drewN ?_ _) | (with_reducible refine Kd.C_drew ?_) | exact HR272.out)) | (with_reducible refine Kd.C_alloc ?_ _) | (with_reducible refine Kd.C_drewN ?_ _) | (with_reducible refine Kd.C_drew ?_))); (case side3 => exact HC272.out); rintro e w40 ⟨g275, rfl, hi, hb, hb2, hge⟩; refine ⟨_, rfl, ?_⟩; have n0_ := Aside0.mk (Kd.R_below (by (with_reducible repeat (first | apply Kd.R_alloc | apply Kd.R_drewN | apply Kd.R_drew)); exact HO_15.out) hb2); have n1_ := Aside0.mk (Kd.C_below (by repeat (first | (with_reducible exact HR272.out) | (with_reducible refine Kd.C_alloc ?_ _) | (with_reducible refine Kd.C_drewN ?_ _) | (with_reducible refine Kd.C_drew ?_) | exact HR272.out)) hb2); have n2_ := Aside0.mk (hb); have n3_ := Aside0.mk (hi); clear HO_15; clear HR272; clear HB; have HO_15 := n0_; have HR272 := n1_; have HB := n2_; have HI275 := n3_; clear n0_ n1_ n2_ n3_; (try clear hb); (try clear hb2); (try clear hk); (try clear hi); (try clear hge); have q41 : ((l0.length : Int) : Int) ≤ ((t266.length : Int) : Int) := of_decide_eq_true (by first | (with_reducible assumption) | assumption); obtain ⟨i041, hi041, _, hsz41, _⟩ := info_parts info5; have hroom41 : t266.length ≤ co39 := (Kd.R_reads' HO_15.out).2.1; have hC41 : Kd.C (Kd.int .u8) _ Ao39 t266.length t266 := (Kd.R_reads' HO_15.out).2.2; have hcut41 := cut_to (P := Try.prog) 26 5 .i64 Try.underlying26 hi041 Ao39 t266.length co39 (l0.length : Int) (of_decide_eq_true (by first | (with_reducible assumption) | assumption)) q41 hroom41; have hr41 := Kd.C_take (m := ((l0.length : Int) : Int).toNat) hC41 (by omega); have hy41 : y276.length = ((l0.length : Int) : Int).toNat := (by rw [Ny276.out, List.length_take]; omega); rw [← Ny276.out] at hr41; rw [← hy41] at hcut41; have HR279 := Aside0.mk hr41; have HC279 := Aside0.mk (show y276.length ≤ co39 from by omega); clear hr41 hC41 hroom41 hi041 hsz41; have KY41 := Aside0.mk hy41; clear hy41; have KL41 := Aside0.mk (show ((l0.length : Int) : Int).toNat ≤ t266.length from by omega); replace q41 := eq_true q41) | (go_at_call 32; (with_reducible refine (waybilllaw1_SameBytes.calls _ _ y276 _ _ l0 true _ ?side1 ?side2 ?side3 ?side4 A35.out).mono ?_); (case side1 => repeat (first | exact (by repeat (first | (with_reducible exact HR279.out) | (with_reducible refine Kd.C_alloc ?_ _) | (with_reducible refine Kd.C_drewN ?_ _) | (with_reducible refine Kd.C_drew ?_) | exact HR279.out)) | (with_reducible refine Kd.C_alloc ?_ _) | (with_reducible refine Kd.C_drewN ?_ _) | (with_reducible refine Kd.C_drew ?_))); (case side2 => exact HC279.out); (case side3 => repeat (first | exact (Kd.C_below HR0.out HB.out) | (with_reducible refine Kd.C_alloc ?_ _) | (with_reducible refine Kd.C_drewN ?_ _) | (with_reducible refine Kd.C_drew ?_))); (case side4 => exact HC0.out); rintro e w' ⟨rfl, ⟨nd, rfl⟩⟩))
                    (try simp only [Act.put, List.setIfInBounds_toArray, List.set_cons_zero, List.set_cons_succ])
                    go_cut [17] (fun v17 wc => ∃ (kq : Nat) (x17_36 : Int), v17 = .int .u64 x17_36 ∧ Aside0 (waybilllaw1_OctsBack.j2 kq a1 a3 l4 t263 x17_36 t273 t274 = some r) ∧ Aside0 (kq ≤ kj15) ∧ Aside0 (Kd.C (Kd.int .u8) wc A38 y269.length y269) ∧ Aside0 (Kd.C (Kd.int .u8) wc Ao39 y276.length y276) ∧ Aside0 (IsB91 w wc g275 t273 t274) ∧ Aside0 (Below w.heap.size w wc))
                    case first =>
                      have H := HC37.out
                      clear HC37
                      by_cases c42 : ji12 < 8
                      · rw [if_pos c42] at H
                        have c42b0 : decide (ji12 < 8) = true := decide_eq_true c42
                        clear c42
                        (first | rw [c42b0] | (simp only [i64_w, i32_w]; rw [c42b0]) | skip)
                        obtain ⟨ji43, hji43⟩ : ∃ j_ : Int, (IntKind.u64.wrap (wrap64 (8 * ji12))) = j_ := ⟨_, rfl⟩
                        replace H : (if 0 ≤ (ji43) then (waybilllaw1_OctsBack.j2 kj15 a1 a3 l4 t263 (Go.bits .and .u64 a2 (IntKind.u64.wrap ((shl .u64 1 (ji43)) - 1))) t273 t274) else (none)) = some r := by first | (rw [hji43] at H; exact H) | (simp only [hji43] at H ⊢; exact H)
                        by_cases c44 : 0 ≤ (ji43)
                        · rw [if_pos c44] at H
                          have c44b0 := eq_true c44
                          have c44b1 : decide (0 ≤ (ji43)) = true := decide_eq_true c44
                          clear c44
                          obtain ⟨ji45, hji45⟩ : ∃ j_ : Int, (shl .u64 1 (ji43)) = j_ := ⟨_, rfl⟩
                          replace H : (waybilllaw1_OctsBack.j2 kj15 a1 a3 l4 t263 (Go.bits .and .u64 a2 (IntKind.u64.wrap ((ji45) - 1))) t273 t274) = some r := by first | (rw [hji45] at H; exact H) | (simp only [hji45] at H ⊢; exact H)
                          have hji45_ : (IntKind.u64.wrap (1 * 2 ^ min (ji43).toNat 64)) = ji45 := hji45
                          have hji45z : (ji43) ≤ 64 → (IntKind.u64.wrap (1 * 2 ^ (ji43).toNat)) = ji45 := shl_small hji45
                          have hji45u : (IntKind.u64.wrap (2 ^ min (ji43).toNat 64)) = ji45 := by have h_ := hji45_; rw [Int.one_mul] at h_; exact h_
                          have hji45v : (ji43) ≤ 64 → (IntKind.u64.wrap (2 ^ (ji43).toNat)) = ji45 := fun hle_ => by have h_ := hji45z hle_; rw [Int.one_mul] at h_; exact h_
                          have H' := Aside0.mk H
                          clear H
                          go_wp2
                          go_meet
                          case rel => exact ⟨_, (Go.bits .and .u64 a2 (IntKind.u64.wrap ((ji45) - 1))), (by first | exact shl_and_close (by assumption) (by assumption) (by omega) (of_decide_eq_true (by assumption)) | rfl | (simp; done) | (simp only [← hji45] <;> (first | rfl | simp)) | (simp [*]; done)), H', ⟨by have := HJ5.out; have := HJ15.out; first | omega | exact Nat.le_refl _⟩, ⟨by repeat (first | (with_reducible exact HR272.out) | (with_reducible refine Kd.C_alloc ?_ _) | (with_reducible refine Kd.C_drewN ?_ _) | (with_reducible refine Kd.C_drew ?_) | exact HR272.out)⟩, ⟨by repeat (first | (with_reducible exact HR279.out) | (with_reducible refine Kd.C_alloc ?_ _) | (with_reducible refine Kd.C_drewN ?_ _) | (with_reducible refine Kd.C_drew ?_) | exact HR279.out)⟩, ⟨by repeat (first | (with_reducible first | exact HI275.out | apply IsB91.alloc | apply IsB91.drewN | apply IsB91.drew | apply IsB91.set_1) | exact HI275.out)⟩, ⟨by repeat (first | (with_reducible first | exact HB.out | apply below_alloc | apply pw_below_drewN | apply below_drew1 | refine below_set ?_ (IsB91.ge HI275.out)) | exact HB.out)⟩⟩
                        · rw [if_neg c44] at H
                          exact absurd H (by simp)
                      · rw [if_neg c42] at H
                        have c42b0 : decide (ji12 < 8) = false := decide_eq_false c42
                        clear c42
                        (first | rw [c42b0] | (simp only [i64_w, i32_w]; rw [c42b0]) | skip)
                        have H' := Aside0.mk H
                        clear H
                        go_wp2
                        go_meet
                        case rel => exact ⟨_, (a2), (by first | rfl | (simp; done) | (simp [*]; done)), H', ⟨by have := HJ5.out; have := HJ15.out; first | omega | exact Nat.le_refl _⟩, ⟨by repeat (first | (with_reducible exact HR272.out) | (with_reducible refine Kd.C_alloc ?_ _) | (with_reducible refine Kd.C_drewN ?_ _) | (with_reducible refine Kd.C_drew ?_) | exact HR272.out)⟩, ⟨by repeat (first | (with_reducible exact HR279.out) | (with_reducible refine Kd.C_alloc ?_ _) | (with_reducible refine Kd.C_drewN ?_ _) | (with_reducible refine Kd.C_drew ?_) | exact HR279.out)⟩, ⟨by repeat (first | (with_reducible first | exact HI275.out | apply IsB91.alloc | apply IsB91.drewN | apply IsB91.drew | apply IsB91.set_1) | exact HI275.out)⟩, ⟨by repeat (first | (with_reducible first | exact HB.out | apply below_alloc | apply pw_below_drewN | apply below_drew1 | refine below_set ?_ (IsB91.ge HI275.out)) | exact HB.out)⟩⟩
                    case rest =>
                      clear HC37
                      try clear c1
                      try clear c2
                      try clear p2
                      try clear c3
                      try clear q3
                      try clear c4
                      try clear q4
                      try clear p6
                      try clear c7
                      try clear c7b0
                      try clear c7b1
                      try clear c8
                      try clear c9
                      try clear c22
                      try clear c22b0
                      try clear c22b1
                      try clear c23
                      try clear c23b0
                      try clear c23b1
                      try clear c23b2
                      try clear c24
                      try clear c24b0
                      try clear c24b1
                      try clear c25
                      try clear c28
                      try clear c29
                      try clear c30
                      try clear c30b0
                      try clear c30b1
                      try clear c31
                      try clear c31b0
                      try clear c31b1
                      try clear c33
                      try clear c33b0
                      try clear c34
                      try clear c34b0
                      try clear c36
                      try clear c37
                      try clear c38
                      try clear q38
                      try clear q41
                      try clear c42
                      try clear c42b0
                      try clear c44
                      try clear c44b0
                      try clear c44b1
                      try clear p2
                      try clear p6
                      try clear q038
                      try clear q38
                      try clear q41
                      obtain ⟨kq, x17_36, rfl, HA, HJ36, HR272, HR279, HI275, HB⟩ := hcut
                      cases kq with
                      | zero => exact absurd HA.out (by simp [waybilllaw1_OctsBack.j2])
                      | succ kj36 =>
                        have H := HA.out
                        clear HA
                        simp only [waybilllaw1_OctsBack.j2] at H
                        have HC46 := Aside0.mk H
                        clear H
                        go_upto_region 15 with (fail)
                        go_cut [125] (fun v125 wc => ∃ (kq : Nat) (x125_45 : Bool) (x276000_45 : List Int) (x276001_45 : Bool), v125 = .bool x125_45 ∧ Aside0 (waybilllaw1_OctsBack.j3 kq x125_45 x276000_45 x276001_45 = some r) ∧ Aside0 (kq ≤ kj36) ∧ Aside0 (IsB91 w wc g275 x276000_45 x276001_45) ∧ Aside0 (Below w.heap.size w wc))
                        case first =>
                          have H := HC46.out
                          clear HC46
                          replace H := Option.bind_eq_some_iff.mp H
                          obtain ⟨⟨t281, t282, t283⟩, A470, H⟩ := H
                          replace H : (if t281 = x17_36 then (if t263 = true then ((octs_In_Short.f kj36 t282 t283).bind fun bt284 => (if bt284.1.toList = a3.toList then ((octs_In_Long.f kj36 bt284.2.1 bt284.2.2).bind fun bt287 => ((waybilllaw1_SameBytes.f bt287.1 l4).bind fun t292 => (waybilllaw1_OctsBack.j3 kj36 (!t292) bt287.2.1 bt287.2.2))) else (waybilllaw1_OctsBack.j3 kj36 true bt284.2.1 bt284.2.2))) else ((octs_In_Long.f kj36 t282 t283).bind fun bt293 => ((waybilllaw1_SameBytes.f bt293.1 l4).bind fun t298 => (waybilllaw1_OctsBack.j3 kj36 (!t298) bt293.2.1 bt293.2.2)))) else (waybilllaw1_OctsBack.j3 kj36 true t282 t283)) = some r := H
                          have A47 := Aside0.mk A470
                          clear A470
                          by_cases c48 : t281 = x17_36
                          · rw [if_pos c48] at H
                            have c48b0 : (t281 == x17_36) = true := beq_iff_eq.mpr c48
                            have c48b1 : (t281 != x17_36) = false := bne_eq_false_iff_eq.mpr c48
                            clear c48
                            (first | rw [c48b0] | (simp only [i64_w, i32_w]; rw [c48b0]) | skip)
                            by_cases c49 : t263 = true
                            · subst c49
                              have H1 : ((octs_In_Short.f kj36 t282 t283).bind fun bt284 => (if bt284.1.toList = a3.toList then ((octs_In_Long.f kj36 bt284.2.1 bt284.2.2).bind fun bt287 => ((waybilllaw1_SameBytes.f bt287.1 l4).bind fun t292 => (waybilllaw1_OctsBack.j3 kj36 (!t292) bt287.2.1 bt287.2.2))) else (waybilllaw1_OctsBack.j3 kj36 true bt284.2.1 bt284.2.2))) = some r := by rw [if_pos rfl] at H; exact H
                              clear H
                              have H := H1
                              clear H1
                              replace H := Option.bind_eq_some_iff.mp H
                              obtain ⟨⟨t284, t285, t286⟩, A500, H⟩ := H
                              replace H : (if t284.toList = a3.toList then ((octs_In_Long.f kj36 t285 t286).bind fun bt287 => ((waybilllaw1_SameBytes.f bt287.1 l4).bind fun t292 => (waybilllaw1_OctsBack.j3 kj36 (!t292) bt287.2.1 bt287.2.2))) else (waybilllaw1_OctsBack.j3 kj36 true t285 t286)) = some r := H
                              have A50 := Aside0.mk A500
                              clear A500
                              by_cases c51 : t284.toList = a3.toList
                              · rw [if_pos c51] at H
                                have c51b0 : (t284.toList == a3.toList) = true := beq_iff_eq.mpr c51
                                have c51b1 : (t284.toList != a3.toList) = false := bne_eq_false_iff_eq.mpr c51
                                clear c51
                                replace H := Option.bind_eq_some_iff.mp H
                                obtain ⟨⟨t287, t290, t291⟩, A520, H⟩ := H
                                replace H : ((waybilllaw1_SameBytes.f t287 l4).bind fun t292 => (waybilllaw1_OctsBack.j3 kj36 (!t292) t290 t291)) = some r := H
                                have A52 := Aside0.mk A520
                                clear A520
                                replace H := Option.bind_eq_some_iff.mp H
                                obtain ⟨t292, A530, H⟩ := H
                                replace H : (waybilllaw1_OctsBack.j3 kj36 (!t292) t290 t291) = some r := H
                                have A53 := Aside0.mk A530
                                clear A530
                                have H' := Aside0.mk H
                                clear H
                                go_wp2_with (first | ((with_reducible refine gate_callee (f := 26) rfl ?_); refine goesL_ (some 107) rfl rfl Try.func26 (by kernel_rfl) rfl #[.pointer (some ⟨g275, 0, none⟩), .int .i64 a1] rfl (by (try simp only [List.map_toArray, List.map_cons, List.map_nil]); first | done | rfl | (simp only [List.length_drop, List.length_take]; rfl)) ?_; (with_reducible refine (octs_In_Int.callsB kj36 g275 t273 t274 a1 t281 t282 t283 w _ ?side1 ?side2 A47.out).mono ?_); (case side1 => repeat (first | (with_reducible first | exact HI275.out | apply IsB91.alloc | apply IsB91.drewN | apply IsB91.drew | apply IsB91.set_1) | exact HI275.out)); (case side2 => repeat (first | (with_reducible first | exact HB.out | apply below_alloc | apply pw_below_drewN | apply below_drew1 | refine below_set ?_ (IsB91.ge HI275.out)) | exact HB.out)); rintro e w54 ⟨rfl, hi, hb, hk⟩; refine ⟨_, rfl, ?_⟩; have n0_ := Aside0.mk (hb); have n1_ := Aside0.mk (hi); clear HB; clear HI275; have HB := n0_; have HI275 := n1_; clear n0_ n1_; (try clear hb); (try clear hb2); (try clear hk); (try clear hi); (try clear hge)) | (go_at_call 31; (with_reducible refine (octs_In_Short.callsB kj36 g275 t282 t283 t284 t285 t286 w _ ?side1 ?side2 A50.out).mono ?_); (case side1 => repeat (first | (with_reducible first | exact HI275.out | apply IsB91.alloc | apply IsB91.drewN | apply IsB91.drew | apply IsB91.set_1) | exact HI275.out)); (case side2 => repeat (first | (with_reducible first | exact HB.out | apply below_alloc | apply pw_below_drewN | apply below_drew1 | refine below_set ?_ (IsB91.ge HI275.out)) | exact HB.out)); rintro e w55 ⟨rfl, hi, hb, hk⟩; have n0_ := Aside0.mk (hb); have n1_ := Aside0.mk (hi); clear HB; clear HI275; have HB := n0_; have HI275 := n1_; clear n0_ n1_; (try clear hb); (try clear hb2); (try clear hk); (try clear hi); (try clear hge)) | (go_at_call 33; (with_reducible refine (octs_In_Long.callsB kj36 g275 t285 t286 t287 t290 t291 w _ ?side1 ?side2 A52.out).mono ?_); (case side1 => repeat (first | (with_reducible first | exact HI275.out | apply IsB91.alloc | apply IsB91.drewN | apply IsB91.drew | apply IsB91.set_1) | exact HI275.out)); (case side2 => repeat (first | (with_reducible first | exact HB.out | apply below_alloc | apply pw_below_drewN | apply below_drew1 | refine below_set ?_ (IsB91.ge HI275.out)) | exact HB.out)); rintro e w56 ⟨v288, rfl, ho0, hi, hb, hk⟩; have n0_ := Aside0.mk (Kd.R_lower ho0 (below_size (by repeat (first | (with_reducible first | exact HB.out | apply below_alloc | apply pw_below_drewN | apply below_drew1 | refine below_set ?_ (IsB91.ge HI275.out)) | exact HB.out)))); have n1_ := Aside0.mk (hb); have n2_ := Aside0.mk (hi); clear HB; clear HI275; have HO289 := n0_; have HB := n1_; have HI275 := n2_; clear n0_ n1_ n2_; (try clear hb); (try clear hb2); (try clear hk); (try clear hi); (try clear hge); (try clear ho0); obtain ⟨Ao57, co57, eo57⟩ := Kd.R_slice HO289.out; subst eo57) | (go_at_call 32; (with_reducible refine (waybilllaw1_SameBytes.calls _ _ t287 _ _ l4 t292 _ ?side1 ?side2 ?side3 ?side4 A53.out).mono ?_); (case side1 => repeat (first | exact (Kd.R_reads' HO289.out).2.2 | (with_reducible refine Kd.C_alloc ?_ _) | (with_reducible refine Kd.C_drewN ?_ _) | (with_reducible refine Kd.C_drew ?_))); (case side2 => exact (Kd.R_reads' HO289.out).2.1); (case side3 => repeat (first | exact (Kd.C_below HR4.out HB.out) | (with_reducible refine Kd.C_alloc ?_ _) | (with_reducible refine Kd.C_drewN ?_ _) | (with_reducible refine Kd.C_drew ?_))); (case side4 => exact HC4.out); rintro e w' ⟨rfl, ⟨nd, rfl⟩⟩))
                                go_meet
                                case rel => exact ⟨_, (!t292), (t290), (t291), (by first | rfl | (simp; done) | (simp [*]; done)), H', ⟨by have := HJ5.out; have := HJ15.out; have := HJ36.out; first | omega | exact Nat.le_refl _⟩, ⟨by repeat (first | (with_reducible first | exact HI275.out | apply IsB91.alloc | apply IsB91.drewN | apply IsB91.drew | apply IsB91.set_1) | exact HI275.out)⟩, ⟨by repeat (first | (with_reducible first | exact HB.out | apply below_alloc | apply pw_below_drewN | apply below_drew1 | refine below_set ?_ (IsB91.ge HI275.out)) | exact HB.out)⟩⟩
                              · rw [if_neg c51] at H
                                have c51b0 : (t284.toList == a3.toList) = false := beq_eq_false_iff_ne.mpr c51
                                have c51b1 : (t284.toList != a3.toList) = true := bne_iff_ne.mpr c51
                                have H' := Aside0.mk H
                                clear H
                                go_wp2_with (first | ((with_reducible refine gate_callee (f := 26) rfl ?_); refine goesL_ (some 107) rfl rfl Try.func26 (by kernel_rfl) rfl #[.pointer (some ⟨g275, 0, none⟩), .int .i64 a1] rfl (by (try simp only [List.map_toArray, List.map_cons, List.map_nil]); first | done | rfl | (simp only [List.length_drop, List.length_take]; rfl)) ?_; (with_reducible refine (octs_In_Int.callsB kj36 g275 t273 t274 a1 t281 t282 t283 w _ ?side1 ?side2 A47.out).mono ?_); (case side1 => repeat (first | (with_reducible first | exact HI275.out | apply IsB91.alloc | apply IsB91.drewN | apply IsB91.drew | apply IsB91.set_1) | exact HI275.out)); (case side2 => repeat (first | (with_reducible first | exact HB.out | apply below_alloc | apply pw_below_drewN | apply below_drew1 | refine below_set ?_ (IsB91.ge HI275.out)) | exact HB.out)); rintro e w58 ⟨rfl, hi, hb, hk⟩; refine ⟨_, rfl, ?_⟩; have n0_ := Aside0.mk (hb); have n1_ := Aside0.mk (hi); clear HB; clear HI275; have HB := n0_; have HI275 := n1_; clear n0_ n1_; (try clear hb); (try clear hb2); (try clear hk); (try clear hi); (try clear hge)) | (go_at_call 31; (with_reducible refine (octs_In_Short.callsB kj36 g275 t282 t283 t284 t285 t286 w _ ?side1 ?side2 A50.out).mono ?_); (case side1 => repeat (first | (with_reducible first | exact HI275.out | apply IsB91.alloc | apply IsB91.drewN | apply IsB91.drew | apply IsB91.set_1) | exact HI275.out)); (case side2 => repeat (first | (with_reducible first | exact HB.out | apply below_alloc | apply pw_below_drewN | apply below_drew1 | refine below_set ?_ (IsB91.ge HI275.out)) | exact HB.out)); rintro e w59 ⟨rfl, hi, hb, hk⟩; have n0_ := Aside0.mk (hb); have n1_ := Aside0.mk (hi); clear HB; clear HI275; have HB := n0_; have HI275 := n1_; clear n0_ n1_; (try clear hb); (try clear hb2); (try clear hk); (try clear hi); (try clear hge)))
                                go_meet
                                case rel => exact ⟨_, (true), (t285), (t286), (by first | rfl | (simp; done) | (simp [*]; done)), H', ⟨by have := HJ5.out; have := HJ15.out; have := HJ36.out; first | omega | exact Nat.le_refl _⟩, ⟨by repeat (first | (with_reducible first | exact HI275.out | apply IsB91.alloc | apply IsB91.drewN | apply IsB91.drew | apply IsB91.set_1) | exact HI275.out)⟩, ⟨by repeat (first | (with_reducible first | exact HB.out | apply below_alloc | apply pw_below_drewN | apply below_drew1 | refine below_set ?_ (IsB91.ge HI275.out)) | exact HB.out)⟩⟩
                            · replace c49 := Bool.eq_false_iff.mpr c49
                              subst c49
                              have H1 : ((octs_In_Long.f kj36 t282 t283).bind fun bt293 => ((waybilllaw1_SameBytes.f bt293.1 l4).bind fun t298 => (waybilllaw1_OctsBack.j3 kj36 (!t298) bt293.2.1 bt293.2.2))) = some r := by rw [if_neg (show ¬ (false = true) by decide)] at H; exact H
                              clear H
                              have H := H1
                              clear H1
                              replace H := Option.bind_eq_some_iff.mp H
                              obtain ⟨⟨t293, t296, t297⟩, A600, H⟩ := H
                              replace H : ((waybilllaw1_SameBytes.f t293 l4).bind fun t298 => (waybilllaw1_OctsBack.j3 kj36 (!t298) t296 t297)) = some r := H
                              have A60 := Aside0.mk A600
                              clear A600
                              replace H := Option.bind_eq_some_iff.mp H
                              obtain ⟨t298, A610, H⟩ := H
                              replace H : (waybilllaw1_OctsBack.j3 kj36 (!t298) t296 t297) = some r := H
                              have A61 := Aside0.mk A610
                              clear A610
                              have H' := Aside0.mk H
                              clear H
                              go_wp2_with (first | ((with_reducible refine gate_callee (f := 26) rfl ?_); refine goesL_ (some 107) rfl rfl Try.func26 (by kernel_rfl) rfl #[.pointer (some ⟨g275, 0, none⟩), .int .i64 a1] rfl (by (try simp only [List.map_toArray, List.map_cons, List.map_nil]); first | done | rfl | (simp only [List.length_drop, List.length_take]; rfl)) ?_; (with_reducible refine (octs_In_Int.callsB kj36 g275 t273 t274 a1 t281 t282 t283 w _ ?side1 ?side2 A47.out).mono ?_); (case side1 => repeat (first | (with_reducible first | exact HI275.out | apply IsB91.alloc | apply IsB91.drewN | apply IsB91.drew | apply IsB91.set_1) | exact HI275.out)); (case side2 => repeat (first | (with_reducible first | exact HB.out | apply below_alloc | apply pw_below_drewN | apply below_drew1 | refine below_set ?_ (IsB91.ge HI275.out)) | exact HB.out)); rintro e w62 ⟨rfl, hi, hb, hk⟩; refine ⟨_, rfl, ?_⟩; have n0_ := Aside0.mk (hb); have n1_ := Aside0.mk (hi); clear HB; clear HI275; have HB := n0_; have HI275 := n1_; clear n0_ n1_; (try clear hb); (try clear hb2); (try clear hk); (try clear hi); (try clear hge)) | (go_at_call 33; (with_reducible refine (octs_In_Long.callsB kj36 g275 t282 t283 t293 t296 t297 w _ ?side1 ?side2 A60.out).mono ?_); (case side1 => repeat (first | (with_reducible first | exact HI275.out | apply IsB91.alloc | apply IsB91.drewN | apply IsB91.drew | apply IsB91.set_1) | exact HI275.out)); (case side2 => repeat (first | (with_reducible first | exact HB.out | apply below_alloc | apply pw_below_drewN | apply below_drew1 | refine below_set ?_ (IsB91.ge HI275.out)) | exact HB.out)); rintro e w63 ⟨v294, rfl, ho0, hi, hb, hk⟩; have n0_ := Aside0.mk (Kd.R_lower ho0 (below_size (by repeat (first | (with_reducible first | exact HB.out | apply below_alloc | apply pw_below_drewN | apply below_drew1 | refine below_set ?_ (IsB91.ge HI275.out)) | exact HB.out)))); have n1_ := Aside0.mk (hb); have n2_ := Aside0.mk (hi); clear HB; clear HI275; have HO295 := n0_; have HB := n1_; have HI275 := n2_; clear n0_ n1_ n2_; (try clear hb); (try clear hb2); (try clear hk); (try clear hi); (try clear hge); (try clear ho0); obtain ⟨Ao64, co64, eo64⟩ := Kd.R_slice HO295.out; subst eo64) | (go_at_call 32; (with_reducible refine (waybilllaw1_SameBytes.calls _ _ t293 _ _ l4 t298 _ ?side1 ?side2 ?side3 ?side4 A61.out).mono ?_); (case side1 => repeat (first | exact (Kd.R_reads' HO295.out).2.2 | (with_reducible refine Kd.C_alloc ?_ _) | (with_reducible refine Kd.C_drewN ?_ _) | (with_reducible refine Kd.C_drew ?_))); (case side2 => exact (Kd.R_reads' HO295.out).2.1); (case side3 => repeat (first | exact (Kd.C_below HR4.out HB.out) | (with_reducible refine Kd.C_alloc ?_ _) | (with_reducible refine Kd.C_drewN ?_ _) | (with_reducible refine Kd.C_drew ?_))); (case side4 => exact HC4.out); rintro e w' ⟨rfl, ⟨nd, rfl⟩⟩))
                              go_meet
                              case rel => exact ⟨_, (!t298), (t296), (t297), (by first | rfl | (simp; done) | (simp [*]; done)), H', ⟨by have := HJ5.out; have := HJ15.out; have := HJ36.out; first | omega | exact Nat.le_refl _⟩, ⟨by repeat (first | (with_reducible first | exact HI275.out | apply IsB91.alloc | apply IsB91.drewN | apply IsB91.drew | apply IsB91.set_1) | exact HI275.out)⟩, ⟨by repeat (first | (with_reducible first | exact HB.out | apply below_alloc | apply pw_below_drewN | apply below_drew1 | refine below_set ?_ (IsB91.ge HI275.out)) | exact HB.out)⟩⟩
                          · rw [if_neg c48] at H
                            have c48b0 : (t281 == x17_36) = false := beq_eq_false_iff_ne.mpr c48
                            have c48b1 : (t281 != x17_36) = true := bne_iff_ne.mpr c48
                            (first | rw [c48b0] | (simp only [i64_w, i32_w]; rw [c48b0]) | skip)
                            have H' := Aside0.mk H
                            clear H
                            go_wp2_with (first | ((with_reducible refine gate_callee (f := 26) rfl ?_); refine goesL_ (some 107) rfl rfl Try.func26 (by kernel_rfl) rfl #[.pointer (some ⟨g275, 0, none⟩), .int .i64 a1] rfl (by (try simp only [List.map_toArray, List.map_cons, List.map_nil]); first | done | rfl | (simp only [List.length_drop, List.length_take]; rfl)) ?_; (with_reducible refine (octs_In_Int.callsB kj36 g275 t273 t274 a1 t281 t282 t283 w _ ?side1 ?side2 A47.out).mono ?_); (case side1 => repeat (first | (with_reducible first | exact HI275.out | apply IsB91.alloc | apply IsB91.drewN | apply IsB91.drew | apply IsB91.set_1) | exact HI275.out)); (case side2 => repeat (first | (with_reducible first | exact HB.out | apply below_alloc | apply pw_below_drewN | apply below_drew1 | refine below_set ?_ (IsB91.ge HI275.out)) | exact HB.out)); rintro e w65 ⟨rfl, hi, hb, hk⟩; refine ⟨_, rfl, ?_⟩; have n0_ := Aside0.mk (hb); have n1_ := Aside0.mk (hi); clear HB; clear HI275; have HB := n0_; have HI275 := n1_; clear n0_ n1_; (try clear hb); (try clear hb2); (try clear hk); (try clear hi); (try clear hge)))
                            go_meet
                            case rel => exact ⟨_, (true), (t282), (t283), (by first | rfl | (simp; done) | (simp [*]; done)), H', ⟨by have := HJ5.out; have := HJ15.out; have := HJ36.out; first | omega | exact Nat.le_refl _⟩, ⟨by repeat (first | (with_reducible first | exact HI275.out | apply IsB91.alloc | apply IsB91.drewN | apply IsB91.drew | apply IsB91.set_1) | exact HI275.out)⟩, ⟨by repeat (first | (with_reducible first | exact HB.out | apply below_alloc | apply pw_below_drewN | apply below_drew1 | refine below_set ?_ (IsB91.ge HI275.out)) | exact HB.out)⟩⟩
                        case rest =>
                          clear HC46
                          try clear c1
                          try clear c2
                          try clear p2
                          try clear c3
                          try clear q3
                          try clear c4
                          try clear q4
                          try clear c5
                          try clear p6
                          try clear c7
                          try clear c7b0
                          try clear c7b1
                          try clear c8
                          try clear c9
                          try clear c22
                          try clear c22b0
                          try clear c22b1
                          try clear c23
                          try clear c23b0
                          try clear c23b1
                          try clear c23b2
                          try clear c24
                          try clear c24b0
                          try clear c24b1
                          try clear c25
                          try clear c26
                          try clear c28
                          try clear c29
                          try clear c30
                          try clear c30b0
                          try clear c30b1
                          try clear c31
                          try clear c31b0
                          try clear c31b1
                          try clear c33
                          try clear c33b0
                          try clear c34
                          try clear c34b0
                          try clear c36
                          try clear c37
                          try clear c38
                          try clear q38
                          try clear q41
                          try clear c42
                          try clear c42b0
                          try clear c44
                          try clear c44b0
                          try clear c44b1
                          try clear c48
                          try clear c48b0
                          try clear c48b1
                          try clear c49
                          try clear c51
                          try clear c51b0
                          try clear c51b1
                          try clear p64
                          try clear p2
                          try clear p6
                          try clear q038
                          try clear q3
                          try clear q38
                          try clear q4
                          try clear q41
                          obtain ⟨kq, x125_45, x276000_45, x276001_45, rfl, HA, HJ45, HI275, HB⟩ := hcut
                          cases kq with
                          | zero => exact absurd HA.out (by simp [waybilllaw1_OctsBack.j3])
                          | succ kj45 =>
                            have H := HA.out
                            clear HA
                            simp only [waybilllaw1_OctsBack.j3] at H
                            by_cases c66 : x125_45 = true
                            · subst c66
                              have H1 : (none) = some r := by rw [if_pos rfl] at H; exact H
                              clear H
                              have H := H1
                              clear H1
                              exact absurd H (by simp)
                            · replace c66 := Bool.eq_false_iff.mpr c66
                              subst c66
                              have H1 : ((octs_In_Ok.f x276000_45 x276001_45).bind fun bt299 => (if bt299.1 = true then ((octs_In_Left.f bt299.2.1 bt299.2.2).bind fun bt302 => (if bt302.1 = 0 then ((octs_In_Rest.f bt302.2.1 bt302.2.2).bind fun bt305 => (if (bt305.1.length : Int) = 0 then ((octs_In_Int.f kj45 bt305.2.1 bt305.2.2 1).bind fun bt310 => (if bt310.1 = 0 then ((octs_In_Ok.f bt310.2.1 bt310.2.2).bind fun bt313 => (if bt313.1 = true then (none) else ((waybilllaw1_awake.f kj45).bind fun t316 => (some t316)))) else (none))) else (none))) else (none))) else (none))) = some r := by rw [if_neg (show ¬ (false = true) by decide)] at H; exact H
                              clear H
                              have H := H1
                              clear H1
                              replace H := Option.bind_eq_some_iff.mp H
                              obtain ⟨⟨t299, t300, t301⟩, A670, H⟩ := H
                              replace H : (if t299 = true then ((octs_In_Left.f t300 t301).bind fun bt302 => (if bt302.1 = 0 then ((octs_In_Rest.f bt302.2.1 bt302.2.2).bind fun bt305 => (if (bt305.1.length : Int) = 0 then ((octs_In_Int.f kj45 bt305.2.1 bt305.2.2 1).bind fun bt310 => (if bt310.1 = 0 then ((octs_In_Ok.f bt310.2.1 bt310.2.2).bind fun bt313 => (if bt313.1 = true then (none) else ((waybilllaw1_awake.f kj45).bind fun t316 => (some t316)))) else (none))) else (none))) else (none))) else (none)) = some r := H
                              have A67 := Aside0.mk A670
                              clear A670
                              by_cases c68 : t299 = true
                              · subst c68
                                have H1 : ((octs_In_Left.f t300 t301).bind fun bt302 => (if bt302.1 = 0 then ((octs_In_Rest.f bt302.2.1 bt302.2.2).bind fun bt305 => (if (bt305.1.length : Int) = 0 then ((octs_In_Int.f kj45 bt305.2.1 bt305.2.2 1).bind fun bt310 => (if bt310.1 = 0 then ((octs_In_Ok.f bt310.2.1 bt310.2.2).bind fun bt313 => (if bt313.1 = true then (none) else ((waybilllaw1_awake.f kj45).bind fun t316 => (some t316)))) else (none))) else (none))) else (none))) = some r := by rw [if_pos rfl] at H; exact H
                                clear H
                                have H := H1
                                clear H1
                                replace H := Option.bind_eq_some_iff.mp H
                                obtain ⟨⟨t302, t303, t304⟩, A690, H⟩ := H
                                replace H : (if t302 = 0 then ((octs_In_Rest.f t303 t304).bind fun bt305 => (if (bt305.1.length : Int) = 0 then ((octs_In_Int.f kj45 bt305.2.1 bt305.2.2 1).bind fun bt310 => (if bt310.1 = 0 then ((octs_In_Ok.f bt310.2.1 bt310.2.2).bind fun bt313 => (if bt313.1 = true then (none) else ((waybilllaw1_awake.f kj45).bind fun t316 => (some t316)))) else (none))) else (none))) else (none)) = some r := H
                                have A69 := Aside0.mk A690
                                clear A690
                                by_cases c70 : t302 = 0
                                · rw [if_pos c70] at H
                                  have c70b0 : (t302 == 0) = true := beq_iff_eq.mpr c70
                                  have c70b1 : (t302 != 0) = false := bne_eq_false_iff_eq.mpr c70
                                  clear c70
                                  replace H := Option.bind_eq_some_iff.mp H
                                  obtain ⟨⟨t305, t308, t309⟩, A710, H⟩ := H
                                  replace H : (if (t305.length : Int) = 0 then ((octs_In_Int.f kj45 t308 t309 1).bind fun bt310 => (if bt310.1 = 0 then ((octs_In_Ok.f bt310.2.1 bt310.2.2).bind fun bt313 => (if bt313.1 = true then (none) else ((waybilllaw1_awake.f kj45).bind fun t316 => (some t316)))) else (none))) else (none)) = some r := H
                                  have A71 := Aside0.mk A710
                                  clear A710
                                  by_cases c72 : (t305.length : Int) = 0
                                  · rw [if_pos c72] at H
                                    have c72b0 : ((t305.length : Int) == 0) = true := beq_iff_eq.mpr c72
                                    have c72b1 : ((t305.length : Int) != 0) = false := bne_eq_false_iff_eq.mpr c72
                                    clear c72
                                    replace H := Option.bind_eq_some_iff.mp H
                                    obtain ⟨⟨t310, t311, t312⟩, A730, H⟩ := H
                                    replace H : (if t310 = 0 then ((octs_In_Ok.f t311 t312).bind fun bt313 => (if bt313.1 = true then (none) else ((waybilllaw1_awake.f kj45).bind fun t316 => (some t316)))) else (none)) = some r := H
                                    have A73 := Aside0.mk A730
                                    clear A730
                                    by_cases c74 : t310 = 0
                                    · rw [if_pos c74] at H
                                      have c74b0 : (t310 == 0) = true := beq_iff_eq.mpr c74
                                      have c74b1 : (t310 != 0) = false := bne_eq_false_iff_eq.mpr c74
                                      clear c74
                                      replace H := Option.bind_eq_some_iff.mp H
                                      obtain ⟨⟨t313, t314, t315⟩, A750, H⟩ := H
                                      replace H : (if t313 = true then (none) else ((waybilllaw1_awake.f kj45).bind fun t316 => (some t316))) = some r := H
                                      have A75 := Aside0.mk A750
                                      clear A750
                                      by_cases c76 : t313 = true
                                      · subst c76
                                        have H1 : (none) = some r := by rw [if_pos rfl] at H; exact H
                                        clear H
                                        have H := H1
                                        clear H1
                                        exact absurd H (by simp)
                                      · replace c76 := Bool.eq_false_iff.mpr c76
                                        subst c76
                                        have H1 : ((waybilllaw1_awake.f kj45).bind fun t316 => (some t316)) = some r := by rw [if_neg (show ¬ (false = true) by decide)] at H; exact H
                                        clear H
                                        have H := H1
                                        clear H1
                                        replace H := Option.bind_eq_some_iff.mp H
                                        obtain ⟨t316, A770, H⟩ := H
                                        replace H : (some t316) = some r := H
                                        have A77 := Aside0.mk A770
                                        clear A770
                                        obtain rfl := Option.some.inj H
                                        go_wp2_with (first | ((with_reducible refine gate_callee (f := 27) rfl ?_); refine goesL_ (some 127) rfl rfl Try.func27 (by kernel_rfl) rfl #[.pointer (some ⟨g275, 0, none⟩)] rfl (by (try simp only [List.map_toArray, List.map_cons, List.map_nil]); first | done | rfl | (simp only [List.length_drop, List.length_take]; rfl)) ?_; (with_reducible refine (octs_In_Ok.callsB g275 x276000_45 x276001_45 true t300 t301 w _ ?side1 ?side2 A67.out).mono ?_); (case side1 => repeat (first | (with_reducible first | exact HI275.out | apply IsB91.alloc | apply IsB91.drewN | apply IsB91.drew | apply IsB91.set_1) | exact HI275.out)); (case side2 => repeat (first | (with_reducible first | exact HB.out | apply below_alloc | apply pw_below_drewN | apply below_drew1 | refine below_set ?_ (IsB91.ge HI275.out)) | exact HB.out)); rintro e w78 ⟨rfl, hi, hb, hk⟩; refine ⟨_, rfl, ?_⟩; have n0_ := Aside0.mk (hb); have n1_ := Aside0.mk (hi); clear HB; clear HI275; have HB := n0_; have HI275 := n1_; clear n0_ n1_; (try clear hb); (try clear hb2); (try clear hk); (try clear hi); (try clear hge)) | (go_at_call 35; (with_reducible refine (octs_In_Left.callsB g275 t300 t301 t302 t303 t304 w _ ?side1 ?side2 A69.out).mono ?_); (case side1 => repeat (first | (with_reducible first | exact HI275.out | apply IsB91.alloc | apply IsB91.drewN | apply IsB91.drew | apply IsB91.set_1) | exact HI275.out)); (case side2 => repeat (first | (with_reducible first | exact HB.out | apply below_alloc | apply pw_below_drewN | apply below_drew1 | refine below_set ?_ (IsB91.ge HI275.out)) | exact HB.out)); rintro e w79 ⟨rfl, hi, hb, hk⟩; have n0_ := Aside0.mk (hb); have n1_ := Aside0.mk (hi); clear HB; clear HI275; have HB := n0_; have HI275 := n1_; clear n0_ n1_; (try clear hb); (try clear hb2); (try clear hk); (try clear hi); (try clear hge)) | (go_at_call 34; (with_reducible refine (octs_In_Rest.callsB g275 t303 t304 t305 t308 t309 w _ ?side1 ?side2 A71.out).mono ?_); (case side1 => repeat (first | (with_reducible first | exact HI275.out | apply IsB91.alloc | apply IsB91.drewN | apply IsB91.drew | apply IsB91.set_1) | exact HI275.out)); (case side2 => repeat (first | (with_reducible first | exact HB.out | apply below_alloc | apply pw_below_drewN | apply below_drew1 | refine below_set ?_ (IsB91.ge HI275.out)) | exact HB.out)); rintro e w80 ⟨v306, rfl, ho0, hi, hb, hk⟩; have n0_ := Aside0.mk (Kd.R_lower ho0 (below_size (by repeat (first | (with_reducible first | exact HB.out | apply below_alloc | apply pw_below_drewN | apply below_drew1 | refine below_set ?_ (IsB91.ge HI275.out)) | exact HB.out)))); have n1_ := Aside0.mk (hb); have n2_ := Aside0.mk (hi); clear HB; clear HI275; have HO307 := n0_; have HB := n1_; have HI275 := n2_; clear n0_ n1_ n2_; (try clear hb); (try clear hb2); (try clear hk); (try clear hi); (try clear hge); (try clear ho0); obtain ⟨Ao81, co81, eo81⟩ := Kd.R_slice HO307.out; subst eo81) | (go_at_call 26; (with_reducible refine (octs_In_Int.callsB kj45 g275 t308 t309 1 t310 t311 t312 w _ ?side1 ?side2 A73.out).mono ?_); (case side1 => repeat (first | (with_reducible first | exact HI275.out | apply IsB91.alloc | apply IsB91.drewN | apply IsB91.drew | apply IsB91.set_1) | exact HI275.out)); (case side2 => repeat (first | (with_reducible first | exact HB.out | apply below_alloc | apply pw_below_drewN | apply below_drew1 | refine below_set ?_ (IsB91.ge HI275.out)) | exact HB.out)); rintro e w82 ⟨rfl, hi, hb, hk⟩; have n0_ := Aside0.mk (Kd.R_mono (Kd.R_keep (IsB91.apart (show IsB91 w _ g275 t308 t309 from by repeat (first | (with_reducible first | exact HI275.out | apply IsB91.alloc | apply IsB91.drewN | apply IsB91.drew | apply IsB91.set_1) | exact HI275.out)) (by (with_reducible repeat (first | apply Kd.R_alloc | apply Kd.R_drewN | apply Kd.R_drew)); exact HO307.out) (by decide)) hk (fun _ h => h.2)) (fun _ h => h.1)); have n1_ := Aside0.mk (hb); have n2_ := Aside0.mk (hi); clear HO307; clear HB; clear HI275; have HO307 := n0_; have HB := n1_; have HI275 := n2_; clear n0_ n1_ n2_; (try clear hb); (try clear hb2); (try clear hk); (try clear hi); (try clear hge)) | (go_at_call 27; (with_reducible refine (octs_In_Ok.callsB g275 t311 t312 false t314 t315 w _ ?side1 ?side2 A75.out).mono ?_); (case side1 => repeat (first | (with_reducible first | exact HI275.out | apply IsB91.alloc | apply IsB91.drewN | apply IsB91.drew | apply IsB91.set_1) | exact HI275.out)); (case side2 => repeat (first | (with_reducible first | exact HB.out | apply below_alloc | apply pw_below_drewN | apply below_drew1 | refine below_set ?_ (IsB91.ge HI275.out)) | exact HB.out)); rintro e w83 ⟨rfl, hi, hb, hk⟩; have n0_ := Aside0.mk (Kd.R_mono (Kd.R_keep (IsB91.apart (show IsB91 w _ g275 t311 t312 from by repeat (first | (with_reducible first | exact HI275.out | apply IsB91.alloc | apply IsB91.drewN | apply IsB91.drew | apply IsB91.set_1) | exact HI275.out)) (by (with_reducible repeat (first | apply Kd.R_alloc | apply Kd.R_drewN | apply Kd.R_drew)); exact HO307.out) (by decide)) hk (fun _ h => h.2)) (fun _ h => h.1)); have n1_ := Aside0.mk (hb); have n2_ := Aside0.mk (hi); clear HO307; clear HB; clear HI275; have HO307 := n0_; have HB := n1_; have HI275 := n2_; clear n0_ n1_ n2_; (try clear hb); (try clear hb2); (try clear hk); (try clear hi); (try clear hge)) | (go_at_call 28; (with_reducible refine (waybilllaw1_awake.calls kj45  t316 _ A77.out).mono ?_); rintro e w84 ⟨rfl, hb⟩; have n0_ := Aside0.mk (Kd.R_below (by (with_reducible repeat (first | apply Kd.R_alloc | apply Kd.R_drewN | apply Kd.R_drew)); exact HO307.out) hb); have n1_ := Aside0.mk (IsB91.below (by repeat (first | (with_reducible first | exact HI275.out | apply IsB91.alloc | apply IsB91.drewN | apply IsB91.drew | apply IsB91.set_1) | exact HI275.out)) hb); have n2_ := Aside0.mk (below_step (by repeat (first | (with_reducible first | exact HB.out | apply below_alloc | apply pw_below_drewN | apply below_drew1 | refine below_set ?_ (IsB91.ge HI275.out)) | exact HB.out)) hb); clear HO307; clear HI275; clear HB; have HO307 := n0_; have HI275 := n1_; have HB := n2_; clear n0_ n1_ n2_; (try clear hb); (try clear hb2); (try clear hk); (try clear hi); (try clear hge)))
                                        all_goals first | (go_ret; exact ⟨by first | rfl | (simp [errW_none, errW_some] <;> rfl) | (simp only [← hji11, ← hji12]; first | rfl | (simp [errW_none, errW_some] <;> rfl)) | (simp [*, errW_none, errW_some] <;> rfl), by repeat (first | (with_reducible first | exact HB.out | apply below_alloc | apply pw_below_drewN | apply below_drew1 | refine below_set ?_ (IsB91.ge HI275.out)) | exact HB.out)⟩) | (exfalso; simp_all; done)
                                    · rw [if_neg c74] at H
                                      exact absurd H (by simp)
                                  · rw [if_neg c72] at H
                                    exact absurd H (by simp)
                                · rw [if_neg c70] at H
                                  exact absurd H (by simp)
                              · replace c68 := Bool.eq_false_iff.mpr c68
                                subst c68
                                have H1 : (none) = some r := by rw [if_neg (show ¬ (false = true) by decide)] at H; exact H
                                clear H
                                have H := H1
                                clear H1
                                exact absurd H (by simp)
                  · replace c36 := Bool.eq_false_iff.mpr c36
                    subst c36
                    have H1 : (none) = some r := by rw [if_neg (show ¬ (false = true) by decide)] at H; exact H
                    clear H
                    have H := H1
                    clear H1
                    exact absurd H (by simp)
                · rw [if_neg c31] at H
                  exact absurd H (by simp)
              · rw [if_neg c30] at H
                exact absurd H (by simp)

/-- THE ONE PURE STATEMENT of waybilllaw1_OctsBack: yours. -/
def waybilllaw1_OctsBack.Pure : Prop := ∀ (l0 : List Int) (a1 : Int) (a2 : Int) (a3 : ByteArray) (l4 : List Int), l0.length ≤ maxLen → l0.length * 1 ≤ 140737488351232 → (∀ x ∈ l0, (Lit.int .u8 x).wf = true) → (Lit.int .i64 a1).wf = true → (Lit.int .u64 a2).wf = true → a3.size ≤ 140737488351232 → l4.length ≤ maxLen → l4.length * 1 ≤ 140737488351232 → (∀ x ∈ l4, (Lit.int .u8 x).wf = true) → ∃ k, waybilllaw1_OctsBack.f k l0 a1 a2 a3 l4 = some true
theorem waybilllaw1_OctsBack.walk (P : waybilllaw1_OctsBack.Pure) (a0 : Option Addr) (len0 cap0 : Nat) (z0 : List Int) (a1 : Int) (a2 : Int) (a3 : ByteArray) (a4 : Option Addr) (len4 cap4 : Nat) (z4 : List Int) (w : World) (w0 : (a0 = none ∧ len0 = 0 ∧ cap0 = 0 ∧ z0 = []) ∨ ∃ x, a0 = some x ∧ len0 ≤ cap0 ∧ cap0 ≤ maxLen ∧ z0.length = cap0 ∧ (∀ i, i < z0.length → w.cell? (x.add i) = some (.int .u8 (z0.getD i 0))) ∧ ∀ n ∈ z0, (Lit.int .u8 n).wf = true) (y0 : len0 * 1 ≤ 140737488351232) (w1 : (Lit.int .i64 a1).wf = true) (w2 : (Lit.int .u64 a2).wf = true) (w3 : a3.size ≤ 140737488351232) (w4 : (a4 = none ∧ len4 = 0 ∧ cap4 = 0 ∧ z4 = []) ∨ ∃ x, a4 = some x ∧ len4 ≤ cap4 ∧ cap4 ≤ maxLen ∧ z4.length = cap4 ∧ (∀ i, i < z4.length → w.cell? (x.add i) = some (.int .u8 (z4.getD i 0))) ∧ ∀ n ∈ z4, (Lit.int .u8 n).wf = true) (y4 : len4 * 1 ≤ 140737488351232) :
    Calls Try.prog 9 #[.slice a0 len0 cap0, .int .i64 a1, .int .u64 a2, .string a3, .slice a4 len4 cap4] w fun e w' => e = .returned (.bool true) ∧ Below w.heap.size w w' := by
  obtain ⟨l0, rfl, hr0, hm0, hw0, hc0⟩ := ReadsInt.ofRowC w0
  obtain ⟨l4, rfl, hr4, hm4, hw4, hc4⟩ := ReadsInt.ofRowC w4
  obtain ⟨k, h⟩ := P l0 a1 a2 a3 l4 hm0 y0 hw0 w1 w2 w3 hm4 y4 hw4
  refine (waybilllaw1_OctsBack.calls k _ _ l0 a1 a2 a3 _ _ l4 true w (Kd.C_of_reads (d := (0 : Int)) (h1 := fun _ => rfl) hr0) hc0 (Kd.C_of_reads (d := (0 : Int)) (h1 := fun _ => rfl) hr4) hc4 h).mono ?_
  rintro e w' ⟨rfl, hd⟩
  exact ⟨rfl, hd⟩

end Go.Proofs.Ytlhcjgmdcnmnnaa.PB1
