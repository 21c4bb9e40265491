/- What functions of the given program come to, and that they do: written out of the translation by a program of this session; Lean checks it. -/
import Derived.Test.YtfhaffpegncdiaaPNx0
import Derived.Test.YtfhaffpegncdiaaPNx3
import Derived.Test.YtfhaffpegncdiaaPNx5
import Derived.Test.YtfhaffpegncdiaaPNx10
namespace Go.Proofs.Ytfhaffpegncdiaa.PN
open Go.RowKit Go.Proofs.YtfhaffpegncdiaaW.PrintWords Go.Proofs.YtfhaffpegncdiaaW.PrintLast Go.Proofs.YtfhaffpegncdiaaW.PrintMore
attribute [local go_sem] max2_int min2_int max_two min_two max_three min_three max_four min_four   -- for this text's walks alone
set_option linter.unusedVariables false
set_option linter.unusedSimpArgs false

/-! ### waybilllaw10_NodeBounds: function 7 -/
mutual
def waybilllaw10_NodeBounds.l0 : Nat → Int → Int → Int → Bool → ByteArray → ByteArray → Int → Option (Bool)
  | 0, _, _, _, _, _, _, _ => none
  | k + 1, x0, x1, x2, x3, x9, x10, x11 => if x11 < x0 then (if x9.size + 1 ≤ 9223372036854775807 then (waybilllaw10_NodeBounds.l0 k x0 x1 x2 x3 (x9 ++ (⟨#[107]⟩ : ByteArray)) x10 (wrap64 (x11 + 1))) else (none)) else (waybilllaw10_NodeBounds.l1 k x0 x1 x2 x3 x9 x10 0)
def waybilllaw10_NodeBounds.l1 : Nat → Int → Int → Int → Bool → ByteArray → ByteArray → Int → Option (Bool)
  | 0, _, _, _, _, _, _, _ => none
  | k + 1, x0, x1, x2, x3, x9, x10, x12 => if x12 < x1 then (if x10.size + 1 ≤ 9223372036854775807 then (waybilllaw10_NodeBounds.l1 k x0 x1 x2 x3 x9 (x10 ++ (⟨#[118]⟩ : ByteArray)) (wrap64 (x12 + 1))) else (none)) else ((some (([(⟨x9, (⟨#[]⟩ : ByteArray), x2⟩ : S41)] : List (S41)) : List (S41))).bind fun y254 => (if x0 ≤ 130 then (if x2 ≥ 2 then (waybilllaw10_NodeBounds.j2 k x0 x1 x3 x10 (decide (x2 ≤ 4294967295)) x3 y254) else (waybilllaw10_NodeBounds.j2 k x0 x1 x3 x10 false x3 y254)) else (waybilllaw10_NodeBounds.j2 k x0 x1 x3 x10 false x3 y254)))
def waybilllaw10_NodeBounds.j2 : Nat → Int → Int → Bool → ByteArray → Bool → Bool → List (S41) → Option (Bool)
  | 0, _, _, _, _, _, _, _ => none
  | k + 1, x0, x1, x3, x10, x14, x258000, x258001 => if x3 = true then (if 0 < (x258001.length : Int) then ((some (x258001.set (0 : Int).toNat (⟨(rd_T41 x258001 0).f0, (rd_T41 x258001 0).f1, 0⟩ : S41) : List (S41))).bind fun y258 => ((some (y258.set (0 : Int).toNat (⟨(rd_T41 y258 0).f0, x10, (rd_T41 y258 0).f2⟩ : S41) : List (S41))).bind fun y259 => (if x0 ≤ 130 then (waybilllaw10_NodeBounds.j3 k x3 (decide (x1 ≤ 20)) x258000 y259) else (waybilllaw10_NodeBounds.j3 k x3 false x258000 y259)))) else (none)) else (waybilllaw10_NodeBounds.j3 k x3 x14 x258000 x258001)
def waybilllaw10_NodeBounds.j3 : Nat → Bool → Bool → Bool → List (S41) → Option (Bool)
  | 0, _, _, _, _ => none
  | k + 1, x3, x14, x258000, x258001 => (some (([] : List (S41)) : List (S41))).bind fun y260 => (if y260.length + x258001.length < 3518437208883 then ((some (y260 ++ x258001 : List (S41))).bind fun y263 => (if y263.length + x258001.length < 3518437208883 then ((node_Append.f k x258000 x258001).bind fun bt270 => ((node_Ok.f k x258000 x258001).bind fun t274 => (if (t274 == x14) = true then (if (bt270.2 == x14) = true then ((node_Ok.f k x3 (y263 ++ x258001)).bind fun t275 => (if t275 = true then (none) else ((node_Ok.f k true ([] : List (S41))).bind fun t276 => (if t276 = true then ((node_Ok.f k false ([] : List (S41))).bind fun t277 => (if t277 = true then (none) else ((waybilllaw10_awake.f k).bind fun t278 => (some t278)))) else (none))))) else (none)) else (none)))) else (none))) else (none))
end
def waybilllaw10_NodeBounds.f (k : Nat) (a0 : Int) (a1 : Int) (a2 : Int) (a3 : Bool) : Option (Bool) := waybilllaw10_NodeBounds.l0 k (wrap64 (125 + (Go.bits .and .i64 a0 7))) (wrap64 (16 + (Go.bits .and .i64 a1 7))) a2 a3 (⟨#[]⟩ : ByteArray) (⟨#[]⟩ : ByteArray) 0
theorem waybilllaw10_NodeBounds.mono_l : ∀ k, (∀ y0 y1 y2 y3 y4 y5 y6, LeO (waybilllaw10_NodeBounds.l0 k y0 y1 y2 y3 y4 y5 y6) (waybilllaw10_NodeBounds.l0 (k + 1) y0 y1 y2 y3 y4 y5 y6)) ∧ (∀ y0 y1 y2 y3 y4 y5 y6, LeO (waybilllaw10_NodeBounds.l1 k y0 y1 y2 y3 y4 y5 y6) (waybilllaw10_NodeBounds.l1 (k + 1) y0 y1 y2 y3 y4 y5 y6)) ∧ (∀ y0 y1 y2 y3 y4 y5 y6, LeO (waybilllaw10_NodeBounds.j2 k y0 y1 y2 y3 y4 y5 y6) (waybilllaw10_NodeBounds.j2 (k + 1) y0 y1 y2 y3 y4 y5 y6)) ∧ (∀ y0 y1 y2 y3, LeO (waybilllaw10_NodeBounds.j3 k y0 y1 y2 y3) (waybilllaw10_NodeBounds.j3 (k + 1) y0 y1 y2 y3))
  | 0 => ⟨fun _ _ _ _ _ _ _ r h => by simp [waybilllaw10_NodeBounds.l0] at h, fun _ _ _ _ _ _ _ r h => by simp [waybilllaw10_NodeBounds.l1] at h, fun _ _ _ _ _ _ _ r h => by simp [waybilllaw10_NodeBounds.j2] at h, fun _ _ _ _ r h => by simp [waybilllaw10_NodeBounds.j3] at h⟩
  | k + 1 => by
    obtain ⟨ih0, ih1, ih2, ih3⟩ := waybilllaw10_NodeBounds.mono_l k
    refine ⟨?_, ?_, ?_, ?_⟩
    · intro y0 y1 y2 y3 y4 y5 y6
      unfold waybilllaw10_NodeBounds.l0
      repeat' first
      | (with_reducible exact ih0 _ _ _ _ _ _ _)
      | (with_reducible exact ih1 _ _ _ _ _ _ _)
      | (with_reducible exact ih2 _ _ _ _ _ _ _)
      | (with_reducible exact ih3 _ _ _ _)
      | (with_reducible exact node_Append.mono _ _ _)
      | (with_reducible exact node_Ok.mono _ _ _)
      | (with_reducible exact waybilllaw10_awake.mono _)
      | (with_reducible exact LeO.refl _)
      | (with_reducible exact LeO.none _)
      | (with_reducible refine LeO.ite ?_ ?_)
      | (with_reducible refine LeO.bind ?_ (fun _ => ?_))
      | exact ih0 _ _ _ _ _ _ _
      | exact ih1 _ _ _ _ _ _ _
      | exact ih2 _ _ _ _ _ _ _
      | exact ih3 _ _ _ _
      | exact node_Append.mono _ _ _
      | exact node_Ok.mono _ _ _
      | exact waybilllaw10_awake.mono _
      | exact LeO.none _
      | refine LeO.ite ?_ ?_
      | refine LeO.bind ?_ (fun _ => ?_)
    · intro y0 y1 y2 y3 y4 y5 y6
      unfold waybilllaw10_NodeBounds.l1
      repeat' first
      | (with_reducible exact ih0 _ _ _ _ _ _ _)
      | (with_reducible exact ih1 _ _ _ _ _ _ _)
      | (with_reducible exact ih2 _ _ _ _ _ _ _)
      | (with_reducible exact ih3 _ _ _ _)
      | (with_reducible exact node_Append.mono _ _ _)
      | (with_reducible exact node_Ok.mono _ _ _)
      | (with_reducible exact waybilllaw10_awake.mono _)
      | (with_reducible exact LeO.refl _)
      | (with_reducible exact LeO.none _)
      | (with_reducible refine LeO.ite ?_ ?_)
      | (with_reducible refine LeO.bind ?_ (fun _ => ?_))
      | exact ih0 _ _ _ _ _ _ _
      | exact ih1 _ _ _ _ _ _ _
      | exact ih2 _ _ _ _ _ _ _
      | exact ih3 _ _ _ _
      | exact node_Append.mono _ _ _
      | exact node_Ok.mono _ _ _
      | exact waybilllaw10_awake.mono _
      | exact LeO.none _
      | refine LeO.ite ?_ ?_
      | refine LeO.bind ?_ (fun _ => ?_)
    · intro y0 y1 y2 y3 y4 y5 y6
      unfold waybilllaw10_NodeBounds.j2
      repeat' first
      | (with_reducible exact ih0 _ _ _ _ _ _ _)
      | (with_reducible exact ih1 _ _ _ _ _ _ _)
      | (with_reducible exact ih2 _ _ _ _ _ _ _)
      | (with_reducible exact ih3 _ _ _ _)
      | (with_reducible exact node_Append.mono _ _ _)
      | (with_reducible exact node_Ok.mono _ _ _)
      | (with_reducible exact waybilllaw10_awake.mono _)
      | (with_reducible exact LeO.refl _)
      | (with_reducible exact LeO.none _)
      | (with_reducible refine LeO.ite ?_ ?_)
      | (with_reducible refine LeO.bind ?_ (fun _ => ?_))
      | exact ih0 _ _ _ _ _ _ _
      | exact ih1 _ _ _ _ _ _ _
      | exact ih2 _ _ _ _ _ _ _
      | exact ih3 _ _ _ _
      | exact node_Append.mono _ _ _
      | exact node_Ok.mono _ _ _
      | exact waybilllaw10_awake.mono _
      | exact LeO.none _
      | refine LeO.ite ?_ ?_
      | refine LeO.bind ?_ (fun _ => ?_)
    · intro y0 y1 y2 y3
      unfold waybilllaw10_NodeBounds.j3
      repeat' first
      | (with_reducible exact ih0 _ _ _ _ _ _ _)
      | (with_reducible exact ih1 _ _ _ _ _ _ _)
      | (with_reducible exact ih2 _ _ _ _ _ _ _)
      | (with_reducible exact ih3 _ _ _ _)
      | (with_reducible exact node_Append.mono _ _ _)
      | (with_reducible exact node_Ok.mono _ _ _)
      | (with_reducible exact waybilllaw10_awake.mono _)
      | (with_reducible exact LeO.refl _)
      | (with_reducible exact LeO.none _)
      | (with_reducible refine LeO.ite ?_ ?_)
      | (with_reducible refine LeO.bind ?_ (fun _ => ?_))
      | exact ih0 _ _ _ _ _ _ _
      | exact ih1 _ _ _ _ _ _ _
      | exact ih2 _ _ _ _ _ _ _
      | exact ih3 _ _ _ _
      | exact node_Append.mono _ _ _
      | exact node_Ok.mono _ _ _
      | exact waybilllaw10_awake.mono _
      | exact LeO.none _
      | refine LeO.ite ?_ ?_
      | refine LeO.bind ?_ (fun _ => ?_)
theorem waybilllaw10_NodeBounds.mono : ∀ a0 a1 a2 a3 k, LeO (waybilllaw10_NodeBounds.f k a0 a1 a2 a3) (waybilllaw10_NodeBounds.f (k + 1) a0 a1 a2 a3) := by
  intro a0 a1 a2 a3 k
  obtain ⟨ih0, ih1, ih2, ih3⟩ := waybilllaw10_NodeBounds.mono_l k
  unfold waybilllaw10_NodeBounds.f
  repeat' first
      | (with_reducible exact ih0 _ _ _ _ _ _ _)
      | (with_reducible exact ih1 _ _ _ _ _ _ _)
      | (with_reducible exact ih2 _ _ _ _ _ _ _)
      | (with_reducible exact ih3 _ _ _ _)
      | (with_reducible exact node_Append.mono _ _ _)
      | (with_reducible exact node_Ok.mono _ _ _)
      | (with_reducible exact waybilllaw10_awake.mono _)
      | (with_reducible exact LeO.refl _)
      | (with_reducible exact LeO.none _)
      | (with_reducible refine LeO.ite ?_ ?_)
      | (with_reducible refine LeO.bind ?_ (fun _ => ?_))
      | exact ih0 _ _ _ _ _ _ _
      | exact ih1 _ _ _ _ _ _ _
      | exact ih2 _ _ _ _ _ _ _
      | exact ih3 _ _ _ _
      | exact node_Append.mono _ _ _
      | exact node_Ok.mono _ _ _
      | exact waybilllaw10_awake.mono _
      | exact LeO.none _
      | refine LeO.ite ?_ ?_
      | refine LeO.bind ?_ (fun _ => ?_)
def waybilllaw10_NodeBounds.T14 : Bool × List (List Nat × List Nat) := (true, [([], []), ([0], [0]), ([], []), ([2], [2]), ([], []), ([1, 0, 1], [1]), ([5, 0, 1], [5]), ([6, 0, 1], [6]), ([3, 0, 1, 2, 3, 4, 5, 6, 7], [3]), ([8, 0, 1, 2, 3, 4, 5, 6, 7], [8]), ([9, 4, 7, 0, 1, 2, 3, 4, 5, 6, 7], [4, 9])])
def waybilllaw10_NodeBounds.B14 : List Nat := [0, 1, 0, 4, 0, 3, 35, 99, 255, 511, 1023]
theorem waybilllaw10_NodeBounds.tab14 : rtab .any (opsOf Try.f7 14) = waybilllaw10_NodeBounds.T14 := by kernel_rfl
theorem waybilllaw10_NodeBounds.bits14 : waitsOk waybilllaw10_NodeBounds.T14.2 waybilllaw10_NodeBounds.B14 = true := by kernel_rfl
def waybilllaw10_NodeBounds.T16 : Bool × List (List Nat × List Nat) := (true, [([], []), ([], []), ([], []), ([2], [2]), ([1, 3], [1, 3]), ([], []), ([5], [5]), ([4, 6, 4], [4, 6]), ([0, 7], [0, 7]), ([], []), ([9, 8, 7, 0, 1, 2, 3, 4, 5, 6, 7, 8, 9], [8, 9])])
def waybilllaw10_NodeBounds.B16 : List Nat := [0, 0, 0, 4, 14, 0, 32, 126, 255, 0, 1023]
theorem waybilllaw10_NodeBounds.tab16 : rtab .any (opsOf Try.f7 16) = waybilllaw10_NodeBounds.T16 := by kernel_rfl
theorem waybilllaw10_NodeBounds.bits16 : waitsOk waybilllaw10_NodeBounds.T16.2 waybilllaw10_NodeBounds.B16 = true := by kernel_rfl
set_option maxHeartbeats 8000000 in
set_option maxRecDepth 100000 in
theorem waybilllaw10_NodeBounds.calls (k : Nat) (a0 : Int) (a1 : Int) (a2 : Int) (a3 : Bool) (r : Bool) (w : World) (h : waybilllaw10_NodeBounds.f k a0 a1 a2 a3 = some r) :
    Calls Try.prog 7 #[.int .i64 a0, .int .i64 a1, .int .i64 a2, .bool a3] w fun e w' => e = .returned (.bool r) ∧ Below w.heap.size w w' := by
  have hu41 := Try.underlying41
  have hu44 := Try.underlying44
  have HB := Aside0.mk (Below.refl w.heap.size w)
  have H : (waybilllaw10_NodeBounds.l0 k (wrap64 (125 + (Go.bits .and .i64 a0 7))) (wrap64 (16 + (Go.bits .and .i64 a1 7))) a2 a3 (⟨#[]⟩ : ByteArray) (⟨#[]⟩ : ByteArray) 0) = some r := h
  clear h
  have H' := Aside0.mk H
  clear H
  go_enter Try.func7, Try.ntmps7
  go_wp2
  go_loopg [9, 11] k (fun kq v9 v11 w' => ∃ (x9_1 : ByteArray) (x11_1 : Int), v9 = .string x9_1 ∧ v11 = .int .i64 x11_1 ∧ Aside0 (waybilllaw10_NodeBounds.l0 kq (wrap64 (125 + (Go.bits .and .i64 a0 7))) (wrap64 (16 + (Go.bits .and .i64 a1 7))) a2 a3 x9_1 (⟨#[]⟩ : ByteArray) x11_1 = some r) ∧ Aside0 (kq ≤ k) ∧ Aside0 (Below w.heap.size w w'))
  case atStart => exact ⟨((⟨#[]⟩ : ByteArray)), (0), (by first | rfl | (simp; done) | (simp [*]; done)), (by first | rfl | (simp; done) | (simp [*]; done)), H', ⟨Nat.le_refl _⟩, ⟨by repeat (first | (with_reducible first | exact HB.out | apply below_alloc | apply pw_below_drewN | apply below_drew1) | exact HB.out)⟩⟩
  case round =>
    clear H'
    try clear p2
    obtain ⟨x9_1, x11_1, rfl, rfl, HA, HK1, HB⟩ := hrel
    cases gk with
    | zero => exact absurd HA.out (by simp [waybilllaw10_NodeBounds.l0])
    | succ k1 =>
      have H := HA.out
      clear HA
      simp only [waybilllaw10_NodeBounds.l0] at H
      by_cases c5 : x11_1 < (wrap64 (125 + (Go.bits .and .i64 a0 7)))
      · rw [if_pos c5] at H
        have c5b0 : decide (x11_1 < (wrap64 (125 + (Go.bits .and .i64 a0 7)))) = true := decide_eq_true c5
        clear c5
        by_cases c6 : x9_1.size + 1 ≤ 9223372036854775807
        · rw [if_pos c6] at H
          have c6b0 := eq_true c6
          have c6b1 : decide (x9_1.size + 1 ≤ 9223372036854775807) = true := decide_eq_true c6
          try have c6b2 : (9223372036854775807 < x9_1.size + 1) = False := eq_false (Nat.not_lt.2 c6)
          have H' := Aside0.mk H
          clear H
          go_wp2
          go_roundg k1
          case measure => have := HK1.out; omega
          case rel => exact ⟨(x9_1 ++ (⟨#[107]⟩ : ByteArray)), (wrap64 (x11_1 + 1)), (by first | rfl | (simp; done) | (simp [*]; done)), (by first | rfl | (simp; done) | (simp [*]; done)), H', ⟨by have := HK1.out; omega⟩, ⟨by repeat (first | (with_reducible first | exact HB.out | apply below_alloc | apply pw_below_drewN | apply below_drew1) | exact HB.out)⟩⟩
        · rw [if_neg c6] at H
          exact absurd H (by simp)
      · rw [if_neg c5] at H
        have c5b0 : decide (x11_1 < (wrap64 (125 + (Go.bits .and .i64 a0 7)))) = false := decide_eq_false c5
        clear c5
        have H' := Aside0.mk H
        clear H
        go_wp2
        go_loopg [10, 12] k1 (fun kq v10 v12 w' => ∃ (x10_2 : ByteArray) (x12_2 : Int), v10 = .string x10_2 ∧ v12 = .int .i64 x12_2 ∧ Aside0 (waybilllaw10_NodeBounds.l1 kq (wrap64 (125 + (Go.bits .and .i64 a0 7))) (wrap64 (16 + (Go.bits .and .i64 a1 7))) a2 a3 x9_1 x10_2 x12_2 = some r) ∧ Aside0 (kq ≤ k1) ∧ Aside0 (Below w.heap.size w w'))
        case atStart => exact ⟨((⟨#[]⟩ : ByteArray)), (0), (by first | rfl | (simp; done) | (simp [*]; done)), (by first | rfl | (simp; done) | (simp [*]; done)), H', ⟨Nat.le_refl _⟩, ⟨by repeat (first | (with_reducible first | exact HB.out | apply below_alloc | apply pw_below_drewN | apply below_drew1) | exact HB.out)⟩⟩
        case round =>
          clear H'
          try clear p2
          try clear c5
          try clear c5b0
          try clear c6
          try clear c6b0
          try clear c6b1
          try clear c6b2
          try clear p6
          try clear p2
          obtain ⟨x10_2, x12_2, rfl, rfl, HA, HK2, HB⟩ := hrel
          cases gk with
          | zero => exact absurd HA.out (by simp [waybilllaw10_NodeBounds.l1])
          | succ k2 =>
            have H := HA.out
            clear HA
            simp only [waybilllaw10_NodeBounds.l1] at H
            by_cases c7 : x12_2 < (wrap64 (16 + (Go.bits .and .i64 a1 7)))
            · rw [if_pos c7] at H
              have c7b0 : decide (x12_2 < (wrap64 (16 + (Go.bits .and .i64 a1 7)))) = true := decide_eq_true c7
              clear c7
              by_cases c8 : x10_2.size + 1 ≤ 9223372036854775807
              · rw [if_pos c8] at H
                have c8b0 := eq_true c8
                have c8b1 : decide (x10_2.size + 1 ≤ 9223372036854775807) = true := decide_eq_true c8
                try have c8b2 : (9223372036854775807 < x10_2.size + 1) = False := eq_false (Nat.not_lt.2 c8)
                have H' := Aside0.mk H
                clear H
                go_wp2
                go_roundg k2
                case measure => have := HK1.out; have := HK2.out; omega
                case rel => exact ⟨(x10_2 ++ (⟨#[118]⟩ : ByteArray)), (wrap64 (x12_2 + 1)), (by first | rfl | (simp; done) | (simp [*]; done)), (by first | rfl | (simp; done) | (simp [*]; done)), H', ⟨by have := HK1.out; have := HK2.out; omega⟩, ⟨by repeat (first | (with_reducible first | exact HB.out | apply below_alloc | apply pw_below_drewN | apply below_drew1) | exact HB.out)⟩⟩
              · rw [if_neg c8] at H
                exact absurd H (by simp)
            · rw [if_neg c7] at H
              have c7b0 : decide (x12_2 < (wrap64 (16 + (Go.bits .and .i64 a1 7)))) = false := decide_eq_false c7
              clear c7
              obtain ⟨y254, hy254⟩ : ∃ y_ : List (S41), y_ = (([(⟨x9_1, (⟨#[]⟩ : ByteArray), a2⟩ : S41)] : List (S41))) := ⟨_, rfl⟩
              replace H : (if (wrap64 (125 + (Go.bits .and .i64 a0 7))) ≤ 130 then (if a2 ≥ 2 then (waybilllaw10_NodeBounds.j2 k2 (wrap64 (125 + (Go.bits .and .i64 a0 7))) (wrap64 (16 + (Go.bits .and .i64 a1 7))) a3 x10_2 (decide (a2 ≤ 4294967295)) a3 y254) else (waybilllaw10_NodeBounds.j2 k2 (wrap64 (125 + (Go.bits .and .i64 a0 7))) (wrap64 (16 + (Go.bits .and .i64 a1 7))) a3 x10_2 false a3 y254)) else (waybilllaw10_NodeBounds.j2 k2 (wrap64 (125 + (Go.bits .and .i64 a0 7))) (wrap64 (16 + (Go.bits .and .i64 a1 7))) a3 x10_2 false a3 y254)) = some r := by first | (rw [hy254]; with_reducible exact H) | (have H2_ := (Option.bind_some _ _).symm.trans H; rw [hy254]; with_reducible exact H2_) | (have H2_ := (Option.bind_some _ _).symm.trans H; with_reducible exact H2_) | with_reducible exact H | (rw [hy254]; exact H) | exact H
              have Ny254 := Aside0.mk hy254
              clear hy254
              have HC9 := Aside0.mk H
              clear H
              go_upto_region 12 with (first | ((with_reducible refine gate_dst (N := 42) rfl ?_); refine Kd.R_lit k41 _ 41 ?hg (N := 42) ?hd (xs := ([(⟨x9_1, (⟨#[]⟩ : ByteArray), a2⟩ : S41)] : List (S41))) (inner := [.string x9_1, .string (⟨#[]⟩ : ByteArray), .int .i64 a2]) (ok := fun _ => True) (okp := fun _ => True) ?hr ?hp (fun _ hk => hk) trivial (Below.refl _ _) (Nat.le_refl _) (by simp) ?_; (case hd => rfl); (case hg => rfl); (case hr => first | (go_simp; done) | (go_simp; rfl)); (case hp => exact (Reps.c3 (show Kd.M k41 _ _ _ (⟨x9_1, (⟨#[]⟩ : ByteArray), a2⟩ : S41) [.string x9_1, .string (⟨#[]⟩ : ByteArray), .int .i64 a2] from (k41_mkM _ _ _ (⟨x9_1, (⟨#[]⟩ : ByteArray), a2⟩ : S41) )) (Reps.none _ _))); intro v255 w10 ho11 hb hg_ hnew_; clear hg_ hnew_; (first | rw [← Ny254.out] at ho11 | (simp only [Int.reduceToNat] at ho11; rw [← Ny254.out] at ho11)); have n0_ := Aside0.mk (Kd.R_lower ho11 (below_size (by repeat (first | (with_reducible first | exact HB.out | apply below_alloc | apply pw_below_drewN | apply below_drew1) | exact HB.out)))); have n1_ := Aside0.mk (below_step (by repeat (first | (with_reducible first | exact HB.out | apply below_alloc | apply pw_below_drewN | apply below_drew1) | exact HB.out)) hb); clear HB; have HO256 := n0_; have HB := n1_; clear n0_ n1_; clear hb ho11; obtain ⟨Ao12, co12, eo12⟩ := Kd.R_slice HO256.out; subst eo12) | ((with_reducible refine gate_dst (N := 13) rfl ?_); refine box_event ?hg (N := 13) ?hd (cs := #[.bool false, .slice none 0 0]) (t := 44) ?hr ?_; (case hd => rfl); (case hg => rfl); (case hr => first | (go_simp; done) | (go_simp; rfl)); intro gb257 hg w13 hbox hb; have n0_ := Aside0.mk (Kd.R_below (by (with_reducible repeat (first | apply Kd.R_alloc | apply Kd.R_drewN | apply Kd.R_drew)); exact HO256.out) hb); have n1_ := Aside0.mk (below_step (by repeat (first | (with_reducible first | exact HB.out | apply below_alloc | apply pw_below_drewN | apply below_drew1) | exact HB.out)) hb); have n2_ := Aside0.mk (hbox); have n3_ := Aside0.mk ((by rw [hg]; exact (below_size (by repeat (first | (with_reducible first | exact HB.out | apply below_alloc | apply pw_below_drewN | apply below_drew1) | exact HB.out))) : w.heap.size ≤ gb257)); have n4_ := Aside0.mk ((by rw [hg]; exact (below_size (by repeat (first | (with_reducible first | exact HB.out | apply below_alloc | apply pw_below_drewN | apply below_drew1) | exact HB.out))) : w.heap.size ≤ gb257)); clear HO256; clear HB; have HO256 := n0_; have HB := n1_; have BK257 := n2_; have GW257 := n3_; have GE257 := n4_; clear n0_ n1_ n2_ n3_ n4_; clear hb hbox hg; have hcz14_0 : w13.cell? ⟨gb257, 0, none⟩ = some (.bool false) := (blk_cell BK257.out 0).trans rfl; have hcz14_1 : w13.cell? ⟨gb257, 1, none⟩ = some (.slice none 0 0) := (blk_cell BK257.out 1).trans rfl; have hfz14_0 := blk_frozen BK257.out 0; have hfz14_1 := blk_frozen BK257.out 1))
              (try simp only [Act.put, List.setIfInBounds_toArray, List.set_cons_zero, List.set_cons_succ])
              go_cut [14] (fun v14 wc => ∃ (kq : Nat) (x14_8 : Bool), v14 = .bool x14_8 ∧ Aside0 (waybilllaw10_NodeBounds.j2 kq (wrap64 (125 + (Go.bits .and .i64 a0 7))) (wrap64 (16 + (Go.bits .and .i64 a1 7))) a3 x10_2 x14_8 a3 y254 = some r) ∧ Aside0 (kq ≤ k2) ∧ Aside0 (Kd.R k41 41 wc w.heap.size (fun _ => True) (.slice Ao12 y254.length co12) y254) ∧ Aside0 (wc.heap[gb257]? = some (.cells #[.bool a3, (.slice Ao12 y254.length co12)] 44 (0, 0))) ∧ Aside0 (Below w.heap.size w wc))
              case first =>
                have H := HC9.out
                clear HC9
                by_cases c15 : (wrap64 (125 + (Go.bits .and .i64 a0 7))) ≤ 130
                · rw [if_pos c15] at H
                  have c15b0 : decide ((wrap64 (125 + (Go.bits .and .i64 a0 7))) ≤ 130) = true := decide_eq_true c15
                  clear c15
                  (first | rw [c15b0] | rw [c15b2] | rw [c15b1] | (simp only [i64_w, i32_w]; rw [c15b0]) | skip)
                  by_cases c16 : a2 ≥ 2
                  · rw [if_pos c16] at H
                    have c16b0 : decide (2 ≤ a2) = true := decide_eq_true c16
                    clear c16
                    have H' := Aside0.mk H
                    clear H
                    go_wp2
                    go_meet
                    case rel => exact ⟨_, (decide (a2 ≤ 4294967295)), (by first | rfl | (simp; done) | (simp [*]; done)), H', ⟨by have := HK1.out; have := HK2.out; first | omega | exact Nat.le_refl _⟩, ⟨by (with_reducible repeat (first | apply Kd.R_alloc | apply Kd.R_drewN | apply Kd.R_drew)); exact Kd.R_mono (Kd.R_far (p := ⟨gb257, 1, none⟩) (Kd.R_far (p := ⟨gb257, 0, none⟩) (Kd.R_types HO256.out BK257.out (by decide)) (fun _ hk => hk.2) (.bool a3)) (fun _ hk => hk.2) (.slice Ao12 y254.length co12)) (fun _ hk => trivial)⟩, ⟨by (with_reducible repeat (first | refine blk_drewN ?_ _ | refine blk_drew ?_ | refine blk_alloc ?_ _)); refine blk_put (cs := #[.bool a3, .slice none 0 0]) ?_ 1 _ rfl; (with_reducible repeat (first | refine blk_drewN ?_ _ | refine blk_drew ?_ | refine blk_alloc ?_ _)); refine blk_put (cs := #[.bool false, .slice none 0 0]) ?_ 0 _ rfl; (with_reducible repeat (first | refine blk_drewN ?_ _ | refine blk_drew ?_ | refine blk_alloc ?_ _)); exact BK257.out⟩, ⟨by repeat (first | (with_reducible first | exact HB.out | apply below_alloc | apply pw_below_drewN | apply below_drew1 | refine below_set ?_ GE257.out) | exact HB.out)⟩⟩
                  · rw [if_neg c16] at H
                    have c16b0 : decide (2 ≤ a2) = false := decide_eq_false c16
                    clear c16
                    have H' := Aside0.mk H
                    clear H
                    go_wp2
                    go_meet
                    case rel => exact ⟨_, (false), (by first | rfl | (simp; done) | (simp [*]; done)), H', ⟨by have := HK1.out; have := HK2.out; first | omega | exact Nat.le_refl _⟩, ⟨by (with_reducible repeat (first | apply Kd.R_alloc | apply Kd.R_drewN | apply Kd.R_drew)); exact Kd.R_mono (Kd.R_far (p := ⟨gb257, 1, none⟩) (Kd.R_far (p := ⟨gb257, 0, none⟩) (Kd.R_types HO256.out BK257.out (by decide)) (fun _ hk => hk.2) (.bool a3)) (fun _ hk => hk.2) (.slice Ao12 y254.length co12)) (fun _ hk => trivial)⟩, ⟨by (with_reducible repeat (first | refine blk_drewN ?_ _ | refine blk_drew ?_ | refine blk_alloc ?_ _)); refine blk_put (cs := #[.bool a3, .slice none 0 0]) ?_ 1 _ rfl; (with_reducible repeat (first | refine blk_drewN ?_ _ | refine blk_drew ?_ | refine blk_alloc ?_ _)); refine blk_put (cs := #[.bool false, .slice none 0 0]) ?_ 0 _ rfl; (with_reducible repeat (first | refine blk_drewN ?_ _ | refine blk_drew ?_ | refine blk_alloc ?_ _)); exact BK257.out⟩, ⟨by repeat (first | (with_reducible first | exact HB.out | apply below_alloc | apply pw_below_drewN | apply below_drew1 | refine below_set ?_ GE257.out) | exact HB.out)⟩⟩
                · rw [if_neg c15] at H
                  have c15b0 : decide ((wrap64 (125 + (Go.bits .and .i64 a0 7))) ≤ 130) = false := decide_eq_false c15
                  clear c15
                  (first | rw [c15b0] | rw [c15b2] | rw [c15b1] | (simp only [i64_w, i32_w]; rw [c15b0]) | skip)
                  have H' := Aside0.mk H
                  clear H
                  go_wp2
                  go_meet
                  case rel => exact ⟨_, (false), (by first | rfl | (simp; done) | (simp [*]; done)), H', ⟨by have := HK1.out; have := HK2.out; first | omega | exact Nat.le_refl _⟩, ⟨by (with_reducible repeat (first | apply Kd.R_alloc | apply Kd.R_drewN | apply Kd.R_drew)); exact Kd.R_mono (Kd.R_far (p := ⟨gb257, 1, none⟩) (Kd.R_far (p := ⟨gb257, 0, none⟩) (Kd.R_types HO256.out BK257.out (by decide)) (fun _ hk => hk.2) (.bool a3)) (fun _ hk => hk.2) (.slice Ao12 y254.length co12)) (fun _ hk => trivial)⟩, ⟨by (with_reducible repeat (first | refine blk_drewN ?_ _ | refine blk_drew ?_ | refine blk_alloc ?_ _)); refine blk_put (cs := #[.bool a3, .slice none 0 0]) ?_ 1 _ rfl; (with_reducible repeat (first | refine blk_drewN ?_ _ | refine blk_drew ?_ | refine blk_alloc ?_ _)); refine blk_put (cs := #[.bool false, .slice none 0 0]) ?_ 0 _ rfl; (with_reducible repeat (first | refine blk_drewN ?_ _ | refine blk_drew ?_ | refine blk_alloc ?_ _)); exact BK257.out⟩, ⟨by repeat (first | (with_reducible first | exact HB.out | apply below_alloc | apply pw_below_drewN | apply below_drew1 | refine below_set ?_ GE257.out) | exact HB.out)⟩⟩
              case rest =>
                clear HC9
                try clear c1
                try clear p2
                try clear c3
                try clear c5
                try clear c5b0
                try clear c6
                try clear c6b0
                try clear c6b1
                try clear c6b2
                try clear p6
                try clear c7
                try clear c7b0
                try clear c8
                try clear c8b0
                try clear c8b1
                try clear c8b2
                try clear c15
                try clear c15b0
                try clear c16
                try clear c16b0
                try clear hcz14_0
                try clear hcz14_1
                try clear hfz14_0
                try clear hfz14_1
                try clear p2
                try clear p6
                obtain ⟨kq, x14_8, rfl, HA, HJ8, HO_258001, BK257, HB⟩ := hcut
                cases kq with
                | zero => exact absurd HA.out (by simp [waybilllaw10_NodeBounds.j2])
                | succ kj8 =>
                  have H := HA.out
                  clear HA
                  simp only [waybilllaw10_NodeBounds.j2] at H
                  have HC17 := Aside0.mk H
                  clear H
                  go_upto_if 54 with (fail)
                  go_cut [14] (fun v14 wc => ∃ (kq : Nat) (x14_16 : Bool) (x258001_16 : List (S41)) (u258001 : Value), v14 = .bool x14_16 ∧ Aside0 (waybilllaw10_NodeBounds.j3 kq a3 x14_16 a3 x258001_16 = some r) ∧ Aside0 (kq ≤ kj8) ∧ Aside0 (Kd.R k41 41 wc w.heap.size (fun _ => True) u258001 x258001_16) ∧ Aside0 (wc.heap[gb257]? = some (.cells #[.bool a3, u258001] 44 (0, 0))) ∧ Aside0 (Below w.heap.size w wc))
                  case first =>
                    have H := HC17.out
                    clear HC17
                    by_cases c18 : a3 = true
                    · subst c18
                      have H1 : (if 0 < (y254.length : Int) then ((some (y254.set (0 : Int).toNat (⟨(rd_T41 y254 0).f0, (rd_T41 y254 0).f1, 0⟩ : S41) : List (S41))).bind fun y258 => ((some (y258.set (0 : Int).toNat (⟨(rd_T41 y258 0).f0, x10_2, (rd_T41 y258 0).f2⟩ : S41) : List (S41))).bind fun y259 => (if (wrap64 (125 + (Go.bits .and .i64 a0 7))) ≤ 130 then (waybilllaw10_NodeBounds.j3 kj8 true (decide ((wrap64 (16 + (Go.bits .and .i64 a1 7))) ≤ 20)) true y259) else (waybilllaw10_NodeBounds.j3 kj8 true false true y259)))) else (none)) = some r := by rw [if_pos rfl] at H; exact H
                      clear H
                      have H := H1
                      clear H1
                      by_cases c19 : 0 < (y254.length : Int)
                      · rw [if_pos c19] at H
                        have c19b0 : decide (0 < (y254.length : Int)) = true := decide_eq_true c19
                        have c19b1 : decide (0 < y254.length) = true := decide_eq_true (by omega)
                        clear c19
                        (first | rw [c19b0] | rw [c19b2] | rw [c19b1] | (simp only [i64_w, i32_w]; rw [c19b0]) | skip)
                        obtain ⟨y258, hy258⟩ : ∃ y_ : List (S41), y_ = (y254.set (0 : Int).toNat (⟨(rd_T41 y254 0).f0, (rd_T41 y254 0).f1, 0⟩ : S41)) := ⟨_, rfl⟩
                        replace H : ((some (y258.set (0 : Int).toNat (⟨(rd_T41 y258 0).f0, x10_2, (rd_T41 y258 0).f2⟩ : S41) : List (S41))).bind fun y259 => (if (wrap64 (125 + (Go.bits .and .i64 a0 7))) ≤ 130 then (waybilllaw10_NodeBounds.j3 kj8 true (decide ((wrap64 (16 + (Go.bits .and .i64 a1 7))) ≤ 20)) true y259) else (waybilllaw10_NodeBounds.j3 kj8 true false true y259))) = some r := by first | (rw [hy258]; with_reducible exact H) | (have H2_ := (Option.bind_some _ _).symm.trans H; rw [hy258]; with_reducible exact H2_) | (have H2_ := (Option.bind_some _ _).symm.trans H; with_reducible exact H2_) | with_reducible exact H | (rw [hy258]; exact H) | exact H
                        have Ny258 := Aside0.mk hy258
                        clear hy258
                        obtain ⟨y259, hy259⟩ : ∃ y_ : List (S41), y_ = (y258.set (0 : Int).toNat (⟨(rd_T41 y258 0).f0, x10_2, (rd_T41 y258 0).f2⟩ : S41)) := ⟨_, rfl⟩
                        replace H : (if (wrap64 (125 + (Go.bits .and .i64 a0 7))) ≤ 130 then (waybilllaw10_NodeBounds.j3 kj8 true (decide ((wrap64 (16 + (Go.bits .and .i64 a1 7))) ≤ 20)) true y259) else (waybilllaw10_NodeBounds.j3 kj8 true false true y259)) = some r := by first | (rw [hy259]; with_reducible exact H) | (have H2_ := (Option.bind_some _ _).symm.trans H; rw [hy259]; with_reducible exact H2_) | (have H2_ := (Option.bind_some _ _).symm.trans H; with_reducible exact H2_) | with_reducible exact H | (rw [hy259]; exact H) | exact H
                        have Ny259 := Aside0.mk hy259
                        clear hy259
                        by_cases c22 : (wrap64 (125 + (Go.bits .and .i64 a0 7))) ≤ 130
                        · rw [if_pos c22] at H
                          have c22b0 : decide ((wrap64 (125 + (Go.bits .and .i64 a0 7))) ≤ 130) = true := decide_eq_true c22
                          clear c22
                          have H' := Aside0.mk H
                          clear H
                          try go_wp2
                          have n0_ := Aside0.mk (Kd.R_drew HO_258001.out)
                          have n1_ := Aside0.mk (blk_drew BK257.out)
                          have n2_ := Aside0.mk (below_drew1 HB.out)
                          clear HO_258001
                          clear BK257
                          clear HB
                          have HO_258001 := n0_
                          have BK257 := n1_
                          have HB := n2_
                          clear n0_ n1_ n2_
                          have p20 : 0 ≤ (0 : Int) := (by omega)
                          have q20 : (0 : Int) < ((y254.length : Int) : Int) := of_decide_eq_true (by first | (with_reducible assumption) | assumption)
                          have qi20 : (0 < y254.length) = True := eq_true (by omega)
                          obtain ⟨go20, co20, eo20, gb20, gl20, cl20, HG20⟩ := Kd.R_form HO_258001.out (by omega)
                          (first | cases eo20 | (injection eo20 with ea_ en_ ec_; (first | subst ea_ | (injection ea_ with ea_; subst ea_)); subst ec_; clear en_))
                          have GB20 := Aside0.mk gb20
                          have GG20 := Aside0.mk HG20
                          clear gb20 gl20 HG20
                          obtain ⟨ce20, hcl20, hM20, hcc20, hfr20⟩ := Kd.R_elem HO_258001.out z41 (0 : Int) p20 q20
                          obtain rfl := k41_openM hM20
                          have hx20_0 : World.cell? _ ⟨go20, (0 : Int).toNat * 3, none⟩ = some (.string ((rd_T41 y254 0).f0)) := hcc20 0 _ rfl
                          have hx20_1 : World.cell? _ ⟨go20, (0 : Int).toNat * 3 + 1, none⟩ = some (.string ((rd_T41 y254 0).f1)) := hcc20 1 _ rfl
                          have hx20_2 : World.cell? _ ⟨go20, (0 : Int).toNat * 3 + 2, none⟩ = some (.int .i64 ((rd_T41 y254 0).f2)) := hcc20 2 _ rfl
                          have hf20_0 : World.frozen? _ ⟨go20, (0 : Int).toNat * 3, none⟩ = false := hfr20 0
                          have hf20_1 : World.frozen? _ ⟨go20, (0 : Int).toNat * 3 + 1, none⟩ = false := hfr20 1
                          have hf20_2 : World.frozen? _ ⟨go20, (0 : Int).toNat * 3 + 2, none⟩ = false := hfr20 2
                          clear hcl20 hcc20 hfr20 hM20
                          (try rw [show ((0 : Int)).toNat = 0 from rfl] at hx20_0)
                          (try simp only [Nat.reduceMul, Nat.zero_mul, Nat.zero_add, Nat.reduceAdd] at hx20_0)
                          (try rw [show ((0 : Int)).toNat = 0 from rfl] at hf20_0)
                          (try simp only [Nat.reduceMul, Nat.zero_mul, Nat.zero_add, Nat.reduceAdd] at hf20_0)
                          (try rw [show ((0 : Int)).toNat = 0 from rfl] at hx20_1)
                          (try simp only [Nat.reduceMul, Nat.zero_mul, Nat.zero_add, Nat.reduceAdd] at hx20_1)
                          (try rw [show ((0 : Int)).toNat = 0 from rfl] at hf20_1)
                          (try simp only [Nat.reduceMul, Nat.zero_mul, Nat.zero_add, Nat.reduceAdd] at hf20_1)
                          (try rw [show ((0 : Int)).toNat = 0 from rfl] at hx20_2)
                          (try simp only [Nat.reduceMul, Nat.zero_mul, Nat.zero_add, Nat.reduceAdd] at hx20_2)
                          (try rw [show ((0 : Int)).toNat = 0 from rfl] at hf20_2)
                          (try simp only [Nat.reduceMul, Nat.zero_mul, Nat.zero_add, Nat.reduceAdd] at hf20_2)
                          replace p20 := eq_true p20
                          replace q20 := eq_true q20
                          obtain ⟨ce24, hcl24, hM24, hcc24, hfr24⟩ := Kd.R_elem HO_258001.out z41 (0 : Int) (by omega) (by have h_ : (0 : Int) < ((y254.length : Int) : Int) := of_decide_eq_true (by first | (with_reducible assumption) | assumption); first | exact h_ | (have e_ := (Kd.R_reads' HO_258001.out).1; omega) | simpa using h_)
                          obtain rfl := k41_openM hM24
                          have HP24 := (Kd.R_seg HO_258001.out (0 : Int) (by omega) (by have h_ : (0 : Int) < ((y254.length : Int) : Int) := of_decide_eq_true (by first | (with_reducible assumption) | assumption); first | exact h_ | (have e_ := (Kd.R_reads' HO_258001.out).1; omega) | simpa using h_) (seg := [.int .i64 0]) (j := 2) hcl24 hcc24 (show 3 ≤ 3 from by decide) (x' := (⟨(rd_T41 y254 0).f0, (rd_T41 y254 0).f1, 0⟩ : S41)) (k41_mkM _ _ _ (⟨(rd_T41 y254 0).f0, (rd_T41 y254 0).f1, 0⟩ : S41) ) (fun _ hk => hk)).1
                          rw [← Ny258.out] at HP24
                          have HQ24 := Aside0.mk HP24
                          clear hcl24 hcc24 hfr24 hM24 HP24
                          have p21 : 0 ≤ (0 : Int) := (by omega)
                          have q21 : (0 : Int) < ((y254.length : Int) : Int) := of_decide_eq_true (by first | (with_reducible assumption) | assumption)
                          replace p21 := eq_true p21
                          replace q21 := eq_true q21
                          obtain ⟨ce25, hcl25, hM25, hcc25, hfr25⟩ := Kd.R_elem HQ24.out z41 (0 : Int) (by omega) (by have h_ : (0 : Int) < ((y254.length : Int) : Int) := of_decide_eq_true (by first | (with_reducible assumption) | assumption); first | exact h_ | (have e_ := (Kd.R_reads' HO_258001.out).1; omega) | simpa using h_)
                          obtain rfl := k41_openM hM25
                          have HP25 := (Kd.R_seg HQ24.out (0 : Int) (by omega) (by have h_ : (0 : Int) < ((y254.length : Int) : Int) := of_decide_eq_true (by first | (with_reducible assumption) | assumption); first | exact h_ | (have e_ := (Kd.R_reads' HO_258001.out).1; omega) | simpa using h_) (seg := [.string x10_2]) (j := 1) hcl25 hcc25 (show 2 ≤ 3 from by decide) (x' := (⟨(rd_T41 y258 0).f0, x10_2, (rd_T41 y258 0).f2⟩ : S41)) (k41_mkM _ _ _ (⟨(rd_T41 y258 0).f0, x10_2, (rd_T41 y258 0).f2⟩ : S41) ) (fun _ hk => hk)).1
                          rw [← Ny259.out] at HP25
                          have HQ25 := Aside0.mk HP25
                          clear hcl25 hcc25 hfr25 hM25 HP25
                          refine start_ (n := 11) (S := fun w' => w'.cell? ⟨gb257, 0, none⟩ = some (.bool true) ∧ w'.cell? ⟨gb257, 1, none⟩ = some (.slice (some ⟨go20, 0, none⟩) y254.length co12)) (ds := []) #[false, false, false, false, false, false, false, false, false, false, false] (by kernel_rfl) rfl rfl ⟨(blk_cell BK257.out 0).trans rfl, (blk_cell BK257.out 1).trans rfl⟩ (fun hHeld => ?_); refine with_tabW waybilllaw10_NodeBounds.tab14 waybilllaw10_NodeBounds.bits14 (fun HT_ HW_ => ?_)
                          generalize wc.drew = w23 at HO_258001 BK257 HB GG20 HQ24 HQ25 hf20_0 hf20_1 hf20_2 hx20_0 hx20_1 hx20_2 hHeld ⊢
                          refine pure_ (i := 0) (N := some 55) (v := ?_) (a' := ?_) #[true, false, false, false, false, false, false, false, false, false, false] rfl rfl (any_of HT_.out (by kernel_rfl)) (fun _ _ _ h => h) (Or.inl ⟨by rfl, ?_⟩) ?_ ?_
                          rotate_left
                          · intro w'
                            go_simp
                            with_reducible rfl
                          rotate_left
                          · simp only [Act.put, List.setIfInBounds_toArray, List.set_cons_zero, List.set_cons_succ, i64_w, i32_w]
                            rfl
                          refine pure_ (i := 2) (N := some 57) (v := ?_) (a' := ?_) #[true, false, true, false, false, false, false, false, false, false, false] rfl rfl (any_of HT_.out (by kernel_rfl)) (fun _ _ _ h => h) (Or.inl ⟨by rfl, ?_⟩) ?_ ?_
                          rotate_left
                          · intro w'
                            go_simp
                            with_reducible rfl
                          rotate_left
                          · simp only [Act.put, List.setIfInBounds_toArray, List.set_cons_zero, List.set_cons_succ, i64_w, i32_w]
                            rfl
                          refine pure_ (i := 4) (N := some 59) (v := ?_) (a' := ?_) #[true, false, true, false, true, false, false, false, false, false, false] rfl rfl (any_of HT_.out (by kernel_rfl)) (fun _ _ _ h => h) (Or.inl ⟨by rfl, ?_⟩) ?_ ?_
                          rotate_left
                          · intro w'
                            go_simp
                            with_reducible rfl
                          rotate_left
                          · simp only [Act.put, List.setIfInBounds_toArray, List.set_cons_zero, List.set_cons_succ, i64_w, i32_w]
                            rfl
                          refine take_ (i := 1) (N := some 56) (v := ?_) (a' := ?_) #[true, true, true, false, true, false, false, false, false, false, false] rfl rfl (take_ofW HT_.out HW_.out (by kernel_rfl)) (fun _ _ _ h => h) (Or.inl ⟨by rfl, ?_⟩) hHeld ?_ ?_
                          rotate_left
                          · rintro w' ⟨s0, s1⟩
                            go_simp
                            with_reducible rfl
                          rotate_left
                          · simp only [Act.put, List.setIfInBounds_toArray, List.set_cons_zero, List.set_cons_succ, i64_w, i32_w]
                            rfl
                          refine pure_ (i := 5) (N := some 60) (v := ?_) (a' := ?_) #[true, true, true, false, true, true, false, false, false, false, false] rfl rfl (any_of HT_.out (by kernel_rfl)) (fun _ _ _ h => h) (Or.inl ⟨by rfl, ?_⟩) ?_ ?_
                          rotate_left
                          · intro w'
                            go_simp
                            with_reducible rfl
                          rotate_left
                          · simp only [Act.put, List.setIfInBounds_toArray, List.set_cons_zero, List.set_cons_succ, i64_w, i32_w]
                            rfl
                          refine pure_ (i := 6) (N := some 61) (v := ?_) (a' := ?_) #[true, true, true, false, true, true, true, false, false, false, false] rfl rfl (any_of HT_.out (by kernel_rfl)) (fun _ _ _ h => h) (Or.inl ⟨by rfl, ?_⟩) ?_ ?_
                          rotate_left
                          · intro w'
                            go_simp
                            with_reducible rfl
                          rotate_left
                          · simp only [Act.put, List.setIfInBounds_toArray, List.set_cons_zero, List.set_cons_succ, i64_w, i32_w]
                            rfl
                          refine take_ (i := 3) (N := some 58) (v := ?_) (a' := ?_) #[true, true, true, true, true, true, true, false, false, false, false] rfl rfl (take_ofW HT_.out HW_.out (by kernel_rfl)) (fun _ _ _ h => h) (Or.inl ⟨by rfl, ?_⟩) hHeld ?_ ?_
                          rotate_left
                          · rintro w' ⟨s0, s1⟩
                            go_simp
                            with_reducible rfl
                          rotate_left
                          · simp only [Act.put, List.setIfInBounds_toArray, List.set_cons_zero, List.set_cons_succ, i64_w, i32_w]
                            rfl
                          refine one_ (i := 7) (N := none) #[true, true, true, true, true, true, true, true, false, false, false] rfl rfl (one_of HT_.out (by kernel_rfl)) (by decide) (fun K hK => ?_)
                          refine skip_ (w1 := ?_) (by rfl) rfl ?_ ?_
                          rotate_left
                          · go_simp
                            rfl
                          refine hK.out _ _ ⟨((cell_far (p := ⟨go20, _, none⟩) (show gb257 ≠ go20 from fun e_ => (Kd.R_ne HO_258001.out BK257.out (by decide)) (congrArg some e_)) _).trans (hHeld.1)), ((cell_far (p := ⟨go20, _, none⟩) (show gb257 ≠ go20 from fun e_ => (Kd.R_ne HO_258001.out BK257.out (by decide)) (congrArg some e_)) _).trans (hHeld.2))⟩ (fun hHeld => ?_)
                          clear hK K
                          refine pure_ (i := 8) (N := some 62) (v := ?_) (a' := ?_) #[true, true, true, true, true, true, true, true, true, false, false] rfl rfl (any_of HT_.out (by kernel_rfl)) (fun _ _ _ h => h) (Or.inl ⟨by rfl, ?_⟩) ?_ ?_
                          rotate_left
                          · intro w'
                            go_simp
                            with_reducible rfl
                          rotate_left
                          · simp only [Act.put, List.setIfInBounds_toArray, List.set_cons_zero, List.set_cons_succ, i64_w, i32_w]
                            rfl
                          refine pure_ (i := 9) (N := some 63) (v := ?_) (a' := ?_) #[true, true, true, true, true, true, true, true, true, true, false] rfl rfl (any_of HT_.out (by kernel_rfl)) (fun _ _ _ h => h) (Or.inl ⟨by rfl, ?_⟩) ?_ ?_
                          rotate_left
                          · intro w'
                            go_simp
                            with_reducible rfl
                          rotate_left
                          · simp only [Act.put, List.setIfInBounds_toArray, List.set_cons_zero, List.set_cons_succ, i64_w, i32_w]
                            rfl
                          refine one_ (i := 10) (N := none) #[true, true, true, true, true, true, true, true, true, true, true] rfl rfl (one_of HT_.out (by kernel_rfl)) (by decide) (fun K hK => ?_)
                          refine skip_ (w1 := ?_) (by rfl) rfl ?_ ?_
                          rotate_left
                          · go_simp
                            rfl
                          refine hK.out _ _ ⟨((cell_far (p := ⟨go20, _, none⟩) (show gb257 ≠ go20 from fun e_ => (Kd.R_ne HO_258001.out BK257.out (by decide)) (congrArg some e_)) _).trans (hHeld.1)), ((cell_far (p := ⟨go20, _, none⟩) (show gb257 ≠ go20 from fun e_ => (Kd.R_ne HO_258001.out BK257.out (by decide)) (congrArg some e_)) _).trans (hHeld.2))⟩ (fun hHeld => ?_)
                          clear hK K
                          refine done_ (done_of HT_.out (by kernel_rfl)) ?_
                          try go_wp2
                          go_meet
                          case rel => exact ⟨_, (decide ((wrap64 (16 + (Go.bits .and .i64 a1 7))) ≤ 20)), (y259), (.slice (some ⟨go20, 0, none⟩) y254.length co12), (by first | rfl | (simp; done) | (simp [*]; done)), H', ⟨by have := HK1.out; have := HK2.out; have := HJ8.out; first | omega | exact Nat.le_refl _⟩, ⟨by (with_reducible repeat (first | apply Kd.R_alloc | apply Kd.R_drewN | apply Kd.R_drew)); exact HQ25.out⟩, ⟨by (with_reducible repeat (first | refine blk_drewN ?_ _ | refine blk_drew ?_ | refine blk_alloc ?_ _)); refine blk_far ?_ (by have h_ := Kd.R_ne HO_258001.out BK257.out (by decide); intro e_; exact h_ (by rw [e_]; rfl)) _; (with_reducible repeat (first | refine blk_drewN ?_ _ | refine blk_drew ?_ | refine blk_alloc ?_ _)); refine blk_far ?_ (by have h_ := Kd.R_ne HO_258001.out BK257.out (by decide); intro e_; exact h_ (by rw [e_]; rfl)) _; (with_reducible repeat (first | refine blk_drewN ?_ _ | refine blk_drew ?_ | refine blk_alloc ?_ _)); exact BK257.out⟩, ⟨by repeat (first | (with_reducible first | exact HB.out | apply below_alloc | apply pw_below_drewN | apply below_drew1 | refine below_set ?_ GB20.out | refine below_set ?_ GB20.out | refine below_set ?_ GE257.out) | exact HB.out)⟩⟩
                        · rw [if_neg c22] at H
                          have c22b0 : decide ((wrap64 (125 + (Go.bits .and .i64 a0 7))) ≤ 130) = false := decide_eq_false c22
                          clear c22
                          have H' := Aside0.mk H
                          clear H
                          try go_wp2
                          have n0_ := Aside0.mk (Kd.R_drew HO_258001.out)
                          have n1_ := Aside0.mk (blk_drew BK257.out)
                          have n2_ := Aside0.mk (below_drew1 HB.out)
                          clear HO_258001
                          clear BK257
                          clear HB
                          have HO_258001 := n0_
                          have BK257 := n1_
                          have HB := n2_
                          clear n0_ n1_ n2_
                          have p20 : 0 ≤ (0 : Int) := (by omega)
                          have q20 : (0 : Int) < ((y254.length : Int) : Int) := of_decide_eq_true (by first | (with_reducible assumption) | assumption)
                          have qi20 : (0 < y254.length) = True := eq_true (by omega)
                          obtain ⟨go20, co20, eo20, gb20, gl20, cl20, HG20⟩ := Kd.R_form HO_258001.out (by omega)
                          (first | cases eo20 | (injection eo20 with ea_ en_ ec_; (first | subst ea_ | (injection ea_ with ea_; subst ea_)); subst ec_; clear en_))
                          have GB20 := Aside0.mk gb20
                          have GG20 := Aside0.mk HG20
                          clear gb20 gl20 HG20
                          obtain ⟨ce20, hcl20, hM20, hcc20, hfr20⟩ := Kd.R_elem HO_258001.out z41 (0 : Int) p20 q20
                          obtain rfl := k41_openM hM20
                          have hx20_0 : World.cell? _ ⟨go20, (0 : Int).toNat * 3, none⟩ = some (.string ((rd_T41 y254 0).f0)) := hcc20 0 _ rfl
                          have hx20_1 : World.cell? _ ⟨go20, (0 : Int).toNat * 3 + 1, none⟩ = some (.string ((rd_T41 y254 0).f1)) := hcc20 1 _ rfl
                          have hx20_2 : World.cell? _ ⟨go20, (0 : Int).toNat * 3 + 2, none⟩ = some (.int .i64 ((rd_T41 y254 0).f2)) := hcc20 2 _ rfl
                          have hf20_0 : World.frozen? _ ⟨go20, (0 : Int).toNat * 3, none⟩ = false := hfr20 0
                          have hf20_1 : World.frozen? _ ⟨go20, (0 : Int).toNat * 3 + 1, none⟩ = false := hfr20 1
                          have hf20_2 : World.frozen? _ ⟨go20, (0 : Int).toNat * 3 + 2, none⟩ = false := hfr20 2
                          clear hcl20 hcc20 hfr20 hM20
                          (try rw [show ((0 : Int)).toNat = 0 from rfl] at hx20_0)
                          (try simp only [Nat.reduceMul, Nat.zero_mul, Nat.zero_add, Nat.reduceAdd] at hx20_0)
                          (try rw [show ((0 : Int)).toNat = 0 from rfl] at hf20_0)
                          (try simp only [Nat.reduceMul, Nat.zero_mul, Nat.zero_add, Nat.reduceAdd] at hf20_0)
                          (try rw [show ((0 : Int)).toNat = 0 from rfl] at hx20_1)
                          (try simp only [Nat.reduceMul, Nat.zero_mul, Nat.zero_add, Nat.reduceAdd] at hx20_1)
                          (try rw [show ((0 : Int)).toNat = 0 from rfl] at hf20_1)
                          (try simp only [Nat.reduceMul, Nat.zero_mul, Nat.zero_add, Nat.reduceAdd] at hf20_1)
                          (try rw [show ((0 : Int)).toNat = 0 from rfl] at hx20_2)
                          (try simp only [Nat.reduceMul, Nat.zero_mul, Nat.zero_add, Nat.reduceAdd] at hx20_2)
                          (try rw [show ((0 : Int)).toNat = 0 from rfl] at hf20_2)
                          (try simp only [Nat.reduceMul, Nat.zero_mul, Nat.zero_add, Nat.reduceAdd] at hf20_2)
                          replace p20 := eq_true p20
                          replace q20 := eq_true q20
                          obtain ⟨ce27, hcl27, hM27, hcc27, hfr27⟩ := Kd.R_elem HO_258001.out z41 (0 : Int) (by omega) (by have h_ : (0 : Int) < ((y254.length : Int) : Int) := of_decide_eq_true (by first | (with_reducible assumption) | assumption); first | exact h_ | (have e_ := (Kd.R_reads' HO_258001.out).1; omega) | simpa using h_)
                          obtain rfl := k41_openM hM27
                          have HP27 := (Kd.R_seg HO_258001.out (0 : Int) (by omega) (by have h_ : (0 : Int) < ((y254.length : Int) : Int) := of_decide_eq_true (by first | (with_reducible assumption) | assumption); first | exact h_ | (have e_ := (Kd.R_reads' HO_258001.out).1; omega) | simpa using h_) (seg := [.int .i64 0]) (j := 2) hcl27 hcc27 (show 3 ≤ 3 from by decide) (x' := (⟨(rd_T41 y254 0).f0, (rd_T41 y254 0).f1, 0⟩ : S41)) (k41_mkM _ _ _ (⟨(rd_T41 y254 0).f0, (rd_T41 y254 0).f1, 0⟩ : S41) ) (fun _ hk => hk)).1
                          rw [← Ny258.out] at HP27
                          have HQ27 := Aside0.mk HP27
                          clear hcl27 hcc27 hfr27 hM27 HP27
                          have p21 : 0 ≤ (0 : Int) := (by omega)
                          have q21 : (0 : Int) < ((y254.length : Int) : Int) := of_decide_eq_true (by first | (with_reducible assumption) | assumption)
                          replace p21 := eq_true p21
                          replace q21 := eq_true q21
                          obtain ⟨ce28, hcl28, hM28, hcc28, hfr28⟩ := Kd.R_elem HQ27.out z41 (0 : Int) (by omega) (by have h_ : (0 : Int) < ((y254.length : Int) : Int) := of_decide_eq_true (by first | (with_reducible assumption) | assumption); first | exact h_ | (have e_ := (Kd.R_reads' HO_258001.out).1; omega) | simpa using h_)
                          obtain rfl := k41_openM hM28
                          have HP28 := (Kd.R_seg HQ27.out (0 : Int) (by omega) (by have h_ : (0 : Int) < ((y254.length : Int) : Int) := of_decide_eq_true (by first | (with_reducible assumption) | assumption); first | exact h_ | (have e_ := (Kd.R_reads' HO_258001.out).1; omega) | simpa using h_) (seg := [.string x10_2]) (j := 1) hcl28 hcc28 (show 2 ≤ 3 from by decide) (x' := (⟨(rd_T41 y258 0).f0, x10_2, (rd_T41 y258 0).f2⟩ : S41)) (k41_mkM _ _ _ (⟨(rd_T41 y258 0).f0, x10_2, (rd_T41 y258 0).f2⟩ : S41) ) (fun _ hk => hk)).1
                          rw [← Ny259.out] at HP28
                          have HQ28 := Aside0.mk HP28
                          clear hcl28 hcc28 hfr28 hM28 HP28
                          refine start_ (n := 11) (S := fun w' => w'.cell? ⟨gb257, 0, none⟩ = some (.bool true) ∧ w'.cell? ⟨gb257, 1, none⟩ = some (.slice (some ⟨go20, 0, none⟩) y254.length co12)) (ds := []) #[false, false, false, false, false, false, false, false, false, false, false] (by kernel_rfl) rfl rfl ⟨(blk_cell BK257.out 0).trans rfl, (blk_cell BK257.out 1).trans rfl⟩ (fun hHeld => ?_); refine with_tabW waybilllaw10_NodeBounds.tab14 waybilllaw10_NodeBounds.bits14 (fun HT_ HW_ => ?_)
                          generalize wc.drew = w26 at HO_258001 BK257 HB GG20 HQ27 HQ28 hf20_0 hf20_1 hf20_2 hx20_0 hx20_1 hx20_2 hHeld ⊢
                          refine pure_ (i := 0) (N := some 55) (v := ?_) (a' := ?_) #[true, false, false, false, false, false, false, false, false, false, false] rfl rfl (any_of HT_.out (by kernel_rfl)) (fun _ _ _ h => h) (Or.inl ⟨by rfl, ?_⟩) ?_ ?_
                          rotate_left
                          · intro w'
                            go_simp
                            with_reducible rfl
                          rotate_left
                          · simp only [Act.put, List.setIfInBounds_toArray, List.set_cons_zero, List.set_cons_succ, i64_w, i32_w]
                            rfl
                          refine pure_ (i := 2) (N := some 57) (v := ?_) (a' := ?_) #[true, false, true, false, false, false, false, false, false, false, false] rfl rfl (any_of HT_.out (by kernel_rfl)) (fun _ _ _ h => h) (Or.inl ⟨by rfl, ?_⟩) ?_ ?_
                          rotate_left
                          · intro w'
                            go_simp
                            with_reducible rfl
                          rotate_left
                          · simp only [Act.put, List.setIfInBounds_toArray, List.set_cons_zero, List.set_cons_succ, i64_w, i32_w]
                            rfl
                          refine pure_ (i := 4) (N := some 59) (v := ?_) (a' := ?_) #[true, false, true, false, true, false, false, false, false, false, false] rfl rfl (any_of HT_.out (by kernel_rfl)) (fun _ _ _ h => h) (Or.inl ⟨by rfl, ?_⟩) ?_ ?_
                          rotate_left
                          · intro w'
                            go_simp
                            with_reducible rfl
                          rotate_left
                          · simp only [Act.put, List.setIfInBounds_toArray, List.set_cons_zero, List.set_cons_succ, i64_w, i32_w]
                            rfl
                          refine take_ (i := 1) (N := some 56) (v := ?_) (a' := ?_) #[true, true, true, false, true, false, false, false, false, false, false] rfl rfl (take_ofW HT_.out HW_.out (by kernel_rfl)) (fun _ _ _ h => h) (Or.inl ⟨by rfl, ?_⟩) hHeld ?_ ?_
                          rotate_left
                          · rintro w' ⟨s0, s1⟩
                            go_simp
                            with_reducible rfl
                          rotate_left
                          · simp only [Act.put, List.setIfInBounds_toArray, List.set_cons_zero, List.set_cons_succ, i64_w, i32_w]
                            rfl
                          refine pure_ (i := 5) (N := some 60) (v := ?_) (a' := ?_) #[true, true, true, false, true, true, false, false, false, false, false] rfl rfl (any_of HT_.out (by kernel_rfl)) (fun _ _ _ h => h) (Or.inl ⟨by rfl, ?_⟩) ?_ ?_
                          rotate_left
                          · intro w'
                            go_simp
                            with_reducible rfl
                          rotate_left
                          · simp only [Act.put, List.setIfInBounds_toArray, List.set_cons_zero, List.set_cons_succ, i64_w, i32_w]
                            rfl
                          refine pure_ (i := 6) (N := some 61) (v := ?_) (a' := ?_) #[true, true, true, false, true, true, true, false, false, false, false] rfl rfl (any_of HT_.out (by kernel_rfl)) (fun _ _ _ h => h) (Or.inl ⟨by rfl, ?_⟩) ?_ ?_
                          rotate_left
                          · intro w'
                            go_simp
                            with_reducible rfl
                          rotate_left
                          · simp only [Act.put, List.setIfInBounds_toArray, List.set_cons_zero, List.set_cons_succ, i64_w, i32_w]
                            rfl
                          refine take_ (i := 3) (N := some 58) (v := ?_) (a' := ?_) #[true, true, true, true, true, true, true, false, false, false, false] rfl rfl (take_ofW HT_.out HW_.out (by kernel_rfl)) (fun _ _ _ h => h) (Or.inl ⟨by rfl, ?_⟩) hHeld ?_ ?_
                          rotate_left
                          · rintro w' ⟨s0, s1⟩
                            go_simp
                            with_reducible rfl
                          rotate_left
                          · simp only [Act.put, List.setIfInBounds_toArray, List.set_cons_zero, List.set_cons_succ, i64_w, i32_w]
                            rfl
                          refine one_ (i := 7) (N := none) #[true, true, true, true, true, true, true, true, false, false, false] rfl rfl (one_of HT_.out (by kernel_rfl)) (by decide) (fun K hK => ?_)
                          refine skip_ (w1 := ?_) (by rfl) rfl ?_ ?_
                          rotate_left
                          · go_simp
                            rfl
                          refine hK.out _ _ ⟨((cell_far (p := ⟨go20, _, none⟩) (show gb257 ≠ go20 from fun e_ => (Kd.R_ne HO_258001.out BK257.out (by decide)) (congrArg some e_)) _).trans (hHeld.1)), ((cell_far (p := ⟨go20, _, none⟩) (show gb257 ≠ go20 from fun e_ => (Kd.R_ne HO_258001.out BK257.out (by decide)) (congrArg some e_)) _).trans (hHeld.2))⟩ (fun hHeld => ?_)
                          clear hK K
                          refine pure_ (i := 8) (N := some 62) (v := ?_) (a' := ?_) #[true, true, true, true, true, true, true, true, true, false, false] rfl rfl (any_of HT_.out (by kernel_rfl)) (fun _ _ _ h => h) (Or.inl ⟨by rfl, ?_⟩) ?_ ?_
                          rotate_left
                          · intro w'
                            go_simp
                            with_reducible rfl
                          rotate_left
                          · simp only [Act.put, List.setIfInBounds_toArray, List.set_cons_zero, List.set_cons_succ, i64_w, i32_w]
                            rfl
                          refine pure_ (i := 9) (N := some 63) (v := ?_) (a' := ?_) #[true, true, true, true, true, true, true, true, true, true, false] rfl rfl (any_of HT_.out (by kernel_rfl)) (fun _ _ _ h => h) (Or.inl ⟨by rfl, ?_⟩) ?_ ?_
                          rotate_left
                          · intro w'
                            go_simp
                            with_reducible rfl
                          rotate_left
                          · simp only [Act.put, List.setIfInBounds_toArray, List.set_cons_zero, List.set_cons_succ, i64_w, i32_w]
                            rfl
                          refine one_ (i := 10) (N := none) #[true, true, true, true, true, true, true, true, true, true, true] rfl rfl (one_of HT_.out (by kernel_rfl)) (by decide) (fun K hK => ?_)
                          refine skip_ (w1 := ?_) (by rfl) rfl ?_ ?_
                          rotate_left
                          · go_simp
                            rfl
                          refine hK.out _ _ ⟨((cell_far (p := ⟨go20, _, none⟩) (show gb257 ≠ go20 from fun e_ => (Kd.R_ne HO_258001.out BK257.out (by decide)) (congrArg some e_)) _).trans (hHeld.1)), ((cell_far (p := ⟨go20, _, none⟩) (show gb257 ≠ go20 from fun e_ => (Kd.R_ne HO_258001.out BK257.out (by decide)) (congrArg some e_)) _).trans (hHeld.2))⟩ (fun hHeld => ?_)
                          clear hK K
                          refine done_ (done_of HT_.out (by kernel_rfl)) ?_
                          try go_wp2
                          go_meet
                          case rel => exact ⟨_, (false), (y259), (.slice (some ⟨go20, 0, none⟩) y254.length co12), (by first | rfl | (simp; done) | (simp [*]; done)), H', ⟨by have := HK1.out; have := HK2.out; have := HJ8.out; first | omega | exact Nat.le_refl _⟩, ⟨by (with_reducible repeat (first | apply Kd.R_alloc | apply Kd.R_drewN | apply Kd.R_drew)); exact HQ28.out⟩, ⟨by (with_reducible repeat (first | refine blk_drewN ?_ _ | refine blk_drew ?_ | refine blk_alloc ?_ _)); refine blk_far ?_ (by have h_ := Kd.R_ne HO_258001.out BK257.out (by decide); intro e_; exact h_ (by rw [e_]; rfl)) _; (with_reducible repeat (first | refine blk_drewN ?_ _ | refine blk_drew ?_ | refine blk_alloc ?_ _)); refine blk_far ?_ (by have h_ := Kd.R_ne HO_258001.out BK257.out (by decide); intro e_; exact h_ (by rw [e_]; rfl)) _; (with_reducible repeat (first | refine blk_drewN ?_ _ | refine blk_drew ?_ | refine blk_alloc ?_ _)); exact BK257.out⟩, ⟨by repeat (first | (with_reducible first | exact HB.out | apply below_alloc | apply pw_below_drewN | apply below_drew1 | refine below_set ?_ GB20.out | refine below_set ?_ GB20.out | refine below_set ?_ GE257.out) | exact HB.out)⟩⟩
                      · rw [if_neg c19] at H
                        exact absurd H (by simp)
                    · replace c18 := Bool.eq_false_iff.mpr c18
                      subst c18
                      have H1 : (waybilllaw10_NodeBounds.j3 kj8 false x14_8 false y254) = some r := by rw [if_neg (show ¬ (false = true) by decide)] at H; exact H
                      clear H
                      have H := H1
                      clear H1
                      have H' := Aside0.mk H
                      clear H
                      go_wp2
                      go_meet
                      case rel => exact ⟨_, (x14_8), (y254), (.slice Ao12 y254.length co12), (by first | rfl | (simp; done) | (simp [*]; done)), H', ⟨by have := HK1.out; have := HK2.out; have := HJ8.out; first | omega | exact Nat.le_refl _⟩, ⟨by (with_reducible repeat (first | apply Kd.R_alloc | apply Kd.R_drewN | apply Kd.R_drew)); exact HO_258001.out⟩, ⟨by (with_reducible repeat (first | refine blk_drewN ?_ _ | refine blk_drew ?_ | refine blk_alloc ?_ _)); exact BK257.out⟩, ⟨by repeat (first | (with_reducible first | exact HB.out | apply below_alloc | apply pw_below_drewN | apply below_drew1 | refine below_set ?_ GE257.out) | exact HB.out)⟩⟩
                  case rest =>
                    clear HC17
                    try clear c1
                    try clear c2
                    try clear p2
                    try clear q2
                    try clear hx2
                    try clear qi2
                    try clear c3
                    try clear c5
                    try clear c5b0
                    try clear c6
                    try clear c6b0
                    try clear c6b1
                    try clear c6b2
                    try clear p6
                    try clear c7
                    try clear c7b0
                    try clear c8
                    try clear c8b0
                    try clear c8b1
                    try clear c8b2
                    try clear c15
                    try clear c15b0
                    try clear c16
                    try clear c16b0
                    try clear c18
                    try clear c19
                    try clear c19b0
                    try clear c19b1
                    try clear c20
                    try clear p20
                    try clear q20
                    try clear hx20
                    try clear qi20
                    try clear hf20
                    try clear p21
                    try clear q21
                    try clear c22
                    try clear c22b0
                    try clear c24
                    try clear c25
                    try clear c27
                    try clear c28
                    try clear hcz14_0
                    try clear hcz14_1
                    try clear hfz14_0
                    try clear hfz14_1
                    try clear hx20_0
                    try clear hx20_1
                    try clear hx20_2
                    try clear p2
                    try clear p20
                    try clear p21
                    try clear p6
                    try clear q20
                    try clear q21
                    obtain ⟨kq, x14_16, x258001_16, u258001, rfl, HA, HJ16, HO_258001, BK257, HB⟩ := hcut
                    cases kq with
                    | zero => exact absurd HA.out (by simp [waybilllaw10_NodeBounds.j3])
                    | succ kj16 =>
                      have H := HA.out
                      clear HA
                      simp only [waybilllaw10_NodeBounds.j3] at H
                      obtain ⟨y260, hy260⟩ : ∃ y_ : List (S41), y_ = (([] : List (S41))) := ⟨_, rfl⟩
                      replace H : (if y260.length + x258001_16.length < 3518437208883 then ((some (y260 ++ x258001_16 : List (S41))).bind fun y263 => (if y263.length + x258001_16.length < 3518437208883 then ((node_Append.f kj16 a3 x258001_16).bind fun bt270 => ((node_Ok.f kj16 a3 x258001_16).bind fun t274 => (if (t274 == x14_16) = true then (if (bt270.2 == x14_16) = true then ((node_Ok.f kj16 a3 (y263 ++ x258001_16)).bind fun t275 => (if t275 = true then (none) else ((node_Ok.f kj16 true ([] : List (S41))).bind fun t276 => (if t276 = true then ((node_Ok.f kj16 false ([] : List (S41))).bind fun t277 => (if t277 = true then (none) else ((waybilllaw10_awake.f kj16).bind fun t278 => (some t278)))) else (none))))) else (none)) else (none)))) else (none))) else (none)) = some r := by first | (rw [hy260]; with_reducible exact H) | (have H2_ := (Option.bind_some _ _).symm.trans H; rw [hy260]; with_reducible exact H2_) | (have H2_ := (Option.bind_some _ _).symm.trans H; with_reducible exact H2_) | with_reducible exact H | (rw [hy260]; exact H) | exact H
                      have Ny260 := Aside0.mk hy260
                      clear hy260
                      by_cases c29 : y260.length + x258001_16.length < 3518437208883
                      · rw [if_pos c29] at H
                        have LMc29 := Aside0.mk c29
                        clear c29
                        obtain ⟨y263, hy263⟩ : ∃ y_ : List (S41), y_ = (y260 ++ x258001_16) := ⟨_, rfl⟩
                        replace H : (if y263.length + x258001_16.length < 3518437208883 then ((node_Append.f kj16 a3 x258001_16).bind fun bt270 => ((node_Ok.f kj16 a3 x258001_16).bind fun t274 => (if (t274 == x14_16) = true then (if (bt270.2 == x14_16) = true then ((node_Ok.f kj16 a3 (y263 ++ x258001_16)).bind fun t275 => (if t275 = true then (none) else ((node_Ok.f kj16 true ([] : List (S41))).bind fun t276 => (if t276 = true then ((node_Ok.f kj16 false ([] : List (S41))).bind fun t277 => (if t277 = true then (none) else ((waybilllaw10_awake.f kj16).bind fun t278 => (some t278)))) else (none))))) else (none)) else (none)))) else (none)) = some r := by first | (rw [hy263]; with_reducible exact H) | (have H2_ := (Option.bind_some _ _).symm.trans H; rw [hy263]; with_reducible exact H2_) | (have H2_ := (Option.bind_some _ _).symm.trans H; with_reducible exact H2_) | with_reducible exact H | (rw [hy263]; exact H) | exact H
                        have Ny263 := Aside0.mk hy263
                        clear hy263
                        by_cases c30 : y263.length + x258001_16.length < 3518437208883
                        · rw [if_pos c30] at H
                          have LMc30 := Aside0.mk c30
                          clear c30
                          obtain ⟨y266, hy266⟩ : ∃ y_ : List (S41), y_ = (y263 ++ x258001_16) := ⟨_, rfl⟩
                          replace H : ((node_Append.f kj16 a3 x258001_16).bind fun bt270 => ((node_Ok.f kj16 a3 x258001_16).bind fun t274 => (if (t274 == x14_16) = true then (if (bt270.2 == x14_16) = true then ((node_Ok.f kj16 a3 y266).bind fun t275 => (if t275 = true then (none) else ((node_Ok.f kj16 true ([] : List (S41))).bind fun t276 => (if t276 = true then ((node_Ok.f kj16 false ([] : List (S41))).bind fun t277 => (if t277 = true then (none) else ((waybilllaw10_awake.f kj16).bind fun t278 => (some t278)))) else (none))))) else (none)) else (none)))) = some r := by first | (rw [hy266]; with_reducible exact H) | (have H2_ := (Option.bind_some _ _).symm.trans H; rw [hy266]; with_reducible exact H2_) | (have H2_ := (Option.bind_some _ _).symm.trans H; with_reducible exact H2_) | with_reducible exact H | (rw [hy266]; exact H) | exact H
                          have Ny266 := Aside0.mk hy266
                          clear hy266
                          replace H := Option.bind_eq_some_iff.mp H
                          obtain ⟨⟨t270, t273⟩, A310, H⟩ := H
                          replace H : ((node_Ok.f kj16 a3 x258001_16).bind fun t274 => (if (t274 == x14_16) = true then (if (t273 == x14_16) = true then ((node_Ok.f kj16 a3 y266).bind fun t275 => (if t275 = true then (none) else ((node_Ok.f kj16 true ([] : List (S41))).bind fun t276 => (if t276 = true then ((node_Ok.f kj16 false ([] : List (S41))).bind fun t277 => (if t277 = true then (none) else ((waybilllaw10_awake.f kj16).bind fun t278 => (some t278)))) else (none))))) else (none)) else (none))) = some r := H
                          have A31 := Aside0.mk A310
                          clear A310
                          replace H := Option.bind_eq_some_iff.mp H
                          obtain ⟨t274, A320, H⟩ := H
                          replace H : (if (t274 == x14_16) = true then (if (t273 == x14_16) = true then ((node_Ok.f kj16 a3 y266).bind fun t275 => (if t275 = true then (none) else ((node_Ok.f kj16 true ([] : List (S41))).bind fun t276 => (if t276 = true then ((node_Ok.f kj16 false ([] : List (S41))).bind fun t277 => (if t277 = true then (none) else ((waybilllaw10_awake.f kj16).bind fun t278 => (some t278)))) else (none))))) else (none)) else (none)) = some r := H
                          have A32 := Aside0.mk A320
                          clear A320
                          by_cases c33 : (t274 == x14_16) = true
                          · rw [if_pos c33] at H
                            have c33b0 : (t274 == x14_16) = true := c33
                            (try (have c33b1 : decide (t274 = x14_16) = true := by simpa using c33))
                            (try (have c33b2 : (t274 == x14_16) = true := by simpa using c33))
                            clear c33
                            by_cases c34 : (t273 == x14_16) = true
                            · rw [if_pos c34] at H
                              have c34b0 : (t273 == x14_16) = true := c34
                              (try (have c34b1 : decide (t273 = x14_16) = true := by simpa using c34))
                              (try (have c34b2 : (t273 == x14_16) = true := by simpa using c34))
                              clear c34
                              replace H := Option.bind_eq_some_iff.mp H
                              obtain ⟨t275, A350, H⟩ := H
                              replace H : (if t275 = true then (none) else ((node_Ok.f kj16 true ([] : List (S41))).bind fun t276 => (if t276 = true then ((node_Ok.f kj16 false ([] : List (S41))).bind fun t277 => (if t277 = true then (none) else ((waybilllaw10_awake.f kj16).bind fun t278 => (some t278)))) else (none)))) = some r := H
                              have A35 := Aside0.mk A350
                              clear A350
                              by_cases c36 : t275 = true
                              · subst c36
                                have H1 : (none) = some r := by rw [if_pos rfl] at H; exact H
                                clear H
                                have H := H1
                                clear H1
                                exact absurd H (by simp)
                              · replace c36 := Bool.eq_false_iff.mpr c36
                                subst c36
                                have H1 : ((node_Ok.f kj16 true ([] : List (S41))).bind fun t276 => (if t276 = true then ((node_Ok.f kj16 false ([] : List (S41))).bind fun t277 => (if t277 = true then (none) else ((waybilllaw10_awake.f kj16).bind fun t278 => (some t278)))) else (none))) = some r := by rw [if_neg (show ¬ (false = true) by decide)] at H; exact H
                                clear H
                                have H := H1
                                clear H1
                                replace H := Option.bind_eq_some_iff.mp H
                                obtain ⟨t276, A370, H⟩ := H
                                replace H : (if t276 = true then ((node_Ok.f kj16 false ([] : List (S41))).bind fun t277 => (if t277 = true then (none) else ((waybilllaw10_awake.f kj16).bind fun t278 => (some t278)))) else (none)) = some r := H
                                have A37 := Aside0.mk A370
                                clear A370
                                by_cases c38 : t276 = true
                                · subst c38
                                  have H1 : ((node_Ok.f kj16 false ([] : List (S41))).bind fun t277 => (if t277 = true then (none) else ((waybilllaw10_awake.f kj16).bind fun t278 => (some t278)))) = some r := by rw [if_pos rfl] at H; exact H
                                  clear H
                                  have H := H1
                                  clear H1
                                  replace H := Option.bind_eq_some_iff.mp H
                                  obtain ⟨t277, A390, H⟩ := H
                                  replace H : (if t277 = true then (none) else ((waybilllaw10_awake.f kj16).bind fun t278 => (some t278))) = some r := H
                                  have A39 := Aside0.mk A390
                                  clear A390
                                  by_cases c40 : t277 = true
                                  · subst c40
                                    have H1 : (none) = some r := by rw [if_pos rfl] at H; exact H
                                    clear H
                                    have H := H1
                                    clear H1
                                    exact absurd H (by simp)
                                  · replace c40 := Bool.eq_false_iff.mpr c40
                                    subst c40
                                    have H1 : ((waybilllaw10_awake.f kj16).bind fun t278 => (some t278)) = some r := by rw [if_neg (show ¬ (false = true) by decide)] at H; exact H
                                    clear H
                                    have H := H1
                                    clear H1
                                    replace H := Option.bind_eq_some_iff.mp H
                                    obtain ⟨t278, A410, H⟩ := H
                                    replace H : (some t278) = some r := H
                                    have A41 := Aside0.mk A410
                                    clear A410
                                    obtain rfl := Option.some.inj H
                                    obtain ⟨Ao42, co42, eo42⟩ := Kd.R_slice HO_258001.out
                                    subst eo42
                                    try go_wp2
                                    have n0_ := Aside0.mk (Kd.R_drew HO_258001.out)
                                    have n1_ := Aside0.mk (blk_drew BK257.out)
                                    have n2_ := Aside0.mk (below_drew1 HB.out)
                                    clear HO_258001
                                    clear BK257
                                    clear HB
                                    have HO_258001 := n0_
                                    have BK257 := n1_
                                    have HB := n2_
                                    clear n0_ n1_ n2_
                                    refine start_ (n := 11) (S := fun w' => w'.cell? ⟨gb257, 0, none⟩ = some (.bool a3) ∧ w'.cell? ⟨gb257, 1, none⟩ = some (.slice Ao42 x258001_16.length co42)) (ds := []) #[false, false, false, false, false, false, false, false, false, false, false] (by kernel_rfl) rfl rfl ⟨(blk_cell BK257.out 0).trans rfl, (blk_cell BK257.out 1).trans rfl⟩ (fun hHeld => ?_); refine with_tabW waybilllaw10_NodeBounds.tab16 waybilllaw10_NodeBounds.bits16 (fun HT_ HW_ => ?_)
                                    generalize wc.drew = w43 at HO_258001 BK257 HB hHeld ⊢
                                    refine pure_ (i := 0) (N := some 70) (v := ?_) (a' := ?_) #[true, false, false, false, false, false, false, false, false, false, false] rfl rfl (any_of HT_.out (by kernel_rfl)) (fun _ _ _ h => h) (Or.inl ⟨by rfl, ?_⟩) ?_ ?_
                                    rotate_left
                                    · intro w'
                                      go_simp
                                      with_reducible rfl
                                    rotate_left
                                    · simp only [Act.put, List.setIfInBounds_toArray, List.set_cons_zero, List.set_cons_succ, i64_w, i32_w]
                                      rfl
                                    refine pure_ (i := 2) (N := some 72) (v := ?_) (a' := ?_) #[true, false, true, false, false, false, false, false, false, false, false] rfl rfl (any_of HT_.out (by kernel_rfl)) (fun _ _ _ h => h) (Or.inl ⟨by rfl, ?_⟩) ?_ ?_
                                    rotate_left
                                    · intro w'
                                      go_simp
                                      with_reducible rfl
                                    rotate_left
                                    · simp only [Act.put, List.setIfInBounds_toArray, List.set_cons_zero, List.set_cons_succ, i64_w, i32_w]
                                      rfl
                                    refine pure_ (i := 5) (N := some 75) (v := ?_) (a' := ?_) #[true, false, true, false, false, true, false, false, false, false, false] rfl rfl (any_of HT_.out (by kernel_rfl)) (fun _ _ _ h => h) (Or.inl ⟨by rfl, ?_⟩) ?_ ?_
                                    rotate_left
                                    · intro w'
                                      go_simp
                                      with_reducible rfl
                                    rotate_left
                                    · simp only [Act.put, List.setIfInBounds_toArray, List.set_cons_zero, List.set_cons_succ, i64_w, i32_w]
                                      rfl
                                    refine take_ (i := 3) (N := some 73) (v := ?_) (a' := ?_) #[true, false, true, true, false, true, false, false, false, false, false] rfl rfl (take_ofW HT_.out HW_.out (by kernel_rfl)) (fun _ _ _ h => h) (Or.inl ⟨by rfl, ?_⟩) hHeld ?_ ?_
                                    rotate_left
                                    · rintro w' ⟨s0, s1⟩
                                      go_simp
                                      with_reducible rfl
                                    rotate_left
                                    · simp only [Act.put, List.setIfInBounds_toArray, List.set_cons_zero, List.set_cons_succ, i64_w, i32_w]
                                      rfl
                                    refine take_ (i := 6) (N := some 76) (v := ?_) (a' := ?_) #[true, false, true, true, false, true, true, false, false, false, false] rfl rfl (take_ofW HT_.out HW_.out (by kernel_rfl)) (fun _ _ _ h => h) (Or.inl ⟨by rfl, ?_⟩) hHeld ?_ ?_
                                    rotate_left
                                    · rintro w' ⟨s0, s1⟩
                                      go_simp
                                      with_reducible rfl
                                    rotate_left
                                    · simp only [Act.put, List.setIfInBounds_toArray, List.set_cons_zero, List.set_cons_succ, i64_w, i32_w]
                                      rfl
                                    refine join_ (σ := Value × Value × Value × Nat) 1 #[true, true, true, true, true, true, true, true, true, true, false] (fun s_ => [(71, s_.1), (74, s_.2.1), (77, s_.2.2.1), (15, .pointer (some ⟨s_.2.2.2, 0, none⟩)), (78, .agg #[.bool a3, s_.2.2.1])]) (fun s_ w' => (w'.cell? ⟨gb257, 0, none⟩ = some (.bool a3) ∧ w'.cell? ⟨gb257, 1, none⟩ = some (.slice Ao42 x258001_16.length co42)) ∧ (Kd.R k41 41 w' w.heap.size (fun k_ => some k_ ≠ (.slice Ao42 x258001_16.length co42 : Value).ownBlock) s_.2.2.1 y266) ∧ (Kd.R k41 41 w' w.heap.size (fun k_ => some k_ ≠ (s_.2.2.1 : Value).ownBlock) (.slice Ao42 x258001_16.length co42) x258001_16) ∧ (w'.heap[gb257]? = some (.cells #[.bool a3, .slice Ao42 x258001_16.length co42] 44 (0, 0))) ∧ (w'.heap[s_.2.2.2]? = some (.cells #[.bool false, .slice none 0 0] 44 (0, 0))) ∧ (w.heap.size ≤ s_.2.2.2) ∧ (w.heap.size ≤ s_.2.2.2) ∧ (gb257 ≠ s_.2.2.2) ∧ (s_.2.2.2 ≠ gb257) ∧ (Below w.heap.size w w')) ?_ ?_
                                    rotate_left
                                    · intro hCont
                                      refine two_ (i := 1) (j := 9) (Ni := some 71) (Nj := some 15) #[true, true, true, true, false, true, true, false, false, false, false] #[true, false, true, true, false, true, true, false, false, true, false] rfl rfl rfl rfl (two_of HT_.out (by kernel_rfl)) (by decide) (by decide) (fun K hK => ?_) (fun K hK => ?_)
                                      · skip
                                        refine Kd.R_lit_step k41 _ 41 ?hg (N := 71) ?hd (xs := ([] : List (S41))) (inner := []) (ok := fun _ => True) (okp := fun _ => True) ?hr ?hp (fun _ hk => hk) trivial (Below.refl _ _) (Nat.le_refl _) (by simp) ?_; (case hd => rfl); (case hg => rfl); (case hr => first | (go_simp; done) | (go_simp; rfl)); (case hp => exact (Reps.none _ _))
                                        intro v261 w44 ho45 hb hg_ hnew_
                                        clear hg_ hnew_
                                        (first | rw [← Ny260.out] at ho45 | (simp only [Int.reduceToNat] at ho45; rw [← Ny260.out] at ho45))
                                        have n0_ := Aside0.mk (Kd.R_elder' (by (with_reducible repeat (first | apply Kd.R_alloc | apply Kd.R_drewN | apply Kd.R_drew)); exact HO_258001.out) (Kd.R_base ho45) hb)
                                        have n1_ := Aside0.mk (Kd.R_lower (Kd.R_new' ho45 (Kd.R_lt (by (with_reducible repeat (first | apply Kd.R_alloc | apply Kd.R_drewN | apply Kd.R_drew)); exact HO_258001.out))) (below_size (by repeat (first | (with_reducible first | exact HB.out | apply below_alloc | apply pw_below_drewN | apply below_drew1 | refine below_set ?_ GE257.out) | exact HB.out))))
                                        have n2_ := Aside0.mk (blk_below (g := gb257) (o := .cells #[.bool a3, .slice Ao42 x258001_16.length co42] 44 (0, 0)) (by (with_reducible repeat (first | refine blk_drewN ?_ _ | refine blk_drew ?_ | refine blk_alloc ?_ _)); exact BK257.out) hb)
                                        have n3_ := Aside0.mk (below_step (by repeat (first | (with_reducible first | exact HB.out | apply below_alloc | apply pw_below_drewN | apply below_drew1 | refine below_set ?_ GE257.out) | exact HB.out)) hb)
                                        clear HO_258001
                                        clear BK257
                                        clear HB
                                        have HO_258001 := n0_
                                        have HO262 := n1_
                                        have BK257 := n2_
                                        have HB := n3_
                                        clear n0_ n1_ n2_ n3_
                                        clear hb ho45
                                        refine hK.out _ _ ⟨(blk_cell BK257.out 0).trans rfl, (blk_cell BK257.out 1).trans rfl⟩ (fun hHeld => ?_)
                                        clear hK K
                                        refine norm_ (a' := ?_) ?_ ?_
                                        rotate_left
                                        · show Act.put _ (some 71) _ = _
                                          simp only [Act.put, List.setIfInBounds_toArray, List.set_cons_zero, List.set_cons_succ, i64_w, i32_w]
                                          rfl
                                        refine two_ (i := 4) (j := 9) (Ni := some 74) (Nj := some 15) #[true, true, true, true, true, true, true, false, false, false, false] #[true, true, true, true, false, true, true, false, false, true, false] rfl rfl rfl rfl (two_of HT_.out (by kernel_rfl)) (by decide) (by decide) (fun K hK => ?_) (fun K hK => ?_)
                                        · skip
                                          refine Kd.R_append_rows_step k41 (w0 := w) w.heap.size (by rfl) (.tmp 71) (.tmp 73) 42 41 (.agg #[(.string ⟨#[]⟩), (.string ⟨#[]⟩), (.int .i64 0)]) 40 rfl Try.underlying42 info41 rfl (by decide) (by omega) v261 y260 x258001_16 _ _ _ (fun k_ => some k_ ≠ (.slice Ao42 x258001_16.length co42 : Value).ownBlock) (fun _ => False) rfl rfl ?aO ?aR (fun _ _ h => h) (fun _ h => h.elim) ?aF ?aB ?aS ?aL ?_
                                          (case aR => repeat (first | exact (Kd.R_reads' HO_258001.out).2.2 | (with_reducible refine Kd.C_alloc ?_ _) | (with_reducible refine Kd.C_drewN ?_ _) | (with_reducible refine Kd.C_drew ?_)))
                                          (case aB => exact (by repeat (first | (with_reducible first | exact HB.out | apply below_alloc | apply pw_below_drewN | apply below_drew1 | refine below_set ?_ GE257.out) | exact HB.out)))
                                          (case aF => exact (fun k_ hk => Kd.fresh' (Kd.R_lt (by (with_reducible repeat (first | apply Kd.R_alloc | apply Kd.R_drewN | apply Kd.R_drew)); exact HO_258001.out)) k_ hk))
                                          (case aO => exact (by (with_reducible repeat (first | apply Kd.R_alloc | apply Kd.R_drewN | apply Kd.R_drew)); exact Kd.R_mono HO262.out (fun _ hk => hk.2)))
                                          (case aS => exact (below_size (by repeat (first | (with_reducible first | exact HB.out | apply below_alloc | apply pw_below_drewN | apply below_drew1 | refine below_set ?_ GE257.out) | exact HB.out))))
                                          (case aL => have := LMc29.out; omega)
                                          intro v264 w46 ho hb hg hat
                                          rw [← Ny263.out] at ho
                                          have n0_ := Aside0.mk (Kd.R_after (ok := (fun _ => True)) (by (with_reducible repeat (first | apply Kd.R_alloc | apply Kd.R_drewN | apply Kd.R_drew)); exact HO_258001.out) hg hat)
                                          have n1_ := Aside0.mk (blk_grown (g := gb257) (o := .cells #[.bool a3, .slice Ao42 x258001_16.length co42] 44 (0, 0)) (by (with_reducible repeat (first | refine blk_drewN ?_ _ | refine blk_drew ?_ | refine blk_alloc ?_ _)); exact BK257.out) hg (Kd.R_ne HO262.out BK257.out (by decide)))
                                          have n2_ := Aside0.mk (hb)
                                          have n3_ := Aside0.mk (ho)
                                          clear HO_258001
                                          clear BK257
                                          clear HB
                                          clear HO262
                                          have HO_258001 := n0_
                                          have BK257 := n1_
                                          have HB := n2_
                                          have HO265 := n3_
                                          clear n0_ n1_ n2_ n3_
                                          clear ho hb hg hat
                                          refine hK.out _ _ ⟨(blk_cell BK257.out 0).trans rfl, (blk_cell BK257.out 1).trans rfl⟩ (fun hHeld => ?_)
                                          clear hK K
                                          refine norm_ (a' := ?_) ?_ ?_
                                          rotate_left
                                          · show Act.put _ (some 74) _ = _
                                            simp only [Act.put, List.setIfInBounds_toArray, List.set_cons_zero, List.set_cons_succ, i64_w, i32_w]
                                            rfl
                                          refine two_ (i := 7) (j := 9) (Ni := some 77) (Nj := some 15) #[true, true, true, true, true, true, true, true, false, false, false] #[true, true, true, true, true, true, true, false, false, true, false] rfl rfl rfl rfl (two_of HT_.out (by kernel_rfl)) (by decide) (by decide) (fun K hK => ?_) (fun K hK => ?_)
                                          · skip
                                            refine Kd.R_append_rows_step k41 (w0 := w) w.heap.size (by rfl) (.tmp 74) (.tmp 76) 42 41 (.agg #[(.string ⟨#[]⟩), (.string ⟨#[]⟩), (.int .i64 0)]) 40 rfl Try.underlying42 info41 rfl (by decide) (by omega) v264 y263 x258001_16 _ _ _ (fun k_ => some k_ ≠ (.slice Ao42 x258001_16.length co42 : Value).ownBlock) (fun _ => False) rfl rfl ?aO ?aR (fun _ _ h => h) (fun _ h => h.elim) ?aF ?aB ?aS ?aL ?_
                                            (case aR => repeat (first | exact (Kd.R_reads' HO_258001.out).2.2 | (with_reducible refine Kd.C_alloc ?_ _) | (with_reducible refine Kd.C_drewN ?_ _) | (with_reducible refine Kd.C_drew ?_)))
                                            (case aB => exact (by repeat (first | (with_reducible first | exact HB.out | apply below_alloc | apply pw_below_drewN | apply below_drew1 | refine below_set ?_ GE257.out) | exact HB.out)))
                                            (case aF => exact (fun k_ hk => Kd.fresh' (Kd.R_lt (by (with_reducible repeat (first | apply Kd.R_alloc | apply Kd.R_drewN | apply Kd.R_drew)); exact HO_258001.out)) k_ hk))
                                            (case aO => exact (by (with_reducible repeat (first | apply Kd.R_alloc | apply Kd.R_drewN | apply Kd.R_drew)); exact HO265.out))
                                            (case aS => exact (below_size (by repeat (first | (with_reducible first | exact HB.out | apply below_alloc | apply pw_below_drewN | apply below_drew1 | refine below_set ?_ GE257.out) | exact HB.out))))
                                            (case aL => have := LMc30.out; omega)
                                            intro v267 w47 ho hb hg hat
                                            rw [← Ny266.out] at ho
                                            have n0_ := Aside0.mk (Kd.R_after (ok := (fun _ => True)) (by (with_reducible repeat (first | apply Kd.R_alloc | apply Kd.R_drewN | apply Kd.R_drew)); exact HO_258001.out) hg hat)
                                            have n1_ := Aside0.mk (blk_grown (g := gb257) (o := .cells #[.bool a3, .slice Ao42 x258001_16.length co42] 44 (0, 0)) (by (with_reducible repeat (first | refine blk_drewN ?_ _ | refine blk_drew ?_ | refine blk_alloc ?_ _)); exact BK257.out) hg (Kd.R_ne HO265.out BK257.out (by decide)))
                                            have n2_ := Aside0.mk (hb)
                                            have n3_ := Aside0.mk (ho)
                                            clear HO_258001
                                            clear BK257
                                            clear HB
                                            clear HO265
                                            have HO_258001 := n0_
                                            have BK257 := n1_
                                            have HB := n2_
                                            have HO268 := n3_
                                            clear n0_ n1_ n2_ n3_
                                            clear ho hb hg hat
                                            obtain ⟨Ao48, co48, eo48⟩ := Kd.R_slice HO268.out
                                            (first | subst eo48 | (injection eo48 with f1_ f2_ f3_; have f4_ := f1_.symm; have f5_ := f3_.symm; clear f1_ f2_ f3_; subst f4_; subst f5_))
                                            refine hK.out _ _ ⟨(blk_cell BK257.out 0).trans rfl, (blk_cell BK257.out 1).trans rfl⟩ (fun hHeld => ?_)
                                            clear hK K
                                            refine norm_ (a' := ?_) ?_ ?_
                                            rotate_left
                                            · show Act.put _ (some 77) _ = _
                                              simp only [Act.put, List.setIfInBounds_toArray, List.set_cons_zero, List.set_cons_succ, i64_w, i32_w]
                                              rfl
                                            refine pure_ (i := 8) (N := some 78) (v := ?_) (a' := ?_) #[true, true, true, true, true, true, true, true, true, false, false] rfl rfl (any_of HT_.out (by kernel_rfl)) (fun _ _ _ h => h) (Or.inl ⟨by rfl, ?_⟩) ?_ ?_
                                            rotate_left
                                            · intro w'
                                              go_simp
                                              with_reducible rfl
                                            rotate_left
                                            · simp only [Act.put, List.setIfInBounds_toArray, List.set_cons_zero, List.set_cons_succ, i64_w, i32_w]
                                              rfl
                                            refine one_ (i := 9) (N := some 15) #[true, true, true, true, true, true, true, true, true, true, false] rfl rfl (one_of HT_.out (by kernel_rfl)) (by decide) (fun K hK => ?_)
                                            refine box_step ?hg (N := 15) ?hd (cs := #[.bool false, .slice none 0 0]) (t := 44) ?hr ?_; (case hd => rfl); (case hg => rfl); (case hr => first | (go_simp; done) | (go_simp; rfl))
                                            intro gb269 hg w49 hbox hb
                                            have n0_ := Aside0.mk (Kd.R_below (by (with_reducible repeat (first | apply Kd.R_alloc | apply Kd.R_drewN | apply Kd.R_drew)); exact HO_258001.out) hb)
                                            have n1_ := Aside0.mk (Kd.R_below (by (with_reducible repeat (first | apply Kd.R_alloc | apply Kd.R_drewN | apply Kd.R_drew)); exact HO268.out) hb)
                                            have n2_ := Aside0.mk (blk_below (g := gb257) (o := .cells #[.bool a3, .slice Ao42 x258001_16.length co42] 44 (0, 0)) (by (with_reducible repeat (first | refine blk_drewN ?_ _ | refine blk_drew ?_ | refine blk_alloc ?_ _)); exact BK257.out) hb)
                                            have n3_ := Aside0.mk (below_step (by repeat (first | (with_reducible first | exact HB.out | apply below_alloc | apply pw_below_drewN | apply below_drew1 | refine below_set ?_ GE257.out) | exact HB.out)) hb)
                                            have n4_ := Aside0.mk (hbox)
                                            have n5_ := Aside0.mk ((by rw [hg]; exact (below_size (by repeat (first | (with_reducible first | exact HB.out | apply below_alloc | apply pw_below_drewN | apply below_drew1 | refine below_set ?_ GE257.out) | exact HB.out))) : w.heap.size ≤ gb269))
                                            have n6_ := Aside0.mk ((by rw [hg]; exact (below_size (by repeat (first | (with_reducible first | exact HB.out | apply below_alloc | apply pw_below_drewN | apply below_drew1 | refine below_set ?_ GE257.out) | exact HB.out))) : w.heap.size ≤ gb269))
                                            have n7_ := Aside0.mk ((by rw [hg]; exact Nat.ne_of_lt (blk_lt (g := gb257) (o := .cells #[.bool a3, .slice Ao42 x258001_16.length co42] 44 (0, 0)) (by (with_reducible repeat (first | refine blk_drewN ?_ _ | refine blk_drew ?_ | refine blk_alloc ?_ _)); exact BK257.out)) : gb257 ≠ gb269))
                                            have n8_ := Aside0.mk ((by rw [hg]; exact Nat.ne_of_gt (blk_lt (g := gb257) (o := .cells #[.bool a3, .slice Ao42 x258001_16.length co42] 44 (0, 0)) (by (with_reducible repeat (first | refine blk_drewN ?_ _ | refine blk_drew ?_ | refine blk_alloc ?_ _)); exact BK257.out)) : gb269 ≠ gb257))
                                            clear HO_258001
                                            clear HO268
                                            clear BK257
                                            clear HB
                                            have HO_258001 := n0_
                                            have HO268 := n1_
                                            have BK257 := n2_
                                            have HB := n3_
                                            have BK269 := n4_
                                            have GW269 := n5_
                                            have GE269 := n6_
                                            have NB257_269 := n7_
                                            have NB269_257 := n8_
                                            clear n0_ n1_ n2_ n3_ n4_ n5_ n6_ n7_ n8_
                                            clear hb hbox hg
                                            refine hK.out _ _ ⟨(blk_cell BK257.out 0).trans rfl, (blk_cell BK257.out 1).trans rfl⟩ (fun hHeld => ?_)
                                            clear hK K
                                            refine norm_ (a' := ?_) ?_ ?_
                                            rotate_left
                                            · show Act.put _ (some 15) _ = _
                                              simp only [Act.put, List.setIfInBounds_toArray, List.set_cons_zero, List.set_cons_succ, i64_w, i32_w]
                                              rfl
                                            exact norm_ (by simp only [putAll, Act.put, List.setIfInBounds_toArray, List.set_cons_zero, List.set_cons_succ]) (hCont (v261, v264, .slice Ao48 y266.length co48, gb269) _ ⟨hHeld, (by (with_reducible repeat (first | apply Kd.R_alloc | apply Kd.R_drewN | apply Kd.R_drew)); exact HO268.out), (by (with_reducible repeat (first | apply Kd.R_alloc | apply Kd.R_drewN | apply Kd.R_drew)); exact Kd.R_mono HO_258001.out (fun _ hk => hk.2)), (by (with_reducible repeat (first | refine blk_drewN ?_ _ | refine blk_drew ?_ | refine blk_alloc ?_ _)); exact BK257.out), (by (with_reducible repeat (first | refine blk_drewN ?_ _ | refine blk_drew ?_ | refine blk_alloc ?_ _)); exact BK269.out), GW269.out, GE269.out, NB257_269.out, NB269_257.out, (by repeat (first | (with_reducible first | exact HB.out | apply below_alloc | apply pw_below_drewN | apply below_drew1 | refine below_set ?_ GE257.out | refine below_set ?_ GE269.out) | exact HB.out))⟩)
                                          · skip
                                            refine box_step ?hg (N := 15) ?hd (cs := #[.bool false, .slice none 0 0]) (t := 44) ?hr ?_; (case hd => rfl); (case hg => rfl); (case hr => first | (go_simp; done) | (go_simp; rfl))
                                            intro gb269 hg w47 hbox hb
                                            have n0_ := Aside0.mk (Kd.R_below (by (with_reducible repeat (first | apply Kd.R_alloc | apply Kd.R_drewN | apply Kd.R_drew)); exact HO_258001.out) hb)
                                            have n1_ := Aside0.mk (Kd.R_below (by (with_reducible repeat (first | apply Kd.R_alloc | apply Kd.R_drewN | apply Kd.R_drew)); exact HO265.out) hb)
                                            have n2_ := Aside0.mk (blk_below (g := gb257) (o := .cells #[.bool a3, .slice Ao42 x258001_16.length co42] 44 (0, 0)) (by (with_reducible repeat (first | refine blk_drewN ?_ _ | refine blk_drew ?_ | refine blk_alloc ?_ _)); exact BK257.out) hb)
                                            have n3_ := Aside0.mk (below_step (by repeat (first | (with_reducible first | exact HB.out | apply below_alloc | apply pw_below_drewN | apply below_drew1 | refine below_set ?_ GE257.out) | exact HB.out)) hb)
                                            have n4_ := Aside0.mk (hbox)
                                            have n5_ := Aside0.mk ((by rw [hg]; exact (below_size (by repeat (first | (with_reducible first | exact HB.out | apply below_alloc | apply pw_below_drewN | apply below_drew1 | refine below_set ?_ GE257.out) | exact HB.out))) : w.heap.size ≤ gb269))
                                            have n6_ := Aside0.mk ((by rw [hg]; exact (below_size (by repeat (first | (with_reducible first | exact HB.out | apply below_alloc | apply pw_below_drewN | apply below_drew1 | refine below_set ?_ GE257.out) | exact HB.out))) : w.heap.size ≤ gb269))
                                            have n7_ := Aside0.mk ((by rw [hg]; exact Nat.ne_of_lt (blk_lt (g := gb257) (o := .cells #[.bool a3, .slice Ao42 x258001_16.length co42] 44 (0, 0)) (by (with_reducible repeat (first | refine blk_drewN ?_ _ | refine blk_drew ?_ | refine blk_alloc ?_ _)); exact BK257.out)) : gb257 ≠ gb269))
                                            have n8_ := Aside0.mk ((by rw [hg]; exact Nat.ne_of_gt (blk_lt (g := gb257) (o := .cells #[.bool a3, .slice Ao42 x258001_16.length co42] 44 (0, 0)) (by (with_reducible repeat (first | refine blk_drewN ?_ _ | refine blk_drew ?_ | refine blk_alloc ?_ _)); exact BK257.out)) : gb269 ≠ gb257))
                                            clear HO_258001
                                            clear HO265
                                            clear BK257
                                            clear HB
                                            have HO_258001 := n0_
                                            have HO265 := n1_
                                            have BK257 := n2_
                                            have HB := n3_
                                            have BK269 := n4_
                                            have GW269 := n5_
                                            have GE269 := n6_
                                            have NB257_269 := n7_
                                            have NB269_257 := n8_
                                            clear n0_ n1_ n2_ n3_ n4_ n5_ n6_ n7_ n8_
                                            clear hb hbox hg
                                            refine hK.out _ _ ⟨(blk_cell BK257.out 0).trans rfl, (blk_cell BK257.out 1).trans rfl⟩ (fun hHeld => ?_)
                                            clear hK K
                                            refine norm_ (a' := ?_) ?_ ?_
                                            rotate_left
                                            · show Act.put _ (some 15) _ = _
                                              simp only [Act.put, List.setIfInBounds_toArray, List.set_cons_zero, List.set_cons_succ, i64_w, i32_w]
                                              rfl
                                            refine one_ (i := 7) (N := some 77) #[true, true, true, true, true, true, true, true, false, true, false] rfl rfl (one_of HT_.out (by kernel_rfl)) (by decide) (fun K hK => ?_)
                                            refine Kd.R_append_rows_step k41 (w0 := w) w.heap.size (by rfl) (.tmp 74) (.tmp 76) 42 41 (.agg #[(.string ⟨#[]⟩), (.string ⟨#[]⟩), (.int .i64 0)]) 40 rfl Try.underlying42 info41 rfl (by decide) (by omega) v264 y263 x258001_16 _ _ _ (fun k_ => some k_ ≠ (.slice Ao42 x258001_16.length co42 : Value).ownBlock) (fun _ => False) rfl rfl ?aO ?aR (fun _ _ h => h) (fun _ h => h.elim) ?aF ?aB ?aS ?aL ?_
                                            (case aR => repeat (first | exact (Kd.R_reads' HO_258001.out).2.2 | (with_reducible refine Kd.C_alloc ?_ _) | (with_reducible refine Kd.C_drewN ?_ _) | (with_reducible refine Kd.C_drew ?_)))
                                            (case aB => exact (by repeat (first | (with_reducible first | exact HB.out | apply below_alloc | apply pw_below_drewN | apply below_drew1 | refine below_set ?_ GE257.out | refine below_set ?_ GE269.out) | exact HB.out)))
                                            (case aF => exact (fun k_ hk => Kd.fresh' (Kd.R_lt (by (with_reducible repeat (first | apply Kd.R_alloc | apply Kd.R_drewN | apply Kd.R_drew)); exact HO_258001.out)) k_ hk))
                                            (case aO => exact (by (with_reducible repeat (first | apply Kd.R_alloc | apply Kd.R_drewN | apply Kd.R_drew)); exact HO265.out))
                                            (case aS => exact (below_size (by repeat (first | (with_reducible first | exact HB.out | apply below_alloc | apply pw_below_drewN | apply below_drew1 | refine below_set ?_ GE257.out | refine below_set ?_ GE269.out) | exact HB.out))))
                                            (case aL => have := LMc30.out; omega)
                                            intro v267 w48 ho hb hg hat
                                            rw [← Ny266.out] at ho
                                            have n0_ := Aside0.mk (Kd.R_after (ok := (fun _ => True)) (by (with_reducible repeat (first | apply Kd.R_alloc | apply Kd.R_drewN | apply Kd.R_drew)); exact HO_258001.out) hg hat)
                                            have n1_ := Aside0.mk (blk_grown (g := gb257) (o := .cells #[.bool a3, .slice Ao42 x258001_16.length co42] 44 (0, 0)) (by (with_reducible repeat (first | refine blk_drewN ?_ _ | refine blk_drew ?_ | refine blk_alloc ?_ _)); exact BK257.out) hg (Kd.R_ne HO265.out BK257.out (by decide)))
                                            have n2_ := Aside0.mk (blk_grown (g := gb269) (o := .cells #[.bool false, .slice none 0 0] 44 (0, 0)) (by (with_reducible repeat (first | refine blk_drewN ?_ _ | refine blk_drew ?_ | refine blk_alloc ?_ _)); exact BK269.out) hg (Kd.R_ne HO265.out BK269.out (by decide)))
                                            have n3_ := Aside0.mk (hb)
                                            have n4_ := Aside0.mk (ho)
                                            clear HO_258001
                                            clear BK257
                                            clear BK269
                                            clear HB
                                            clear HO265
                                            have HO_258001 := n0_
                                            have BK257 := n1_
                                            have BK269 := n2_
                                            have HB := n3_
                                            have HO268 := n4_
                                            clear n0_ n1_ n2_ n3_ n4_
                                            clear ho hb hg hat
                                            obtain ⟨Ao49, co49, eo49⟩ := Kd.R_slice HO268.out
                                            (first | subst eo49 | (injection eo49 with f1_ f2_ f3_; have f4_ := f1_.symm; have f5_ := f3_.symm; clear f1_ f2_ f3_; subst f4_; subst f5_))
                                            refine hK.out _ _ ⟨(blk_cell BK257.out 0).trans rfl, (blk_cell BK257.out 1).trans rfl⟩ (fun hHeld => ?_)
                                            clear hK K
                                            refine norm_ (a' := ?_) ?_ ?_
                                            rotate_left
                                            · show Act.put _ (some 77) _ = _
                                              simp only [Act.put, List.setIfInBounds_toArray, List.set_cons_zero, List.set_cons_succ, i64_w, i32_w]
                                              rfl
                                            refine pure_ (i := 8) (N := some 78) (v := ?_) (a' := ?_) #[true, true, true, true, true, true, true, true, true, true, false] rfl rfl (any_of HT_.out (by kernel_rfl)) (fun _ _ _ h => h) (Or.inl ⟨by rfl, ?_⟩) ?_ ?_
                                            rotate_left
                                            · intro w'
                                              go_simp
                                              with_reducible rfl
                                            rotate_left
                                            · simp only [Act.put, List.setIfInBounds_toArray, List.set_cons_zero, List.set_cons_succ, i64_w, i32_w]
                                              rfl
                                            exact norm_ (by simp only [putAll, Act.put, List.setIfInBounds_toArray, List.set_cons_zero, List.set_cons_succ]) (hCont (v261, v264, .slice Ao49 y266.length co49, gb269) _ ⟨hHeld, (by (with_reducible repeat (first | apply Kd.R_alloc | apply Kd.R_drewN | apply Kd.R_drew)); exact HO268.out), (by (with_reducible repeat (first | apply Kd.R_alloc | apply Kd.R_drewN | apply Kd.R_drew)); exact Kd.R_mono HO_258001.out (fun _ hk => hk.2)), (by (with_reducible repeat (first | refine blk_drewN ?_ _ | refine blk_drew ?_ | refine blk_alloc ?_ _)); exact BK257.out), (by (with_reducible repeat (first | refine blk_drewN ?_ _ | refine blk_drew ?_ | refine blk_alloc ?_ _)); exact BK269.out), GW269.out, GE269.out, NB257_269.out, NB269_257.out, (by repeat (first | (with_reducible first | exact HB.out | apply below_alloc | apply pw_below_drewN | apply below_drew1 | refine below_set ?_ GE257.out | refine below_set ?_ GE269.out) | exact HB.out))⟩)
                                        · skip
                                          refine box_step ?hg (N := 15) ?hd (cs := #[.bool false, .slice none 0 0]) (t := 44) ?hr ?_; (case hd => rfl); (case hg => rfl); (case hr => first | (go_simp; done) | (go_simp; rfl))
                                          intro gb269 hg w46 hbox hb
                                          have n0_ := Aside0.mk (Kd.R_below (by (with_reducible repeat (first | apply Kd.R_alloc | apply Kd.R_drewN | apply Kd.R_drew)); exact HO_258001.out) hb)
                                          have n1_ := Aside0.mk (Kd.R_below (by (with_reducible repeat (first | apply Kd.R_alloc | apply Kd.R_drewN | apply Kd.R_drew)); exact HO262.out) hb)
                                          have n2_ := Aside0.mk (blk_below (g := gb257) (o := .cells #[.bool a3, .slice Ao42 x258001_16.length co42] 44 (0, 0)) (by (with_reducible repeat (first | refine blk_drewN ?_ _ | refine blk_drew ?_ | refine blk_alloc ?_ _)); exact BK257.out) hb)
                                          have n3_ := Aside0.mk (below_step (by repeat (first | (with_reducible first | exact HB.out | apply below_alloc | apply pw_below_drewN | apply below_drew1 | refine below_set ?_ GE257.out) | exact HB.out)) hb)
                                          have n4_ := Aside0.mk (hbox)
                                          have n5_ := Aside0.mk ((by rw [hg]; exact (below_size (by repeat (first | (with_reducible first | exact HB.out | apply below_alloc | apply pw_below_drewN | apply below_drew1 | refine below_set ?_ GE257.out) | exact HB.out))) : w.heap.size ≤ gb269))
                                          have n6_ := Aside0.mk ((by rw [hg]; exact (below_size (by repeat (first | (with_reducible first | exact HB.out | apply below_alloc | apply pw_below_drewN | apply below_drew1 | refine below_set ?_ GE257.out) | exact HB.out))) : w.heap.size ≤ gb269))
                                          have n7_ := Aside0.mk ((by rw [hg]; exact Nat.ne_of_lt (blk_lt (g := gb257) (o := .cells #[.bool a3, .slice Ao42 x258001_16.length co42] 44 (0, 0)) (by (with_reducible repeat (first | refine blk_drewN ?_ _ | refine blk_drew ?_ | refine blk_alloc ?_ _)); exact BK257.out)) : gb257 ≠ gb269))
                                          have n8_ := Aside0.mk ((by rw [hg]; exact Nat.ne_of_gt (blk_lt (g := gb257) (o := .cells #[.bool a3, .slice Ao42 x258001_16.length co42] 44 (0, 0)) (by (with_reducible repeat (first | refine blk_drewN ?_ _ | refine blk_drew ?_ | refine blk_alloc ?_ _)); exact BK257.out)) : gb269 ≠ gb257))
                                          clear HO_258001
                                          clear HO262
                                          clear BK257
                                          clear HB
                                          have HO_258001 := n0_
                                          have HO262 := n1_
                                          have BK257 := n2_
                                          have HB := n3_
                                          have BK269 := n4_
                                          have GW269 := n5_
                                          have GE269 := n6_
                                          have NB257_269 := n7_
                                          have NB269_257 := n8_
                                          clear n0_ n1_ n2_ n3_ n4_ n5_ n6_ n7_ n8_
                                          clear hb hbox hg
                                          refine hK.out _ _ ⟨(blk_cell BK257.out 0).trans rfl, (blk_cell BK257.out 1).trans rfl⟩ (fun hHeld => ?_)
                                          clear hK K
                                          refine norm_ (a' := ?_) ?_ ?_
                                          rotate_left
                                          · show Act.put _ (some 15) _ = _
                                            simp only [Act.put, List.setIfInBounds_toArray, List.set_cons_zero, List.set_cons_succ, i64_w, i32_w]
                                            rfl
                                          refine one_ (i := 4) (N := some 74) #[true, true, true, true, true, true, true, false, false, true, false] rfl rfl (one_of HT_.out (by kernel_rfl)) (by decide) (fun K hK => ?_)
                                          refine Kd.R_append_rows_step k41 (w0 := w) w.heap.size (by rfl) (.tmp 71) (.tmp 73) 42 41 (.agg #[(.string ⟨#[]⟩), (.string ⟨#[]⟩), (.int .i64 0)]) 40 rfl Try.underlying42 info41 rfl (by decide) (by omega) v261 y260 x258001_16 _ _ _ (fun k_ => some k_ ≠ (.slice Ao42 x258001_16.length co42 : Value).ownBlock) (fun _ => False) rfl rfl ?aO ?aR (fun _ _ h => h) (fun _ h => h.elim) ?aF ?aB ?aS ?aL ?_
                                          (case aR => repeat (first | exact (Kd.R_reads' HO_258001.out).2.2 | (with_reducible refine Kd.C_alloc ?_ _) | (with_reducible refine Kd.C_drewN ?_ _) | (with_reducible refine Kd.C_drew ?_)))
                                          (case aB => exact (by repeat (first | (with_reducible first | exact HB.out | apply below_alloc | apply pw_below_drewN | apply below_drew1 | refine below_set ?_ GE257.out | refine below_set ?_ GE269.out) | exact HB.out)))
                                          (case aF => exact (fun k_ hk => Kd.fresh' (Kd.R_lt (by (with_reducible repeat (first | apply Kd.R_alloc | apply Kd.R_drewN | apply Kd.R_drew)); exact HO_258001.out)) k_ hk))
                                          (case aO => exact (by (with_reducible repeat (first | apply Kd.R_alloc | apply Kd.R_drewN | apply Kd.R_drew)); exact Kd.R_mono HO262.out (fun _ hk => hk.2)))
                                          (case aS => exact (below_size (by repeat (first | (with_reducible first | exact HB.out | apply below_alloc | apply pw_below_drewN | apply below_drew1 | refine below_set ?_ GE257.out | refine below_set ?_ GE269.out) | exact HB.out))))
                                          (case aL => have := LMc29.out; omega)
                                          intro v264 w47 ho hb hg hat
                                          rw [← Ny263.out] at ho
                                          have n0_ := Aside0.mk (Kd.R_after (ok := (fun _ => True)) (by (with_reducible repeat (first | apply Kd.R_alloc | apply Kd.R_drewN | apply Kd.R_drew)); exact HO_258001.out) hg hat)
                                          have n1_ := Aside0.mk (blk_grown (g := gb257) (o := .cells #[.bool a3, .slice Ao42 x258001_16.length co42] 44 (0, 0)) (by (with_reducible repeat (first | refine blk_drewN ?_ _ | refine blk_drew ?_ | refine blk_alloc ?_ _)); exact BK257.out) hg (Kd.R_ne HO262.out BK257.out (by decide)))
                                          have n2_ := Aside0.mk (blk_grown (g := gb269) (o := .cells #[.bool false, .slice none 0 0] 44 (0, 0)) (by (with_reducible repeat (first | refine blk_drewN ?_ _ | refine blk_drew ?_ | refine blk_alloc ?_ _)); exact BK269.out) hg (Kd.R_ne HO262.out BK269.out (by decide)))
                                          have n3_ := Aside0.mk (hb)
                                          have n4_ := Aside0.mk (ho)
                                          clear HO_258001
                                          clear BK257
                                          clear BK269
                                          clear HB
                                          clear HO262
                                          have HO_258001 := n0_
                                          have BK257 := n1_
                                          have BK269 := n2_
                                          have HB := n3_
                                          have HO265 := n4_
                                          clear n0_ n1_ n2_ n3_ n4_
                                          clear ho hb hg hat
                                          refine hK.out _ _ ⟨(blk_cell BK257.out 0).trans rfl, (blk_cell BK257.out 1).trans rfl⟩ (fun hHeld => ?_)
                                          clear hK K
                                          refine norm_ (a' := ?_) ?_ ?_
                                          rotate_left
                                          · show Act.put _ (some 74) _ = _
                                            simp only [Act.put, List.setIfInBounds_toArray, List.set_cons_zero, List.set_cons_succ, i64_w, i32_w]
                                            rfl
                                          refine one_ (i := 7) (N := some 77) #[true, true, true, true, true, true, true, true, false, true, false] rfl rfl (one_of HT_.out (by kernel_rfl)) (by decide) (fun K hK => ?_)
                                          refine Kd.R_append_rows_step k41 (w0 := w) w.heap.size (by rfl) (.tmp 74) (.tmp 76) 42 41 (.agg #[(.string ⟨#[]⟩), (.string ⟨#[]⟩), (.int .i64 0)]) 40 rfl Try.underlying42 info41 rfl (by decide) (by omega) v264 y263 x258001_16 _ _ _ (fun k_ => some k_ ≠ (.slice Ao42 x258001_16.length co42 : Value).ownBlock) (fun _ => False) rfl rfl ?aO ?aR (fun _ _ h => h) (fun _ h => h.elim) ?aF ?aB ?aS ?aL ?_
                                          (case aR => repeat (first | exact (Kd.R_reads' HO_258001.out).2.2 | (with_reducible refine Kd.C_alloc ?_ _) | (with_reducible refine Kd.C_drewN ?_ _) | (with_reducible refine Kd.C_drew ?_)))
                                          (case aB => exact (by repeat (first | (with_reducible first | exact HB.out | apply below_alloc | apply pw_below_drewN | apply below_drew1 | refine below_set ?_ GE257.out | refine below_set ?_ GE269.out) | exact HB.out)))
                                          (case aF => exact (fun k_ hk => Kd.fresh' (Kd.R_lt (by (with_reducible repeat (first | apply Kd.R_alloc | apply Kd.R_drewN | apply Kd.R_drew)); exact HO_258001.out)) k_ hk))
                                          (case aO => exact (by (with_reducible repeat (first | apply Kd.R_alloc | apply Kd.R_drewN | apply Kd.R_drew)); exact HO265.out))
                                          (case aS => exact (below_size (by repeat (first | (with_reducible first | exact HB.out | apply below_alloc | apply pw_below_drewN | apply below_drew1 | refine below_set ?_ GE257.out | refine below_set ?_ GE269.out) | exact HB.out))))
                                          (case aL => have := LMc30.out; omega)
                                          intro v267 w48 ho hb hg hat
                                          rw [← Ny266.out] at ho
                                          have n0_ := Aside0.mk (Kd.R_after (ok := (fun _ => True)) (by (with_reducible repeat (first | apply Kd.R_alloc | apply Kd.R_drewN | apply Kd.R_drew)); exact HO_258001.out) hg hat)
                                          have n1_ := Aside0.mk (blk_grown (g := gb257) (o := .cells #[.bool a3, .slice Ao42 x258001_16.length co42] 44 (0, 0)) (by (with_reducible repeat (first | refine blk_drewN ?_ _ | refine blk_drew ?_ | refine blk_alloc ?_ _)); exact BK257.out) hg (Kd.R_ne HO265.out BK257.out (by decide)))
                                          have n2_ := Aside0.mk (blk_grown (g := gb269) (o := .cells #[.bool false, .slice none 0 0] 44 (0, 0)) (by (with_reducible repeat (first | refine blk_drewN ?_ _ | refine blk_drew ?_ | refine blk_alloc ?_ _)); exact BK269.out) hg (Kd.R_ne HO265.out BK269.out (by decide)))
                                          have n3_ := Aside0.mk (hb)
                                          have n4_ := Aside0.mk (ho)
                                          clear HO_258001
                                          clear BK257
                                          clear BK269
                                          clear HB
                                          clear HO265
                                          have HO_258001 := n0_
                                          have BK257 := n1_
                                          have BK269 := n2_
                                          have HB := n3_
                                          have HO268 := n4_
                                          clear n0_ n1_ n2_ n3_ n4_
                                          clear ho hb hg hat
                                          obtain ⟨Ao49, co49, eo49⟩ := Kd.R_slice HO268.out
                                          (first | subst eo49 | (injection eo49 with f1_ f2_ f3_; have f4_ := f1_.symm; have f5_ := f3_.symm; clear f1_ f2_ f3_; subst f4_; subst f5_))
                                          refine hK.out _ _ ⟨(blk_cell BK257.out 0).trans rfl, (blk_cell BK257.out 1).trans rfl⟩ (fun hHeld => ?_)
                                          clear hK K
                                          refine norm_ (a' := ?_) ?_ ?_
                                          rotate_left
                                          · show Act.put _ (some 77) _ = _
                                            simp only [Act.put, List.setIfInBounds_toArray, List.set_cons_zero, List.set_cons_succ, i64_w, i32_w]
                                            rfl
                                          refine pure_ (i := 8) (N := some 78) (v := ?_) (a' := ?_) #[true, true, true, true, true, true, true, true, true, true, false] rfl rfl (any_of HT_.out (by kernel_rfl)) (fun _ _ _ h => h) (Or.inl ⟨by rfl, ?_⟩) ?_ ?_
                                          rotate_left
                                          · intro w'
                                            go_simp
                                            with_reducible rfl
                                          rotate_left
                                          · simp only [Act.put, List.setIfInBounds_toArray, List.set_cons_zero, List.set_cons_succ, i64_w, i32_w]
                                            rfl
                                          exact norm_ (by simp only [putAll, Act.put, List.setIfInBounds_toArray, List.set_cons_zero, List.set_cons_succ]) (hCont (v261, v264, .slice Ao49 y266.length co49, gb269) _ ⟨hHeld, (by (with_reducible repeat (first | apply Kd.R_alloc | apply Kd.R_drewN | apply Kd.R_drew)); exact HO268.out), (by (with_reducible repeat (first | apply Kd.R_alloc | apply Kd.R_drewN | apply Kd.R_drew)); exact Kd.R_mono HO_258001.out (fun _ hk => hk.2)), (by (with_reducible repeat (first | refine blk_drewN ?_ _ | refine blk_drew ?_ | refine blk_alloc ?_ _)); exact BK257.out), (by (with_reducible repeat (first | refine blk_drewN ?_ _ | refine blk_drew ?_ | refine blk_alloc ?_ _)); exact BK269.out), GW269.out, GE269.out, NB257_269.out, NB269_257.out, (by repeat (first | (with_reducible first | exact HB.out | apply below_alloc | apply pw_below_drewN | apply below_drew1 | refine below_set ?_ GE257.out | refine below_set ?_ GE269.out) | exact HB.out))⟩)
                                      · skip
                                        refine box_step ?hg (N := 15) ?hd (cs := #[.bool false, .slice none 0 0]) (t := 44) ?hr ?_; (case hd => rfl); (case hg => rfl); (case hr => first | (go_simp; done) | (go_simp; rfl))
                                        intro gb269 hg w44 hbox hb
                                        have n0_ := Aside0.mk (Kd.R_below (by (with_reducible repeat (first | apply Kd.R_alloc | apply Kd.R_drewN | apply Kd.R_drew)); exact HO_258001.out) hb)
                                        have n1_ := Aside0.mk (blk_below (g := gb257) (o := .cells #[.bool a3, .slice Ao42 x258001_16.length co42] 44 (0, 0)) (by (with_reducible repeat (first | refine blk_drewN ?_ _ | refine blk_drew ?_ | refine blk_alloc ?_ _)); exact BK257.out) hb)
                                        have n2_ := Aside0.mk (below_step (by repeat (first | (with_reducible first | exact HB.out | apply below_alloc | apply pw_below_drewN | apply below_drew1 | refine below_set ?_ GE257.out) | exact HB.out)) hb)
                                        have n3_ := Aside0.mk (hbox)
                                        have n4_ := Aside0.mk ((by rw [hg]; exact (below_size (by repeat (first | (with_reducible first | exact HB.out | apply below_alloc | apply pw_below_drewN | apply below_drew1 | refine below_set ?_ GE257.out) | exact HB.out))) : w.heap.size ≤ gb269))
                                        have n5_ := Aside0.mk ((by rw [hg]; exact (below_size (by repeat (first | (with_reducible first | exact HB.out | apply below_alloc | apply pw_below_drewN | apply below_drew1 | refine below_set ?_ GE257.out) | exact HB.out))) : w.heap.size ≤ gb269))
                                        have n6_ := Aside0.mk ((by rw [hg]; exact Nat.ne_of_lt (blk_lt (g := gb257) (o := .cells #[.bool a3, .slice Ao42 x258001_16.length co42] 44 (0, 0)) (by (with_reducible repeat (first | refine blk_drewN ?_ _ | refine blk_drew ?_ | refine blk_alloc ?_ _)); exact BK257.out)) : gb257 ≠ gb269))
                                        have n7_ := Aside0.mk ((by rw [hg]; exact Nat.ne_of_gt (blk_lt (g := gb257) (o := .cells #[.bool a3, .slice Ao42 x258001_16.length co42] 44 (0, 0)) (by (with_reducible repeat (first | refine blk_drewN ?_ _ | refine blk_drew ?_ | refine blk_alloc ?_ _)); exact BK257.out)) : gb269 ≠ gb257))
                                        clear HO_258001
                                        clear BK257
                                        clear HB
                                        have HO_258001 := n0_
                                        have BK257 := n1_
                                        have HB := n2_
                                        have BK269 := n3_
                                        have GW269 := n4_
                                        have GE269 := n5_
                                        have NB257_269 := n6_
                                        have NB269_257 := n7_
                                        clear n0_ n1_ n2_ n3_ n4_ n5_ n6_ n7_
                                        clear hb hbox hg
                                        refine hK.out _ _ ⟨(blk_cell BK257.out 0).trans rfl, (blk_cell BK257.out 1).trans rfl⟩ (fun hHeld => ?_)
                                        clear hK K
                                        refine norm_ (a' := ?_) ?_ ?_
                                        rotate_left
                                        · show Act.put _ (some 15) _ = _
                                          simp only [Act.put, List.setIfInBounds_toArray, List.set_cons_zero, List.set_cons_succ, i64_w, i32_w]
                                          rfl
                                        refine one_ (i := 1) (N := some 71) #[true, true, true, true, false, true, true, false, false, true, false] rfl rfl (one_of HT_.out (by kernel_rfl)) (by decide) (fun K hK => ?_)
                                        refine Kd.R_lit_step k41 _ 41 ?hg (N := 71) ?hd (xs := ([] : List (S41))) (inner := []) (ok := fun _ => True) (okp := fun _ => True) ?hr ?hp (fun _ hk => hk) trivial (Below.refl _ _) (Nat.le_refl _) (by simp) ?_; (case hd => rfl); (case hg => rfl); (case hr => first | (go_simp; done) | (go_simp; rfl)); (case hp => exact (Reps.none _ _))
                                        intro v261 w45 ho46 hb hg_ hnew_
                                        clear hg_ hnew_
                                        (first | rw [← Ny260.out] at ho46 | (simp only [Int.reduceToNat] at ho46; rw [← Ny260.out] at ho46))
                                        have n0_ := Aside0.mk (Kd.R_elder' (by (with_reducible repeat (first | apply Kd.R_alloc | apply Kd.R_drewN | apply Kd.R_drew)); exact HO_258001.out) (Kd.R_base ho46) hb)
                                        have n1_ := Aside0.mk (Kd.R_lower (Kd.R_new' ho46 (Kd.R_lt (by (with_reducible repeat (first | apply Kd.R_alloc | apply Kd.R_drewN | apply Kd.R_drew)); exact HO_258001.out))) (below_size (by repeat (first | (with_reducible first | exact HB.out | apply below_alloc | apply pw_below_drewN | apply below_drew1 | refine below_set ?_ GE257.out | refine below_set ?_ GE269.out) | exact HB.out))))
                                        have n2_ := Aside0.mk (blk_below (g := gb257) (o := .cells #[.bool a3, .slice Ao42 x258001_16.length co42] 44 (0, 0)) (by (with_reducible repeat (first | refine blk_drewN ?_ _ | refine blk_drew ?_ | refine blk_alloc ?_ _)); exact BK257.out) hb)
                                        have n3_ := Aside0.mk (blk_below (g := gb269) (o := .cells #[.bool false, .slice none 0 0] 44 (0, 0)) (by (with_reducible repeat (first | refine blk_drewN ?_ _ | refine blk_drew ?_ | refine blk_alloc ?_ _)); exact BK269.out) hb)
                                        have n4_ := Aside0.mk (below_step (by repeat (first | (with_reducible first | exact HB.out | apply below_alloc | apply pw_below_drewN | apply below_drew1 | refine below_set ?_ GE257.out | refine below_set ?_ GE269.out) | exact HB.out)) hb)
                                        clear HO_258001
                                        clear BK257
                                        clear BK269
                                        clear HB
                                        have HO_258001 := n0_
                                        have HO262 := n1_
                                        have BK257 := n2_
                                        have BK269 := n3_
                                        have HB := n4_
                                        clear n0_ n1_ n2_ n3_ n4_
                                        clear hb ho46
                                        refine hK.out _ _ ⟨(blk_cell BK257.out 0).trans rfl, (blk_cell BK257.out 1).trans rfl⟩ (fun hHeld => ?_)
                                        clear hK K
                                        refine norm_ (a' := ?_) ?_ ?_
                                        rotate_left
                                        · show Act.put _ (some 71) _ = _
                                          simp only [Act.put, List.setIfInBounds_toArray, List.set_cons_zero, List.set_cons_succ, i64_w, i32_w]
                                          rfl
                                        refine one_ (i := 4) (N := some 74) #[true, true, true, true, true, true, true, false, false, true, false] rfl rfl (one_of HT_.out (by kernel_rfl)) (by decide) (fun K hK => ?_)
                                        refine Kd.R_append_rows_step k41 (w0 := w) w.heap.size (by rfl) (.tmp 71) (.tmp 73) 42 41 (.agg #[(.string ⟨#[]⟩), (.string ⟨#[]⟩), (.int .i64 0)]) 40 rfl Try.underlying42 info41 rfl (by decide) (by omega) v261 y260 x258001_16 _ _ _ (fun k_ => some k_ ≠ (.slice Ao42 x258001_16.length co42 : Value).ownBlock) (fun _ => False) rfl rfl ?aO ?aR (fun _ _ h => h) (fun _ h => h.elim) ?aF ?aB ?aS ?aL ?_
                                        (case aR => repeat (first | exact (Kd.R_reads' HO_258001.out).2.2 | (with_reducible refine Kd.C_alloc ?_ _) | (with_reducible refine Kd.C_drewN ?_ _) | (with_reducible refine Kd.C_drew ?_)))
                                        (case aB => exact (by repeat (first | (with_reducible first | exact HB.out | apply below_alloc | apply pw_below_drewN | apply below_drew1 | refine below_set ?_ GE257.out | refine below_set ?_ GE269.out) | exact HB.out)))
                                        (case aF => exact (fun k_ hk => Kd.fresh' (Kd.R_lt (by (with_reducible repeat (first | apply Kd.R_alloc | apply Kd.R_drewN | apply Kd.R_drew)); exact HO_258001.out)) k_ hk))
                                        (case aO => exact (by (with_reducible repeat (first | apply Kd.R_alloc | apply Kd.R_drewN | apply Kd.R_drew)); exact Kd.R_mono HO262.out (fun _ hk => hk.2)))
                                        (case aS => exact (below_size (by repeat (first | (with_reducible first | exact HB.out | apply below_alloc | apply pw_below_drewN | apply below_drew1 | refine below_set ?_ GE257.out | refine below_set ?_ GE269.out) | exact HB.out))))
                                        (case aL => have := LMc29.out; omega)
                                        intro v264 w47 ho hb hg hat
                                        rw [← Ny263.out] at ho
                                        have n0_ := Aside0.mk (Kd.R_after (ok := (fun _ => True)) (by (with_reducible repeat (first | apply Kd.R_alloc | apply Kd.R_drewN | apply Kd.R_drew)); exact HO_258001.out) hg hat)
                                        have n1_ := Aside0.mk (blk_grown (g := gb257) (o := .cells #[.bool a3, .slice Ao42 x258001_16.length co42] 44 (0, 0)) (by (with_reducible repeat (first | refine blk_drewN ?_ _ | refine blk_drew ?_ | refine blk_alloc ?_ _)); exact BK257.out) hg (Kd.R_ne HO262.out BK257.out (by decide)))
                                        have n2_ := Aside0.mk (blk_grown (g := gb269) (o := .cells #[.bool false, .slice none 0 0] 44 (0, 0)) (by (with_reducible repeat (first | refine blk_drewN ?_ _ | refine blk_drew ?_ | refine blk_alloc ?_ _)); exact BK269.out) hg (Kd.R_ne HO262.out BK269.out (by decide)))
                                        have n3_ := Aside0.mk (hb)
                                        have n4_ := Aside0.mk (ho)
                                        clear HO_258001
                                        clear BK257
                                        clear BK269
                                        clear HB
                                        clear HO262
                                        have HO_258001 := n0_
                                        have BK257 := n1_
                                        have BK269 := n2_
                                        have HB := n3_
                                        have HO265 := n4_
                                        clear n0_ n1_ n2_ n3_ n4_
                                        clear ho hb hg hat
                                        refine hK.out _ _ ⟨(blk_cell BK257.out 0).trans rfl, (blk_cell BK257.out 1).trans rfl⟩ (fun hHeld => ?_)
                                        clear hK K
                                        refine norm_ (a' := ?_) ?_ ?_
                                        rotate_left
                                        · show Act.put _ (some 74) _ = _
                                          simp only [Act.put, List.setIfInBounds_toArray, List.set_cons_zero, List.set_cons_succ, i64_w, i32_w]
                                          rfl
                                        refine one_ (i := 7) (N := some 77) #[true, true, true, true, true, true, true, true, false, true, false] rfl rfl (one_of HT_.out (by kernel_rfl)) (by decide) (fun K hK => ?_)
                                        refine Kd.R_append_rows_step k41 (w0 := w) w.heap.size (by rfl) (.tmp 74) (.tmp 76) 42 41 (.agg #[(.string ⟨#[]⟩), (.string ⟨#[]⟩), (.int .i64 0)]) 40 rfl Try.underlying42 info41 rfl (by decide) (by omega) v264 y263 x258001_16 _ _ _ (fun k_ => some k_ ≠ (.slice Ao42 x258001_16.length co42 : Value).ownBlock) (fun _ => False) rfl rfl ?aO ?aR (fun _ _ h => h) (fun _ h => h.elim) ?aF ?aB ?aS ?aL ?_
                                        (case aR => repeat (first | exact (Kd.R_reads' HO_258001.out).2.2 | (with_reducible refine Kd.C_alloc ?_ _) | (with_reducible refine Kd.C_drewN ?_ _) | (with_reducible refine Kd.C_drew ?_)))
                                        (case aB => exact (by repeat (first | (with_reducible first | exact HB.out | apply below_alloc | apply pw_below_drewN | apply below_drew1 | refine below_set ?_ GE257.out | refine below_set ?_ GE269.out) | exact HB.out)))
                                        (case aF => exact (fun k_ hk => Kd.fresh' (Kd.R_lt (by (with_reducible repeat (first | apply Kd.R_alloc | apply Kd.R_drewN | apply Kd.R_drew)); exact HO_258001.out)) k_ hk))
                                        (case aO => exact (by (with_reducible repeat (first | apply Kd.R_alloc | apply Kd.R_drewN | apply Kd.R_drew)); exact HO265.out))
                                        (case aS => exact (below_size (by repeat (first | (with_reducible first | exact HB.out | apply below_alloc | apply pw_below_drewN | apply below_drew1 | refine below_set ?_ GE257.out | refine below_set ?_ GE269.out) | exact HB.out))))
                                        (case aL => have := LMc30.out; omega)
                                        intro v267 w48 ho hb hg hat
                                        rw [← Ny266.out] at ho
                                        have n0_ := Aside0.mk (Kd.R_after (ok := (fun _ => True)) (by (with_reducible repeat (first | apply Kd.R_alloc | apply Kd.R_drewN | apply Kd.R_drew)); exact HO_258001.out) hg hat)
                                        have n1_ := Aside0.mk (blk_grown (g := gb257) (o := .cells #[.bool a3, .slice Ao42 x258001_16.length co42] 44 (0, 0)) (by (with_reducible repeat (first | refine blk_drewN ?_ _ | refine blk_drew ?_ | refine blk_alloc ?_ _)); exact BK257.out) hg (Kd.R_ne HO265.out BK257.out (by decide)))
                                        have n2_ := Aside0.mk (blk_grown (g := gb269) (o := .cells #[.bool false, .slice none 0 0] 44 (0, 0)) (by (with_reducible repeat (first | refine blk_drewN ?_ _ | refine blk_drew ?_ | refine blk_alloc ?_ _)); exact BK269.out) hg (Kd.R_ne HO265.out BK269.out (by decide)))
                                        have n3_ := Aside0.mk (hb)
                                        have n4_ := Aside0.mk (ho)
                                        clear HO_258001
                                        clear BK257
                                        clear BK269
                                        clear HB
                                        clear HO265
                                        have HO_258001 := n0_
                                        have BK257 := n1_
                                        have BK269 := n2_
                                        have HB := n3_
                                        have HO268 := n4_
                                        clear n0_ n1_ n2_ n3_ n4_
                                        clear ho hb hg hat
                                        obtain ⟨Ao49, co49, eo49⟩ := Kd.R_slice HO268.out
                                        (first | subst eo49 | (injection eo49 with f1_ f2_ f3_; have f4_ := f1_.symm; have f5_ := f3_.symm; clear f1_ f2_ f3_; subst f4_; subst f5_))
                                        refine hK.out _ _ ⟨(blk_cell BK257.out 0).trans rfl, (blk_cell BK257.out 1).trans rfl⟩ (fun hHeld => ?_)
                                        clear hK K
                                        refine norm_ (a' := ?_) ?_ ?_
                                        rotate_left
                                        · show Act.put _ (some 77) _ = _
                                          simp only [Act.put, List.setIfInBounds_toArray, List.set_cons_zero, List.set_cons_succ, i64_w, i32_w]
                                          rfl
                                        refine pure_ (i := 8) (N := some 78) (v := ?_) (a' := ?_) #[true, true, true, true, true, true, true, true, true, true, false] rfl rfl (any_of HT_.out (by kernel_rfl)) (fun _ _ _ h => h) (Or.inl ⟨by rfl, ?_⟩) ?_ ?_
                                        rotate_left
                                        · intro w'
                                          go_simp
                                          with_reducible rfl
                                        rotate_left
                                        · simp only [Act.put, List.setIfInBounds_toArray, List.set_cons_zero, List.set_cons_succ, i64_w, i32_w]
                                          rfl
                                        exact norm_ (by simp only [putAll, Act.put, List.setIfInBounds_toArray, List.set_cons_zero, List.set_cons_succ]) (hCont (v261, v264, .slice Ao49 y266.length co49, gb269) _ ⟨hHeld, (by (with_reducible repeat (first | apply Kd.R_alloc | apply Kd.R_drewN | apply Kd.R_drew)); exact HO268.out), (by (with_reducible repeat (first | apply Kd.R_alloc | apply Kd.R_drewN | apply Kd.R_drew)); exact Kd.R_mono HO_258001.out (fun _ hk => hk.2)), (by (with_reducible repeat (first | refine blk_drewN ?_ _ | refine blk_drew ?_ | refine blk_alloc ?_ _)); exact BK257.out), (by (with_reducible repeat (first | refine blk_drewN ?_ _ | refine blk_drew ?_ | refine blk_alloc ?_ _)); exact BK269.out), GW269.out, GE269.out, NB257_269.out, NB269_257.out, (by repeat (first | (with_reducible first | exact HB.out | apply below_alloc | apply pw_below_drewN | apply below_drew1 | refine below_set ?_ GE257.out | refine below_set ?_ GE269.out) | exact HB.out))⟩)
                                    rintro ⟨v261, v264, v267, gb269⟩ w50 ⟨hS_, h0_, h1_, h2_, h3_, h4_, h5_, h6_, h7_, h8_⟩
                                    have n0_ : Aside0 (Kd.R k41 41 w50 w.heap.size (fun k_ => some k_ ≠ (.slice Ao42 x258001_16.length co42 : Value).ownBlock) v267 y266) := ⟨h0_⟩
                                    have n1_ : Aside0 (Kd.R k41 41 w50 w.heap.size (fun k_ => some k_ ≠ (v267 : Value).ownBlock) (.slice Ao42 x258001_16.length co42) x258001_16) := ⟨h1_⟩
                                    have n2_ : Aside0 (w50.heap[gb257]? = some (.cells #[.bool a3, .slice Ao42 x258001_16.length co42] 44 (0, 0))) := ⟨h2_⟩
                                    have n3_ : Aside0 (w50.heap[gb269]? = some (.cells #[.bool false, .slice none 0 0] 44 (0, 0))) := ⟨h3_⟩
                                    have n4_ : Aside0 (w.heap.size ≤ gb269) := ⟨h4_⟩
                                    have n5_ : Aside0 (w.heap.size ≤ gb269) := ⟨h5_⟩
                                    have n6_ : Aside0 (gb257 ≠ gb269) := ⟨h6_⟩
                                    have n7_ : Aside0 (gb269 ≠ gb257) := ⟨h7_⟩
                                    have n8_ : Aside0 (Below w.heap.size w w50) := ⟨h8_⟩
                                    clear HO_258001
                                    clear BK257
                                    clear HB
                                    clear h0_ h1_ h2_ h3_ h4_ h5_ h6_ h7_ h8_
                                    have HO268 := n0_
                                    have HO_258001 := n1_
                                    have BK257 := n2_
                                    have BK269 := n3_
                                    have GW269 := n4_
                                    have GE269 := n5_
                                    have NB257_269 := n6_
                                    have NB269_257 := n7_
                                    have HB := n8_
                                    clear n0_ n1_ n2_ n3_ n4_ n5_ n6_ n7_ n8_
                                    have hHeld : w50.cell? ⟨gb257, 0, none⟩ = some (.bool a3) ∧ w50.cell? ⟨gb257, 1, none⟩ = some (.slice Ao42 x258001_16.length co42) := hS_
                                    obtain ⟨Ao51, co51, eo51⟩ := Kd.R_slice HO268.out
                                    (first | subst eo51 | (injection eo51 with f1_ f2_ f3_; have f4_ := f1_.symm; have f5_ := f3_.symm; clear f1_ f2_ f3_; subst f4_; subst f5_))
                                    refine norm_ (a' := ?_) ?_ ?_
                                    rotate_left
                                    · simp only [putAll, Act.put, List.setIfInBounds_toArray, List.set_cons_zero, List.set_cons_succ]
                                      rfl
                                    refine one_ (i := 10) (N := none) #[true, true, true, true, true, true, true, true, true, true, true] rfl rfl (one_of HT_.out (by kernel_rfl)) (by decide) (fun K hK => ?_)
                                    have hs52 : w50.cell? ⟨gb269, 0, none⟩ = some (.bool false) := (blk_cell BK269.out 0).trans rfl
                                    have hfs52 := blk_frozen BK269.out 0
                                    have hns52_0 := NB257_269.out
                                    have hms52_0 := NB269_257.out
                                    have hs53 : w50.cell? ⟨gb269, 1, none⟩ = some (.slice none 0 0) := (blk_cell BK269.out 1).trans rfl
                                    have hfs53 := blk_frozen BK269.out 1
                                    have hns53_0 := NB257_269.out
                                    have hms53_0 := NB269_257.out
                                    refine skip_ (w1 := ?_) (by rfl) rfl ?_ ?_
                                    rotate_left
                                    · go_simp
                                      rfl
                                    refine hK.out _ _ ⟨((cell_far (p := ⟨gb269, _, none⟩) NB257_269.out _).trans (((cell_far (p := ⟨gb269, _, none⟩) NB257_269.out _).trans (hHeld.1)))), ((cell_far (p := ⟨gb269, _, none⟩) NB257_269.out _).trans (((cell_far (p := ⟨gb269, _, none⟩) NB257_269.out _).trans (hHeld.2))))⟩ (fun hHeld => ?_)
                                    clear hK K
                                    refine done_ (done_of HT_.out (by kernel_rfl)) ?_
                                    have hnb54 := NB257_269.out
                                    have hnc54 := NB269_257.out
                                    have hcz55_0 : w50.cell? ⟨gb257, 0, none⟩ = some (.bool a3) := (blk_cell BK257.out 0).trans rfl
                                    have hcz55_1 : w50.cell? ⟨gb257, 1, none⟩ = some (.slice Ao42 x258001_16.length co42) := (blk_cell BK257.out 1).trans rfl
                                    have hfz55_0 := blk_frozen BK257.out 0
                                    have hfz55_1 := blk_frozen BK257.out 1
                                    try go_wp2_with (first | ((with_reducible refine gate_callee (f := 19) rfl ?_); refine goesL_ (some 81) rfl rfl Try.func19 (by kernel_rfl) rfl #[.agg #[.bool a3, .slice Ao42 x258001_16.length co42]] rfl (by (try simp only [List.map_toArray, List.map_cons, List.map_nil]); first | done | rfl | (simp only [List.length_drop, List.length_take]; rfl)) ?_; (with_reducible refine (node_Append.calls kj16 a3 _ _ x258001_16 t270 t273 _ ?side1 ?side2 A31.out).mono ?_); (case side1 => refine (Kd.R_reads' (e := 41) (base := w.heap.size) (ok := fun k_ => some k_ ≠ (.slice Ao51 y266.length co51 : Value).ownBlock) (n := x258001_16.length) (c := co42) ?_).2.2; exact (by (with_reducible repeat (first | apply Kd.R_alloc | apply Kd.R_drewN | apply Kd.R_drew)); exact (Kd.R_mono (Kd.R_far (p := ⟨gb269, 1, none⟩) (Kd.R_far (p := ⟨gb269, 0, none⟩) (Kd.R_types HO_258001.out BK269.out (by decide)) (fun _ hk => hk.2) (.bool a3)) (fun _ hk => hk.2) (.slice Ao51 y266.length co51)) (fun _ h_ => h_.1)))); (case side2 => exact (Kd.R_reads' HO_258001.out).2.1); rintro e w56 ⟨v271, rfl, ho0, hb⟩; refine ⟨_, rfl, ?_⟩; have n0_ := Aside0.mk (Kd.R_below (by (with_reducible repeat (first | apply Kd.R_alloc | apply Kd.R_drewN | apply Kd.R_drew)); exact (Kd.R_mono (Kd.R_far (p := ⟨gb269, 1, none⟩) (Kd.R_far (p := ⟨gb269, 0, none⟩) (Kd.R_types HO_258001.out BK269.out (by decide)) (fun _ hk => hk.2) (.bool a3)) (fun _ hk => hk.2) (.slice Ao51 y266.length co51)) (fun _ h_ => h_.1))) hb); have n1_ := Aside0.mk (Kd.R_below (by (with_reducible repeat (first | apply Kd.R_alloc | apply Kd.R_drewN | apply Kd.R_drew)); exact (Kd.R_mono (Kd.R_far (p := ⟨gb269, 1, none⟩) (Kd.R_far (p := ⟨gb269, 0, none⟩) (Kd.R_types HO268.out BK269.out (by decide)) (fun _ hk => hk.2) (.bool a3)) (fun _ hk => hk.2) (.slice Ao51 y266.length co51)) (fun _ h_ => h_.1))) hb); have n2_ := Aside0.mk (Kd.R_lower ho0 (below_size (by repeat (first | (with_reducible first | exact HB.out | apply below_alloc | apply pw_below_drewN | apply below_drew1 | refine below_set ?_ GE257.out | refine below_set ?_ GE269.out) | exact HB.out)))); have n3_ := Aside0.mk (blk_below (g := gb257) (o := .cells #[.bool a3, .slice Ao42 x258001_16.length co42] 44 (0, 0)) (by (with_reducible repeat (first | refine blk_drewN ?_ _ | refine blk_drew ?_ | refine blk_alloc ?_ _)); refine blk_far ?_ NB257_269.out _; (with_reducible repeat (first | refine blk_drewN ?_ _ | refine blk_drew ?_ | refine blk_alloc ?_ _)); refine blk_far ?_ NB257_269.out _; (with_reducible repeat (first | refine blk_drewN ?_ _ | refine blk_drew ?_ | refine blk_alloc ?_ _)); exact BK257.out) hb); have n4_ := Aside0.mk (blk_below (g := gb269) (o := .cells #[.bool a3, .slice Ao51 y266.length co51] 44 (0, 0)) (by (with_reducible repeat (first | refine blk_drewN ?_ _ | refine blk_drew ?_ | refine blk_alloc ?_ _)); refine blk_put (cs := #[.bool a3, .slice none 0 0]) ?_ 1 _ rfl; (with_reducible repeat (first | refine blk_drewN ?_ _ | refine blk_drew ?_ | refine blk_alloc ?_ _)); refine blk_put (cs := #[.bool false, .slice none 0 0]) ?_ 0 _ rfl; (with_reducible repeat (first | refine blk_drewN ?_ _ | refine blk_drew ?_ | refine blk_alloc ?_ _)); exact BK269.out) hb); have n5_ := Aside0.mk (below_step (by repeat (first | (with_reducible first | exact HB.out | apply below_alloc | apply pw_below_drewN | apply below_drew1 | refine below_set ?_ GE257.out | refine below_set ?_ GE269.out) | exact HB.out)) hb); clear HO_258001; clear HO268; clear BK257; clear BK269; clear HB; have HO_258001 := n0_; have HO268 := n1_; have HO272 := n2_; have BK257 := n3_; have BK269 := n4_; have HB := n5_; clear n0_ n1_ n2_ n3_ n4_ n5_; (try clear hb); (try clear hb2); (try clear hk); (try clear hi); (try clear hge); (try clear ho0); have hcz57_0 : w56.cell? ⟨gb257, 0, none⟩ = some (.bool a3) := (blk_cell BK257.out 0).trans rfl; have hcz57_1 : w56.cell? ⟨gb257, 1, none⟩ = some (.slice Ao42 x258001_16.length co42) := (blk_cell BK257.out 1).trans rfl; have hfz57_0 := blk_frozen BK257.out 0; have hfz57_1 := blk_frozen BK257.out 1) | ((with_reducible refine gate_callee (f := 20) rfl ?_); refine goesL_ (some 85) rfl rfl Try.func20 (by kernel_rfl) rfl #[.agg #[.bool a3, .slice Ao42 x258001_16.length co42]] rfl (by (try simp only [List.map_toArray, List.map_cons, List.map_nil]); first | done | rfl | (simp only [List.length_drop, List.length_take]; rfl)) ?_; (with_reducible refine (node_Ok.calls kj16 a3 _ _ x258001_16 t274 _ ?side1 ?side2 A32.out).mono ?_); (case side1 => repeat (first | exact (Kd.R_reads' HO_258001.out).2.2 | (with_reducible refine Kd.C_alloc ?_ _) | (with_reducible refine Kd.C_drewN ?_ _) | (with_reducible refine Kd.C_drew ?_))); (case side2 => exact (Kd.R_reads' HO_258001.out).2.1); rintro e w58 ⟨rfl, hb⟩; refine ⟨_, rfl, ?_⟩; have n0_ := Aside0.mk (Kd.R_below (by (with_reducible repeat (first | apply Kd.R_alloc | apply Kd.R_drewN | apply Kd.R_drew)); exact HO_258001.out) hb); have n1_ := Aside0.mk (Kd.R_below (by (with_reducible repeat (first | apply Kd.R_alloc | apply Kd.R_drewN | apply Kd.R_drew)); exact HO268.out) hb); have n2_ := Aside0.mk (Kd.R_below (by (with_reducible repeat (first | apply Kd.R_alloc | apply Kd.R_drewN | apply Kd.R_drew)); exact HO272.out) hb); have n3_ := Aside0.mk (blk_below (g := gb257) (o := .cells #[.bool a3, .slice Ao42 x258001_16.length co42] 44 (0, 0)) (by (with_reducible repeat (first | refine blk_drewN ?_ _ | refine blk_drew ?_ | refine blk_alloc ?_ _)); exact BK257.out) hb); have n4_ := Aside0.mk (blk_below (g := gb269) (o := .cells #[.bool a3, .slice Ao51 y266.length co51] 44 (0, 0)) (by (with_reducible repeat (first | refine blk_drewN ?_ _ | refine blk_drew ?_ | refine blk_alloc ?_ _)); exact BK269.out) hb); have n5_ := Aside0.mk (below_step (by repeat (first | (with_reducible first | exact HB.out | apply below_alloc | apply pw_below_drewN | apply below_drew1 | refine below_set ?_ GE257.out | refine below_set ?_ GE269.out) | exact HB.out)) hb); clear HO_258001; clear HO268; clear HO272; clear BK257; clear BK269; clear HB; have HO_258001 := n0_; have HO268 := n1_; have HO272 := n2_; have BK257 := n3_; have BK269 := n4_; have HB := n5_; clear n0_ n1_ n2_ n3_ n4_ n5_; (try clear hb); (try clear hb2); (try clear hk); (try clear hi); (try clear hge); have hcz59_0 : w58.cell? ⟨gb269, 0, none⟩ = some (.bool a3) := (blk_cell BK269.out 0).trans rfl; have hcz59_1 : w58.cell? ⟨gb269, 1, none⟩ = some (.slice Ao51 y266.length co51) := (blk_cell BK269.out 1).trans rfl; have hfz59_0 := blk_frozen BK269.out 0; have hfz59_1 := blk_frozen BK269.out 1) | (go_at_call 20; (with_reducible refine (node_Ok.calls kj16 a3 _ _ y266 false _ ?side1 ?side2 A35.out).mono ?_); (case side1 => repeat (first | exact (Kd.R_reads' HO268.out).2.2 | (with_reducible refine Kd.C_alloc ?_ _) | (with_reducible refine Kd.C_drewN ?_ _) | (with_reducible refine Kd.C_drew ?_))); (case side2 => exact (Kd.R_reads' HO268.out).2.1); rintro e w60 ⟨rfl, hb⟩; have n0_ := Aside0.mk (Kd.R_below (by (with_reducible repeat (first | apply Kd.R_alloc | apply Kd.R_drewN | apply Kd.R_drew)); exact HO_258001.out) hb); have n1_ := Aside0.mk (Kd.R_below (by (with_reducible repeat (first | apply Kd.R_alloc | apply Kd.R_drewN | apply Kd.R_drew)); exact HO268.out) hb); have n2_ := Aside0.mk (Kd.R_below (by (with_reducible repeat (first | apply Kd.R_alloc | apply Kd.R_drewN | apply Kd.R_drew)); exact HO272.out) hb); have n3_ := Aside0.mk (blk_below (g := gb257) (o := .cells #[.bool a3, .slice Ao42 x258001_16.length co42] 44 (0, 0)) (by (with_reducible repeat (first | refine blk_drewN ?_ _ | refine blk_drew ?_ | refine blk_alloc ?_ _)); exact BK257.out) hb); have n4_ := Aside0.mk (blk_below (g := gb269) (o := .cells #[.bool a3, .slice Ao51 y266.length co51] 44 (0, 0)) (by (with_reducible repeat (first | refine blk_drewN ?_ _ | refine blk_drew ?_ | refine blk_alloc ?_ _)); exact BK269.out) hb); have n5_ := Aside0.mk (below_step (by repeat (first | (with_reducible first | exact HB.out | apply below_alloc | apply pw_below_drewN | apply below_drew1 | refine below_set ?_ GE257.out | refine below_set ?_ GE269.out) | exact HB.out)) hb); clear HO_258001; clear HO268; clear HO272; clear BK257; clear BK269; clear HB; have HO_258001 := n0_; have HO268 := n1_; have HO272 := n2_; have BK257 := n3_; have BK269 := n4_; have HB := n5_; clear n0_ n1_ n2_ n3_ n4_ n5_; (try clear hb); (try clear hb2); (try clear hk); (try clear hi); (try clear hge)) | (go_at_call 20; (with_reducible show Calls Try.prog 20 #[.agg #[.bool true, .slice none 0 0]] _ _); (refine (node_Ok.calls kj16 true _ _ ([] : List (S41)) true _ ?side1 ?side2 A37.out).mono ?_); (case side1 => exact Kd.C_nil _ _); (case side2 => exact Nat.le_refl _); rintro e w61 ⟨rfl, hb⟩; have n0_ := Aside0.mk (Kd.R_below (by (with_reducible repeat (first | apply Kd.R_alloc | apply Kd.R_drewN | apply Kd.R_drew)); exact HO_258001.out) hb); have n1_ := Aside0.mk (Kd.R_below (by (with_reducible repeat (first | apply Kd.R_alloc | apply Kd.R_drewN | apply Kd.R_drew)); exact HO268.out) hb); have n2_ := Aside0.mk (Kd.R_below (by (with_reducible repeat (first | apply Kd.R_alloc | apply Kd.R_drewN | apply Kd.R_drew)); exact HO272.out) hb); have n3_ := Aside0.mk (blk_below (g := gb257) (o := .cells #[.bool a3, .slice Ao42 x258001_16.length co42] 44 (0, 0)) (by (with_reducible repeat (first | refine blk_drewN ?_ _ | refine blk_drew ?_ | refine blk_alloc ?_ _)); exact BK257.out) hb); have n4_ := Aside0.mk (blk_below (g := gb269) (o := .cells #[.bool a3, .slice Ao51 y266.length co51] 44 (0, 0)) (by (with_reducible repeat (first | refine blk_drewN ?_ _ | refine blk_drew ?_ | refine blk_alloc ?_ _)); exact BK269.out) hb); have n5_ := Aside0.mk (below_step (by repeat (first | (with_reducible first | exact HB.out | apply below_alloc | apply pw_below_drewN | apply below_drew1 | refine below_set ?_ GE257.out | refine below_set ?_ GE269.out) | exact HB.out)) hb); clear HO_258001; clear HO268; clear HO272; clear BK257; clear BK269; clear HB; have HO_258001 := n0_; have HO268 := n1_; have HO272 := n2_; have BK257 := n3_; have BK269 := n4_; have HB := n5_; clear n0_ n1_ n2_ n3_ n4_ n5_; (try clear hb); (try clear hb2); (try clear hk); (try clear hi); (try clear hge)) | (go_at_call 20; (with_reducible show Calls Try.prog 20 #[.agg #[.bool false, .slice none 0 0]] _ _); (refine (node_Ok.calls kj16 false _ _ ([] : List (S41)) false _ ?side1 ?side2 A39.out).mono ?_); (case side1 => exact Kd.C_nil _ _); (case side2 => exact Nat.le_refl _); rintro e w62 ⟨rfl, hb⟩; have n0_ := Aside0.mk (Kd.R_below (by (with_reducible repeat (first | apply Kd.R_alloc | apply Kd.R_drewN | apply Kd.R_drew)); exact HO_258001.out) hb); have n1_ := Aside0.mk (Kd.R_below (by (with_reducible repeat (first | apply Kd.R_alloc | apply Kd.R_drewN | apply Kd.R_drew)); exact HO268.out) hb); have n2_ := Aside0.mk (Kd.R_below (by (with_reducible repeat (first | apply Kd.R_alloc | apply Kd.R_drewN | apply Kd.R_drew)); exact HO272.out) hb); have n3_ := Aside0.mk (blk_below (g := gb257) (o := .cells #[.bool a3, .slice Ao42 x258001_16.length co42] 44 (0, 0)) (by (with_reducible repeat (first | refine blk_drewN ?_ _ | refine blk_drew ?_ | refine blk_alloc ?_ _)); exact BK257.out) hb); have n4_ := Aside0.mk (blk_below (g := gb269) (o := .cells #[.bool a3, .slice Ao51 y266.length co51] 44 (0, 0)) (by (with_reducible repeat (first | refine blk_drewN ?_ _ | refine blk_drew ?_ | refine blk_alloc ?_ _)); exact BK269.out) hb); have n5_ := Aside0.mk (below_step (by repeat (first | (with_reducible first | exact HB.out | apply below_alloc | apply pw_below_drewN | apply below_drew1 | refine below_set ?_ GE257.out | refine below_set ?_ GE269.out) | exact HB.out)) hb); clear HO_258001; clear HO268; clear HO272; clear BK257; clear BK269; clear HB; have HO_258001 := n0_; have HO268 := n1_; have HO272 := n2_; have BK257 := n3_; have BK269 := n4_; have HB := n5_; clear n0_ n1_ n2_ n3_ n4_ n5_; (try clear hb); (try clear hb2); (try clear hk); (try clear hi); (try clear hge)) | (go_at_call 21; (with_reducible refine (waybilllaw10_awake.calls kj16  t278 _ A41.out).mono ?_); rintro e w63 ⟨rfl, hb⟩; have n0_ := Aside0.mk (Kd.R_below (by (with_reducible repeat (first | apply Kd.R_alloc | apply Kd.R_drewN | apply Kd.R_drew)); exact HO_258001.out) hb); have n1_ := Aside0.mk (Kd.R_below (by (with_reducible repeat (first | apply Kd.R_alloc | apply Kd.R_drewN | apply Kd.R_drew)); exact HO268.out) hb); have n2_ := Aside0.mk (Kd.R_below (by (with_reducible repeat (first | apply Kd.R_alloc | apply Kd.R_drewN | apply Kd.R_drew)); exact HO272.out) hb); have n3_ := Aside0.mk (blk_below (g := gb257) (o := .cells #[.bool a3, .slice Ao42 x258001_16.length co42] 44 (0, 0)) (by (with_reducible repeat (first | refine blk_drewN ?_ _ | refine blk_drew ?_ | refine blk_alloc ?_ _)); exact BK257.out) hb); have n4_ := Aside0.mk (blk_below (g := gb269) (o := .cells #[.bool a3, .slice Ao51 y266.length co51] 44 (0, 0)) (by (with_reducible repeat (first | refine blk_drewN ?_ _ | refine blk_drew ?_ | refine blk_alloc ?_ _)); exact BK269.out) hb); have n5_ := Aside0.mk (below_step (by repeat (first | (with_reducible first | exact HB.out | apply below_alloc | apply pw_below_drewN | apply below_drew1 | refine below_set ?_ GE257.out | refine below_set ?_ GE269.out) | exact HB.out)) hb); clear HO_258001; clear HO268; clear HO272; clear BK257; clear BK269; clear HB; have HO_258001 := n0_; have HO268 := n1_; have HO272 := n2_; have BK257 := n3_; have BK269 := n4_; have HB := n5_; clear n0_ n1_ n2_ n3_ n4_ n5_; (try clear hb); (try clear hb2); (try clear hk); (try clear hi); (try clear hge)))
                                    all_goals first | (go_ret; exact ⟨by first | rfl | (simp [errW_none, errW_some]; done) | (simp [errW_none, errW_some]; rfl) | (simp [*, errW_none, errW_some]; done) | (simp [*, errW_none, errW_some]; rfl), by repeat (first | (with_reducible first | exact HB.out | apply below_alloc | apply pw_below_drewN | apply below_drew1 | refine below_set ?_ GE257.out | refine below_set ?_ GE269.out) | exact HB.out)⟩) | (exfalso; simp_all; done)
                                · replace c38 := Bool.eq_false_iff.mpr c38
                                  subst c38
                                  have H1 : (none) = some r := by rw [if_neg (show ¬ (false = true) by decide)] at H; exact H
                                  clear H
                                  have H := H1
                                  clear H1
                                  exact absurd H (by simp)
                            · rw [if_neg c34] at H
                              exact absurd H (by simp)
                          · rw [if_neg c33] at H
                            exact absurd H (by simp)
                        · rw [if_neg c30] at H
                          exact absurd H (by simp)
                      · rw [if_neg c29] at H
                        exact absurd H (by simp)

/-- THE ONE PURE STATEMENT of waybilllaw10_NodeBounds: yours. -/
def waybilllaw10_NodeBounds.Pure : Prop := ∀ (a0 : Int) (a1 : Int) (a2 : Int) (a3 : Bool), (Lit.int .i64 a0).wf = true → (Lit.int .i64 a1).wf = true → (Lit.int .i64 a2).wf = true → ∃ k, waybilllaw10_NodeBounds.f k a0 a1 a2 a3 = some true
theorem waybilllaw10_NodeBounds.walk (P : waybilllaw10_NodeBounds.Pure) (a0 : Int) (a1 : Int) (a2 : Int) (a3 : Bool) (w : World) (w0 : (Lit.int .i64 a0).wf = true) (w1 : (Lit.int .i64 a1).wf = true) (w2 : (Lit.int .i64 a2).wf = true) :
    Calls Try.prog 7 #[.int .i64 a0, .int .i64 a1, .int .i64 a2, .bool a3] w fun e w' => e = .returned (.bool true) ∧ Below w.heap.size w w' := by
  obtain ⟨k, h⟩ := P a0 a1 a2 a3 w0 w1 w2
  refine (waybilllaw10_NodeBounds.calls k a0 a1 a2 a3 true w h).mono ?_
  rintro e w' ⟨rfl, hd⟩
  exact ⟨rfl, hd⟩

end Go.Proofs.Ytfhaffpegncdiaa.PN
