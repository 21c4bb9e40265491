/- What functions of the given program come to, and that they do: written out of the translation by a program of this session; Lean checks it. -/
import Derived.Test.YtfhaffpegncdiaaPNx0
import Derived.Test.YtfhaffpegncdiaaPNx2
import Derived.Test.YtfhaffpegncdiaaPNx3
import Derived.Test.YtfhaffpegncdiaaPNx5
import Derived.Test.YtfhaffpegncdiaaPNx8
import Derived.Test.YtfhaffpegncdiaaPNx9
namespace Go.Proofs.Ytfhaffpegncdiaa.PN
open Go.RowKit Go.Proofs.YtfhaffpegncdiaaW.PrintWords Go.Proofs.YtfhaffpegncdiaaW.PrintLast Go.Proofs.YtfhaffpegncdiaaW.PrintMore
attribute [local go_sem] max2_int min2_int max_two min_two max_three min_three max_four min_four   -- for this text's walks alone
set_option linter.unusedVariables false
set_option linter.unusedSimpArgs false

/-! ### node_Find: function 31 -/
set_option maxHeartbeats 1000000 in
set_option maxRecDepth 100000 in
theorem node_Find_cmpS (a b : ByteArray) (w : World) :
    Calls Try.prog 64 #[.string a, .string b] w fun e w' => e = .returned (.int .i64 (Lib.compareBytes a.data.toList b.data.toList)) ∧ w' = w := by
  go_enter Try.func64, Try.ntmps64
  go_wp2
  rw [run_callFunc_extern Try.func68 (by kernel_rfl) (by kernel_rfl) (by kernel_rfl) (e := Extern.BytealgCompare.compare) (by kernel_rfl), Lib.run_compareString]
  simp only [Result.andThen]
  rw [Oper.upon_value]
  go_wp2
  all_goals first | (go_ret; exact ⟨rfl, rfl⟩) | (exfalso; simp_all; done)
set_option maxHeartbeats 1000000 in
set_option maxRecDepth 100000 in
theorem node_Find_cmpC (a b : ByteArray) (w : World) :
    Calls Try.prog 53 #[.string a, .string b] w fun e w' => e = .returned (.int .i64 (Lib.compareBytes a.data.toList b.data.toList)) ∧ w' = w := by
  go_enter Try.func53, Try.ntmps53
  go_wp2_with (go_at_call 64; refine (node_Find_cmpS _ _ _).mono ?_; rintro e w' ⟨rfl, rfl⟩)
  all_goals first | (go_ret; exact ⟨rfl, rfl⟩) | (exfalso; simp_all; done)
set_option maxHeartbeats 1000000 in
set_option maxRecDepth 100000 in
theorem node_Find_lit (k v : ByteArray) (p : Int) (key : ByteArray) (w : World) :
    Calls Try.prog 52 #[.agg #[.string k, .string v, .int .i64 p], .string key] w fun e w' => e = .returned (.int .i64 (Lib.compareBytes k.data.toList key.data.toList)) ∧ Below w.heap.size w w' := by
  have hu41 := Try.underlying41
  go_enter Try.func52, Try.ntmps52
  go_wp2_with (go_at_call 53; refine (node_Find_cmpC _ _ _).mono ?_; rintro e w' ⟨rfl, rfl⟩)
  all_goals first | (go_ret; exact ⟨rfl, (Below.refl _ _).alloc (Nat.le_refl _) _⟩) | (exfalso; simp_all; done)
theorem node_Find_cell {W w1 : World} (hb : Below W.heap.size W w1) : (∀ b o, b < W.heap.size → w1.cell? ⟨b, o, none⟩ = W.cell? ⟨b, o, none⟩) ∧ (∀ b o, b < W.heap.size → w1.frozen? ⟨b, o, none⟩ = W.frozen? ⟨b, o, none⟩) :=
  ⟨fun b o h => hb.cell (p := ⟨b, o, none⟩) h, fun b o h => hb.frozen (p := ⟨b, o, none⟩) h⟩
def node_Find.l0 : Nat → List S41 → ByteArray → Int → Int → Option Int
  | 0, _, _, _, _ => none
  | k + 1, l, key, i, j => if i < j then (if 0 ≤ i then (if j ≤ (l.length : Int) then (if j ≤ 1000000000000 then (if Lib.compareBytes (rd_T41 l ((i + j) / 2)).f0.data.toList key.data.toList < 0 then node_Find.l0 k l key ((i + j) / 2 + 1) j else node_Find.l0 k l key i ((i + j) / 2)) else none) else none) else none) else some i
def node_Find.at (l : List S41) (key : ByteArray) (i : Int) : Option Bool :=
  if i < (l.length : Int) then (if 0 ≤ i then some (decide (Lib.compareBytes (rd_T41 l i).f0.data.toList key.data.toList = 0)) else none) else some false
set_option maxHeartbeats 8000000 in
set_option maxRecDepth 100000 in
theorem node_Find_search (k : Nat) (A : Option Addr) (c : Nat) (l : List S41) (key : ByteArray) (r : Int) (b : Bool) (w : World) (hr : Kd.C k41 w A l.length l) (hc : l.length ≤ c) (h : node_Find.l0 k l key 0 (l.length : Int) = some r) (h2 : node_Find.at l key r = some b) :
    Calls Try.prog 51 #[.slice A l.length c, .string key, .func (.func 52) #[] #[]] w fun e w' => e = .returned (.tuple #[.int .i64 r, .bool b]) ∧ Below w.heap.size w w' := by
  have hu41 := Try.underlying41
  have HR := Aside0.mk hr
  have HM := Aside0.mk (Kd.C_max hr)
  have HC := Aside0.mk hc
  have H2 := Aside0.mk h2
  have H' := Aside0.mk h
  clear hr hc h h2
  have HB := Aside0.mk (Below.refl w.heap.size w)
  go_enter Try.func51, Try.ntmps51
  go_wp2_with fail
  go_loopg [9, 10] k (fun kq v9 v10 w' => ∃ (i j : Int), v9 = .int .i64 i ∧ v10 = .int .i64 j ∧ Aside0 (node_Find.l0 kq l key i j = some r) ∧ Aside0 (Below w.heap.size w w'))
  case atStart => exact ⟨0, (l.length : Int), rfl, rfl, H', HB⟩
  case round =>
    clear H'
    obtain ⟨i, j, rfl, rfl, HA, HBr⟩ := hrel
    cases gk with
    | zero => exact absurd HA.out (by simp [node_Find.l0])
    | succ k1 =>
      have H := HA.out
      clear HA
      simp only [node_Find.l0] at H
      by_cases c1 : i < j
      · rw [if_pos c1] at H
        have c1b : decide (i < j) = true := decide_eq_true c1
        by_cases c2 : 0 ≤ i
        · rw [if_pos c2] at H
          by_cases c3 : j ≤ (l.length : Int)
          · rw [if_pos c3] at H
            by_cases c4 : j ≤ 1000000000000
            · rw [if_pos c4] at H
              have p0 : 0 ≤ (i + j) / 2 := by omega
              have q0 : (i + j) / 2 < (l.length : Int) := by omega
              have m1 : IntKind.i64.wrap ((i + j) / 2 + 1) = (i + j) / 2 + 1 := IntWalk.i64_in _ (by omega)
              obtain ⟨ad, e, hx0, hx1, hx2⟩ := at_T41 HR.out ((i + j) / 2) p0 q0
              cases e
              replace hx0 := (HBr.out.cell (World.block_lt_of_cell? w _ hx0)).trans hx0
              replace hx1 := (HBr.out.cell (World.block_lt_of_cell? w _ hx1)).trans hx1
              replace hx2 := (HBr.out.cell (World.block_lt_of_cell? w _ hx2)).trans hx2
              have m1A := Aside0.mk m1
              clear m1
              replace p0 := eq_true p0
              replace q0 := eq_true q0
              by_cases c5 : Lib.compareBytes (rd_T41 l ((i + j) / 2)).f0.data.toList key.data.toList < 0
              · rw [if_pos c5] at H
                have HH := Aside0.mk H
                clear H
                have c5b : decide (Lib.compareBytes (rd_T41 l ((i + j) / 2)).f0.data.toList key.data.toList < 0) = true := decide_eq_true c5
                go_wp2_with (go_at_call 52; refine (node_Find_lit _ _ _ _ _).mono ?_; rintro e w1 ⟨rfl, hb⟩; have HB1 := Aside0.mk (below_step HBr.out hb); clear hb)
                go_roundg k1
                case measure => omega
                case rel => exact ⟨_, _, rfl, rfl, HH, HB1⟩
              · rw [if_neg c5] at H
                have HH := Aside0.mk H
                clear H
                have c5b : decide (Lib.compareBytes (rd_T41 l ((i + j) / 2)).f0.data.toList key.data.toList < 0) = false := decide_eq_false c5
                go_wp2_with (go_at_call 52; refine (node_Find_lit _ _ _ _ _).mono ?_; rintro e w1 ⟨rfl, hb⟩; have HB1 := Aside0.mk (below_step HBr.out hb); clear hb)
                go_roundg k1
                case measure => omega
                case rel => exact ⟨_, _, rfl, rfl, HH, HB1⟩
            · rw [if_neg c4] at H; exact absurd H (by simp)
          · rw [if_neg c3] at H; exact absurd H (by simp)
        · rw [if_neg c2] at H; exact absurd H (by simp)
      · rw [if_neg c1] at H
        have c1b : decide (i < j) = false := decide_eq_false c1
        obtain rfl := Option.some.inj H
        clear c1 H
        have h2 := H2.out
        unfold node_Find.at at h2
        by_cases c5 : i < (l.length : Int)
        · rw [if_pos c5] at h2
          by_cases c6 : 0 ≤ i
          · rw [if_pos c6] at h2
            obtain rfl := Option.some.inj h2
            obtain ⟨ad, e, hx0, hx1, hx2⟩ := at_T41 HR.out i c6 c5
            cases e
            replace hx0 := (HBr.out.cell (World.block_lt_of_cell? w _ hx0)).trans hx0
            replace hx1 := (HBr.out.cell (World.block_lt_of_cell? w _ hx1)).trans hx1
            replace hx2 := (HBr.out.cell (World.block_lt_of_cell? w _ hx2)).trans hx2
            have c5b : decide (i < (l.length : Int)) = true := decide_eq_true c5
            replace c6 := eq_true c6
            replace c5 := eq_true c5
            go_wp2_with (go_at_call 52; refine (node_Find_lit _ _ _ _ _).mono ?_; rintro e w1 ⟨rfl, hb⟩; have HB1 := Aside0.mk (below_step HBr.out hb); clear hb)
            all_goals first | (go_ret2; exact ⟨rfl, HB1.out⟩) | (exfalso; simp_all; done)
          · rw [if_neg c6] at h2; exact absurd h2 (by simp)
        · rw [if_neg c5] at h2
          obtain rfl := Option.some.inj h2
          have c5b : decide (i < (l.length : Int)) = false := decide_eq_false c5
          clear c5
          go_wp2_with fail
          all_goals first | (go_ret2; exact ⟨rfl, HBr.out⟩) | (exfalso; simp_all; done)
def node_Find.f (k : Nat) (a0_0 : Bool) (l0_1 : List S41) (a1 : ByteArray) : Option (Int × Bool) :=
  (node_Find.l0 k l0_1 a1 0 (l0_1.length : Int)).bind fun i => if -1000000000000 ≤ i then (if i ≤ 1000000000000 then ((node_Find.at l0_1 a1 i).bind fun b => if a0_0 = true then some (i, b) else if b = true then some (i, b) else some (mx (i - 1) 0, false)) else none) else none
set_option maxHeartbeats 8000000 in
set_option maxRecDepth 100000 in
theorem node_Find.calls (k : Nat) (a0_0 : Bool) (A0_1 : Option Addr) (c0_1 : Nat) (l0_1 : List (S41)) (a1 : ByteArray) (r1 : Int) (r2 : Bool) (w : World) (hr0_1 : Kd.C k41 w A0_1 l0_1.length l0_1) (hc0_1 : l0_1.length ≤ c0_1) (h : node_Find.f k a0_0 l0_1 a1 = some (r1, r2)) :
    Calls Try.prog 31 #[.agg #[.bool a0_0, .slice A0_1 l0_1.length c0_1], .string a1] w fun e w' => e = .returned (.tuple #[.int .i64 r1, .bool r2]) ∧ Below w.heap.size w w' := by
  have hu44 := Try.underlying44
  have HR := Aside0.mk hr0_1
  have HC := Aside0.mk hc0_1
  clear hr0_1 hc0_1
  unfold node_Find.f at h
  obtain ⟨i, h1, h⟩ := Option.bind_eq_some_iff.mp h
  have H1 := Aside0.mk h1
  clear h1
  by_cases hi0 : -1000000000000 ≤ i
  case neg => rw [if_neg hi0] at h; exact absurd h (by simp)
  rw [if_pos hi0] at h
  by_cases hi1 : i ≤ 1000000000000
  case neg => rw [if_neg hi1] at h; exact absurd h (by simp)
  rw [if_pos hi1] at h
  obtain ⟨b, h2, h⟩ := Option.bind_eq_some_iff.mp h
  have H2 := Aside0.mk h2
  clear h2
  cases a0_0 with
  | true =>
    rw [if_pos rfl] at h
    simp only [Option.some.injEq, Prod.mk.injEq] at h
    obtain ⟨rfl, rfl⟩ := h
    go_enter Try.func31, Try.ntmps31
    go_wp2_with (go_at_call 51; refine (node_Find_search k _ _ _ _ _ _ _ (Kd.C_alloc HR.out _) HC.out H1.out H2.out).mono ?_; rintro e w1 ⟨rfl, hb⟩; obtain ⟨hcc, hff⟩ := node_Find_cell hb; have HB := Aside0.mk hb; clear hb)
    all_goals first | (go_ret2; exact ⟨rfl, ((Below.refl _ _).alloc (Nat.le_refl _) _).trans (HB.out.mono (by simp))⟩) | (exfalso; simp_all; done)
  | false =>
    rw [if_neg (by simp)] at h
    have hm : IntKind.i64.wrap (i - 1) = i - 1 := IntWalk.i64_in _ (by omega)
    cases b with
    | true =>
      rw [if_pos rfl] at h
      simp only [Option.some.injEq, Prod.mk.injEq] at h
      obtain ⟨rfl, rfl⟩ := h
      clear hm
      go_enter Try.func31, Try.ntmps31
      go_wp2_with (go_at_call 51; refine (node_Find_search k _ _ _ _ _ _ _ (Kd.C_alloc HR.out _) HC.out H1.out H2.out).mono ?_; rintro e w1 ⟨rfl, hb⟩; obtain ⟨hcc, hff⟩ := node_Find_cell hb; have HB := Aside0.mk hb; clear hb)
      all_goals first | (go_ret2; exact ⟨rfl, ((Below.refl _ _).alloc (Nat.le_refl _) _).trans (HB.out.mono (by simp))⟩) | (exfalso; simp_all; done)
    | false =>
      rw [if_neg (by simp)] at h
      simp only [Option.some.injEq, Prod.mk.injEq] at h
      obtain ⟨rfl, rfl⟩ := h
      go_enter Try.func31, Try.ntmps31
      go_wp2_with (go_at_call 51; refine (node_Find_search k _ _ _ _ _ _ _ (Kd.C_alloc HR.out _) HC.out H1.out H2.out).mono ?_; rintro e w1 ⟨rfl, hb⟩; obtain ⟨hcc, hff⟩ := node_Find_cell hb; have HB := Aside0.mk hb; clear hb)
      all_goals first
        | (have hmx : mx (i - 1) 0 = 0 := by { unfold mx; split <;> omega }
           rw [hmx]
           all_goals first | (go_ret2; exact ⟨rfl, ((Below.refl _ _).alloc (Nat.le_refl _) _).trans (HB.out.mono (by simp))⟩)) | (exfalso; simp_all; done)
        | (have hmx : mx (i - 1) 0 = i - 1 := by { unfold mx; split <;> omega }
           rw [hmx]
           all_goals first | (go_ret2; exact ⟨rfl, ((Below.refl _ _).alloc (Nat.le_refl _) _).trans (HB.out.mono (by simp))⟩)) | (exfalso; simp_all; done)
theorem node_Find.mono_l : ∀ (k : Nat) (l : List S41) (key : ByteArray) (i j : Int), LeO (node_Find.l0 k l key i j) (node_Find.l0 (k + 1) l key i j)
  | 0, _, _, _, _ => fun r h => by simp [node_Find.l0] at h
  | k + 1, l, key, i, j => by
    rw [node_Find.l0, node_Find.l0]
    refine LeO.ite (LeO.ite (LeO.ite (LeO.ite (LeO.ite (node_Find.mono_l k _ _ _ _) (node_Find.mono_l k _ _ _ _)) (LeO.refl _)) (LeO.refl _)) (LeO.refl _)) (LeO.refl _)
theorem node_Find.mono : ∀ a0 a1 a2 k, LeO (node_Find.f k a0 a1 a2) (node_Find.f (k + 1) a0 a1 a2) := by
  intro a0 a1 a2 k
  exact LeO.bind (node_Find.mono_l k _ _ _ _) (fun _ => LeO.refl _)

/-! ### waybilllaw10_awake: function 21 -/
def waybilllaw10_awake.f (k : Nat)  : Option (Bool) := (some (([(⟨(⟨#[97]⟩ : ByteArray), (⟨#[49]⟩ : ByteArray), 0⟩ : S41), (⟨(⟨#[99]⟩ : ByteArray), (⟨#[]⟩ : ByteArray), 0⟩ : S41)] : List (S41)) : List (S41))).bind fun y216 => ((node_Append.f k true y216).bind fun bt220 => ((some (([] : List Int) : List Int)).bind fun y224 => (if y224.length + bt220.1.length < 140737488355328 then ((some (y224 ++ bt220.1 : List Int)).bind fun y227 => ((some (([0, 0] : List Int) : List Int)).bind fun y230 => (if y227.length + y230.length < 140737488355328 then ((node_Parse.f k (y227 ++ y230)).bind fun bt236 => ((node_Find.f k true y216 (⟨#[98]⟩ : ByteArray)).bind fun bt242 => ((node_Parse.f k ([] : List Int)).bind fun bt244 => (if bt220.2 = true then (if bt236.2.2 = true then ((waybilllaw10_Same.f k true y216 bt236.1 bt236.2.1).bind fun t250 => (if t250 = true then ((node_Size.f k true y216).bind fun t251 => (if t251 = 10 then ((node_Size.f k true ([] : List (S41))).bind fun t252 => (if t252 = 3 then (if bt242.1 = 1 then (if bt242.2 = true then (none) else (if bt244.2.2 = true then (none) else ((node_Ok.f k false ([] : List (S41))).bind fun t253 => (some (!t253))))) else (none)) else (none))) else (none))) else (none))) else (none)) else (none))))) else (none)))) else (none))))
theorem waybilllaw10_awake.mono : ∀ k, LeO (waybilllaw10_awake.f k ) (waybilllaw10_awake.f (k + 1) ) := by
  intro  k
  unfold waybilllaw10_awake.f
  repeat' first
      | (with_reducible exact node_Append.mono _ _ _)
      | (with_reducible exact node_Find.mono _ _ _ _)
      | (with_reducible exact node_Ok.mono _ _ _)
      | (with_reducible exact node_Parse.mono _ _)
      | (with_reducible exact node_Size.mono _ _ _)
      | (with_reducible exact waybilllaw10_Same.mono _ _ _ _ _)
      | (with_reducible exact LeO.refl _)
      | (with_reducible exact LeO.none _)
      | (with_reducible refine LeO.ite ?_ ?_)
      | (with_reducible refine LeO.bind ?_ (fun _ => ?_))
      | exact node_Append.mono _ _ _
      | exact node_Find.mono _ _ _ _
      | exact node_Ok.mono _ _ _
      | exact node_Parse.mono _ _
      | exact node_Size.mono _ _ _
      | exact waybilllaw10_Same.mono _ _ _ _ _
      | exact LeO.none _
      | refine LeO.ite ?_ ?_
      | refine LeO.bind ?_ (fun _ => ?_)
set_option maxHeartbeats 8000000 in
set_option maxRecDepth 100000 in
theorem waybilllaw10_awake.calls (k : Nat)  (r : Bool) (w : World) (h : waybilllaw10_awake.f k  = some r) :
    Calls Try.prog 21 #[] w fun e w' => e = .returned (.bool r) ∧ Below w.heap.size w w' := by
  have hu41 := Try.underlying41
  have hu44 := Try.underlying44
  have HB := Aside0.mk (Below.refl w.heap.size w)
  have H : ((some (([(⟨(⟨#[97]⟩ : ByteArray), (⟨#[49]⟩ : ByteArray), 0⟩ : S41), (⟨(⟨#[99]⟩ : ByteArray), (⟨#[]⟩ : ByteArray), 0⟩ : S41)] : List (S41)) : List (S41))).bind fun y216 => ((node_Append.f k true y216).bind fun bt220 => ((some (([] : List Int) : List Int)).bind fun y224 => (if y224.length + bt220.1.length < 140737488355328 then ((some (y224 ++ bt220.1 : List Int)).bind fun y227 => ((some (([0, 0] : List Int) : List Int)).bind fun y230 => (if y227.length + y230.length < 140737488355328 then ((node_Parse.f k (y227 ++ y230)).bind fun bt236 => ((node_Find.f k true y216 (⟨#[98]⟩ : ByteArray)).bind fun bt242 => ((node_Parse.f k ([] : List Int)).bind fun bt244 => (if bt220.2 = true then (if bt236.2.2 = true then ((waybilllaw10_Same.f k true y216 bt236.1 bt236.2.1).bind fun t250 => (if t250 = true then ((node_Size.f k true y216).bind fun t251 => (if t251 = 10 then ((node_Size.f k true ([] : List (S41))).bind fun t252 => (if t252 = 3 then (if bt242.1 = 1 then (if bt242.2 = true then (none) else (if bt244.2.2 = true then (none) else ((node_Ok.f k false ([] : List (S41))).bind fun t253 => (some (!t253))))) else (none)) else (none))) else (none))) else (none))) else (none)) else (none))))) else (none)))) else (none))))) = some r := h
  clear h
  obtain ⟨y216, hy216⟩ : ∃ y_ : List (S41), y_ = (([(⟨(⟨#[97]⟩ : ByteArray), (⟨#[49]⟩ : ByteArray), 0⟩ : S41), (⟨(⟨#[99]⟩ : ByteArray), (⟨#[]⟩ : ByteArray), 0⟩ : S41)] : List (S41))) := ⟨_, rfl⟩
  replace H : ((node_Append.f k true y216).bind fun bt220 => ((some (([] : List Int) : List Int)).bind fun y224 => (if y224.length + bt220.1.length < 140737488355328 then ((some (y224 ++ bt220.1 : List Int)).bind fun y227 => ((some (([0, 0] : List Int) : List Int)).bind fun y230 => (if y227.length + y230.length < 140737488355328 then ((node_Parse.f k (y227 ++ y230)).bind fun bt236 => ((node_Find.f k true y216 (⟨#[98]⟩ : ByteArray)).bind fun bt242 => ((node_Parse.f k ([] : List Int)).bind fun bt244 => (if bt220.2 = true then (if bt236.2.2 = true then ((waybilllaw10_Same.f k true y216 bt236.1 bt236.2.1).bind fun t250 => (if t250 = true then ((node_Size.f k true y216).bind fun t251 => (if t251 = 10 then ((node_Size.f k true ([] : List (S41))).bind fun t252 => (if t252 = 3 then (if bt242.1 = 1 then (if bt242.2 = true then (none) else (if bt244.2.2 = true then (none) else ((node_Ok.f k false ([] : List (S41))).bind fun t253 => (some (!t253))))) else (none)) else (none))) else (none))) else (none))) else (none)) else (none))))) else (none)))) else (none)))) = some r := by first | (rw [hy216]; with_reducible exact H) | (have H2_ := (Option.bind_some _ _).symm.trans H; rw [hy216]; with_reducible exact H2_) | (have H2_ := (Option.bind_some _ _).symm.trans H; with_reducible exact H2_) | with_reducible exact H | (rw [hy216]; exact H) | exact H
  have Ny216 := Aside0.mk hy216
  clear hy216
  replace H := Option.bind_eq_some_iff.mp H
  obtain ⟨⟨t220, t223⟩, A10, H⟩ := H
  replace H : ((some (([] : List Int) : List Int)).bind fun y224 => (if y224.length + t220.length < 140737488355328 then ((some (y224 ++ t220 : List Int)).bind fun y227 => ((some (([0, 0] : List Int) : List Int)).bind fun y230 => (if y227.length + y230.length < 140737488355328 then ((node_Parse.f k (y227 ++ y230)).bind fun bt236 => ((node_Find.f k true y216 (⟨#[98]⟩ : ByteArray)).bind fun bt242 => ((node_Parse.f k ([] : List Int)).bind fun bt244 => (if t223 = true then (if bt236.2.2 = true then ((waybilllaw10_Same.f k true y216 bt236.1 bt236.2.1).bind fun t250 => (if t250 = true then ((node_Size.f k true y216).bind fun t251 => (if t251 = 10 then ((node_Size.f k true ([] : List (S41))).bind fun t252 => (if t252 = 3 then (if bt242.1 = 1 then (if bt242.2 = true then (none) else (if bt244.2.2 = true then (none) else ((node_Ok.f k false ([] : List (S41))).bind fun t253 => (some (!t253))))) else (none)) else (none))) else (none))) else (none))) else (none)) else (none))))) else (none)))) else (none))) = some r := H
  have A1 := Aside0.mk A10
  clear A10
  obtain ⟨y224, hy224⟩ : ∃ y_ : List Int, y_ = (([] : List Int)) := ⟨_, rfl⟩
  replace H : (if y224.length + t220.length < 140737488355328 then ((some (y224 ++ t220 : List Int)).bind fun y227 => ((some (([0, 0] : List Int) : List Int)).bind fun y230 => (if y227.length + y230.length < 140737488355328 then ((node_Parse.f k (y227 ++ y230)).bind fun bt236 => ((node_Find.f k true y216 (⟨#[98]⟩ : ByteArray)).bind fun bt242 => ((node_Parse.f k ([] : List Int)).bind fun bt244 => (if t223 = true then (if bt236.2.2 = true then ((waybilllaw10_Same.f k true y216 bt236.1 bt236.2.1).bind fun t250 => (if t250 = true then ((node_Size.f k true y216).bind fun t251 => (if t251 = 10 then ((node_Size.f k true ([] : List (S41))).bind fun t252 => (if t252 = 3 then (if bt242.1 = 1 then (if bt242.2 = true then (none) else (if bt244.2.2 = true then (none) else ((node_Ok.f k false ([] : List (S41))).bind fun t253 => (some (!t253))))) else (none)) else (none))) else (none))) else (none))) else (none)) else (none))))) else (none)))) else (none)) = some r := by first | (rw [hy224]; with_reducible exact H) | (have H2_ := (Option.bind_some _ _).symm.trans H; rw [hy224]; with_reducible exact H2_) | (have H2_ := (Option.bind_some _ _).symm.trans H; with_reducible exact H2_) | with_reducible exact H | (rw [hy224]; exact H) | exact H
  have Ny224 := Aside0.mk hy224
  clear hy224
  by_cases c2 : y224.length + t220.length < 140737488355328
  · rw [if_pos c2] at H
    have LMc2 := Aside0.mk c2
    clear c2
    obtain ⟨y227, hy227⟩ : ∃ y_ : List Int, y_ = (y224 ++ t220) := ⟨_, rfl⟩
    replace H : ((some (([0, 0] : List Int) : List Int)).bind fun y230 => (if y227.length + y230.length < 140737488355328 then ((node_Parse.f k (y227 ++ y230)).bind fun bt236 => ((node_Find.f k true y216 (⟨#[98]⟩ : ByteArray)).bind fun bt242 => ((node_Parse.f k ([] : List Int)).bind fun bt244 => (if t223 = true then (if bt236.2.2 = true then ((waybilllaw10_Same.f k true y216 bt236.1 bt236.2.1).bind fun t250 => (if t250 = true then ((node_Size.f k true y216).bind fun t251 => (if t251 = 10 then ((node_Size.f k true ([] : List (S41))).bind fun t252 => (if t252 = 3 then (if bt242.1 = 1 then (if bt242.2 = true then (none) else (if bt244.2.2 = true then (none) else ((node_Ok.f k false ([] : List (S41))).bind fun t253 => (some (!t253))))) else (none)) else (none))) else (none))) else (none))) else (none)) else (none))))) else (none))) = some r := by first | (rw [hy227]; with_reducible exact H) | (have H2_ := (Option.bind_some _ _).symm.trans H; rw [hy227]; with_reducible exact H2_) | (have H2_ := (Option.bind_some _ _).symm.trans H; with_reducible exact H2_) | with_reducible exact H | (rw [hy227]; exact H) | exact H
    have Ny227 := Aside0.mk hy227
    clear hy227
    obtain ⟨y230, hy230⟩ : ∃ y_ : List Int, y_ = (([0, 0] : List Int)) := ⟨_, rfl⟩
    replace H : (if y227.length + y230.length < 140737488355328 then ((node_Parse.f k (y227 ++ y230)).bind fun bt236 => ((node_Find.f k true y216 (⟨#[98]⟩ : ByteArray)).bind fun bt242 => ((node_Parse.f k ([] : List Int)).bind fun bt244 => (if t223 = true then (if bt236.2.2 = true then ((waybilllaw10_Same.f k true y216 bt236.1 bt236.2.1).bind fun t250 => (if t250 = true then ((node_Size.f k true y216).bind fun t251 => (if t251 = 10 then ((node_Size.f k true ([] : List (S41))).bind fun t252 => (if t252 = 3 then (if bt242.1 = 1 then (if bt242.2 = true then (none) else (if bt244.2.2 = true then (none) else ((node_Ok.f k false ([] : List (S41))).bind fun t253 => (some (!t253))))) else (none)) else (none))) else (none))) else (none))) else (none)) else (none))))) else (none)) = some r := by first | (rw [hy230]; with_reducible exact H) | (have H2_ := (Option.bind_some _ _).symm.trans H; rw [hy230]; with_reducible exact H2_) | (have H2_ := (Option.bind_some _ _).symm.trans H; with_reducible exact H2_) | with_reducible exact H | (rw [hy230]; exact H) | exact H
    have Ny230 := Aside0.mk hy230
    clear hy230
    by_cases c3 : y227.length + y230.length < 140737488355328
    · rw [if_pos c3] at H
      have LMc3 := Aside0.mk c3
      clear c3
      obtain ⟨y233, hy233⟩ : ∃ y_ : List Int, y_ = (y227 ++ y230) := ⟨_, rfl⟩
      replace H : ((node_Parse.f k y233).bind fun bt236 => ((node_Find.f k true y216 (⟨#[98]⟩ : ByteArray)).bind fun bt242 => ((node_Parse.f k ([] : List Int)).bind fun bt244 => (if t223 = true then (if bt236.2.2 = true then ((waybilllaw10_Same.f k true y216 bt236.1 bt236.2.1).bind fun t250 => (if t250 = true then ((node_Size.f k true y216).bind fun t251 => (if t251 = 10 then ((node_Size.f k true ([] : List (S41))).bind fun t252 => (if t252 = 3 then (if bt242.1 = 1 then (if bt242.2 = true then (none) else (if bt244.2.2 = true then (none) else ((node_Ok.f k false ([] : List (S41))).bind fun t253 => (some (!t253))))) else (none)) else (none))) else (none))) else (none))) else (none)) else (none))))) = some r := by first | (rw [hy233]; with_reducible exact H) | (have H2_ := (Option.bind_some _ _).symm.trans H; rw [hy233]; with_reducible exact H2_) | (have H2_ := (Option.bind_some _ _).symm.trans H; with_reducible exact H2_) | with_reducible exact H | (rw [hy233]; exact H) | exact H
      have Ny233 := Aside0.mk hy233
      clear hy233
      replace H := Option.bind_eq_some_iff.mp H
      obtain ⟨⟨t236, t237, t240⟩, A40, H⟩ := H
      replace H : ((node_Find.f k true y216 (⟨#[98]⟩ : ByteArray)).bind fun bt242 => ((node_Parse.f k ([] : List Int)).bind fun bt244 => (if t223 = true then (if t240 = true then ((waybilllaw10_Same.f k true y216 t236 t237).bind fun t250 => (if t250 = true then ((node_Size.f k true y216).bind fun t251 => (if t251 = 10 then ((node_Size.f k true ([] : List (S41))).bind fun t252 => (if t252 = 3 then (if bt242.1 = 1 then (if bt242.2 = true then (none) else (if bt244.2.2 = true then (none) else ((node_Ok.f k false ([] : List (S41))).bind fun t253 => (some (!t253))))) else (none)) else (none))) else (none))) else (none))) else (none)) else (none)))) = some r := H
      have A4 := Aside0.mk A40
      clear A40
      replace H := Option.bind_eq_some_iff.mp H
      obtain ⟨⟨t242, t243⟩, A50, H⟩ := H
      replace H : ((node_Parse.f k ([] : List Int)).bind fun bt244 => (if t223 = true then (if t240 = true then ((waybilllaw10_Same.f k true y216 t236 t237).bind fun t250 => (if t250 = true then ((node_Size.f k true y216).bind fun t251 => (if t251 = 10 then ((node_Size.f k true ([] : List (S41))).bind fun t252 => (if t252 = 3 then (if t242 = 1 then (if t243 = true then (none) else (if bt244.2.2 = true then (none) else ((node_Ok.f k false ([] : List (S41))).bind fun t253 => (some (!t253))))) else (none)) else (none))) else (none))) else (none))) else (none)) else (none))) = some r := H
      have A5 := Aside0.mk A50
      clear A50
      replace H := Option.bind_eq_some_iff.mp H
      obtain ⟨⟨t244, t245, t248⟩, A60, H⟩ := H
      replace H : (if t223 = true then (if t240 = true then ((waybilllaw10_Same.f k true y216 t236 t237).bind fun t250 => (if t250 = true then ((node_Size.f k true y216).bind fun t251 => (if t251 = 10 then ((node_Size.f k true ([] : List (S41))).bind fun t252 => (if t252 = 3 then (if t242 = 1 then (if t243 = true then (none) else (if t248 = true then (none) else ((node_Ok.f k false ([] : List (S41))).bind fun t253 => (some (!t253))))) else (none)) else (none))) else (none))) else (none))) else (none)) else (none)) = some r := H
      have A6 := Aside0.mk A60
      clear A60
      by_cases c7 : t223 = true
      · subst c7
        have H1 : (if t240 = true then ((waybilllaw10_Same.f k true y216 t236 t237).bind fun t250 => (if t250 = true then ((node_Size.f k true y216).bind fun t251 => (if t251 = 10 then ((node_Size.f k true ([] : List (S41))).bind fun t252 => (if t252 = 3 then (if t242 = 1 then (if t243 = true then (none) else (if t248 = true then (none) else ((node_Ok.f k false ([] : List (S41))).bind fun t253 => (some (!t253))))) else (none)) else (none))) else (none))) else (none))) else (none)) = some r := by rw [if_pos rfl] at H; exact H
        clear H
        have H := H1
        clear H1
        by_cases c8 : t240 = true
        · subst c8
          have H1 : ((waybilllaw10_Same.f k true y216 t236 t237).bind fun t250 => (if t250 = true then ((node_Size.f k true y216).bind fun t251 => (if t251 = 10 then ((node_Size.f k true ([] : List (S41))).bind fun t252 => (if t252 = 3 then (if t242 = 1 then (if t243 = true then (none) else (if t248 = true then (none) else ((node_Ok.f k false ([] : List (S41))).bind fun t253 => (some (!t253))))) else (none)) else (none))) else (none))) else (none))) = some r := by rw [if_pos rfl] at H; exact H
          clear H
          have H := H1
          clear H1
          replace H := Option.bind_eq_some_iff.mp H
          obtain ⟨t250, A90, H⟩ := H
          replace H : (if t250 = true then ((node_Size.f k true y216).bind fun t251 => (if t251 = 10 then ((node_Size.f k true ([] : List (S41))).bind fun t252 => (if t252 = 3 then (if t242 = 1 then (if t243 = true then (none) else (if t248 = true then (none) else ((node_Ok.f k false ([] : List (S41))).bind fun t253 => (some (!t253))))) else (none)) else (none))) else (none))) else (none)) = some r := H
          have A9 := Aside0.mk A90
          clear A90
          by_cases c10 : t250 = true
          · subst c10
            have H1 : ((node_Size.f k true y216).bind fun t251 => (if t251 = 10 then ((node_Size.f k true ([] : List (S41))).bind fun t252 => (if t252 = 3 then (if t242 = 1 then (if t243 = true then (none) else (if t248 = true then (none) else ((node_Ok.f k false ([] : List (S41))).bind fun t253 => (some (!t253))))) else (none)) else (none))) else (none))) = some r := by rw [if_pos rfl] at H; exact H
            clear H
            have H := H1
            clear H1
            replace H := Option.bind_eq_some_iff.mp H
            obtain ⟨t251, A110, H⟩ := H
            replace H : (if t251 = 10 then ((node_Size.f k true ([] : List (S41))).bind fun t252 => (if t252 = 3 then (if t242 = 1 then (if t243 = true then (none) else (if t248 = true then (none) else ((node_Ok.f k false ([] : List (S41))).bind fun t253 => (some (!t253))))) else (none)) else (none))) else (none)) = some r := H
            have A11 := Aside0.mk A110
            clear A110
            by_cases c12 : t251 = 10
            · rw [if_pos c12] at H
              have c12b0 : (t251 == 10) = true := beq_iff_eq.mpr c12
              have c12b1 : (t251 != 10) = false := bne_eq_false_iff_eq.mpr c12
              clear c12
              replace H := Option.bind_eq_some_iff.mp H
              obtain ⟨t252, A130, H⟩ := H
              replace H : (if t252 = 3 then (if t242 = 1 then (if t243 = true then (none) else (if t248 = true then (none) else ((node_Ok.f k false ([] : List (S41))).bind fun t253 => (some (!t253))))) else (none)) else (none)) = some r := H
              have A13 := Aside0.mk A130
              clear A130
              by_cases c14 : t252 = 3
              · rw [if_pos c14] at H
                have c14b0 : (t252 == 3) = true := beq_iff_eq.mpr c14
                have c14b1 : (t252 != 3) = false := bne_eq_false_iff_eq.mpr c14
                clear c14
                by_cases c15 : t242 = 1
                · rw [if_pos c15] at H
                  have c15b0 : (t242 == 1) = true := beq_iff_eq.mpr c15
                  have c15b1 : (t242 != 1) = false := bne_eq_false_iff_eq.mpr c15
                  clear c15
                  by_cases c16 : t243 = true
                  · subst c16
                    have H1 : (none) = some r := by rw [if_pos rfl] at H; exact H
                    clear H
                    have H := H1
                    clear H1
                    exact absurd H (by simp)
                  · replace c16 := Bool.eq_false_iff.mpr c16
                    subst c16
                    have H1 : (if t248 = true then (none) else ((node_Ok.f k false ([] : List (S41))).bind fun t253 => (some (!t253)))) = some r := by rw [if_neg (show ¬ (false = true) by decide)] at H; exact H
                    clear H
                    have H := H1
                    clear H1
                    by_cases c17 : t248 = true
                    · subst c17
                      have H1 : (none) = some r := by rw [if_pos rfl] at H; exact H
                      clear H
                      have H := H1
                      clear H1
                      exact absurd H (by simp)
                    · replace c17 := Bool.eq_false_iff.mpr c17
                      subst c17
                      have H1 : ((node_Ok.f k false ([] : List (S41))).bind fun t253 => (some (!t253))) = some r := by rw [if_neg (show ¬ (false = true) by decide)] at H; exact H
                      clear H
                      have H := H1
                      clear H1
                      replace H := Option.bind_eq_some_iff.mp H
                      obtain ⟨t253, A180, H⟩ := H
                      replace H : (some (!t253)) = some r := H
                      have A18 := Aside0.mk A180
                      clear A180
                      obtain rfl := Option.some.inj H
                      go_enter Try.func21, Try.ntmps21
                      go_wp2_with (first | ((with_reducible refine gate_dst (N := 12) rfl ?_); refine Kd.R_lit k41 _ 41 ?hg (N := 12) ?hd (xs := ([(⟨(⟨#[97]⟩ : ByteArray), (⟨#[49]⟩ : ByteArray), 0⟩ : S41), (⟨(⟨#[99]⟩ : ByteArray), (⟨#[]⟩ : ByteArray), 0⟩ : S41)] : List (S41))) (inner := [.string (⟨#[97]⟩ : ByteArray), .string (⟨#[49]⟩ : ByteArray), .int .i64 0, .string (⟨#[99]⟩ : ByteArray), .string (⟨#[]⟩ : ByteArray), .int .i64 0]) (ok := fun _ => True) (okp := fun _ => True) ?hr ?hp (fun _ hk => hk) trivial (Below.refl _ _) (Nat.le_refl _) (by simp) ?_; (case hd => rfl); (case hg => rfl); (case hr => first | (go_simp; done) | (go_simp; rfl)); (case hp => exact (Reps.c3 (show Kd.M k41 _ _ _ (⟨(⟨#[97]⟩ : ByteArray), (⟨#[49]⟩ : ByteArray), 0⟩ : S41) [.string (⟨#[97]⟩ : ByteArray), .string (⟨#[49]⟩ : ByteArray), .int .i64 0] from (k41_mkM _ _ _ (⟨(⟨#[97]⟩ : ByteArray), (⟨#[49]⟩ : ByteArray), 0⟩ : S41) )) (Reps.c3 (show Kd.M k41 _ _ _ (⟨(⟨#[99]⟩ : ByteArray), (⟨#[]⟩ : ByteArray), 0⟩ : S41) [.string (⟨#[99]⟩ : ByteArray), .string (⟨#[]⟩ : ByteArray), .int .i64 0] from (k41_mkM _ _ _ (⟨(⟨#[99]⟩ : ByteArray), (⟨#[]⟩ : ByteArray), 0⟩ : S41) )) (Reps.none _ _)))); intro v217 w19 ho20 hb hg_ hnew_; clear hg_ hnew_; (first | rw [← Ny216.out] at ho20 | (simp only [Int.reduceToNat] at ho20; rw [← Ny216.out] at ho20)); have n0_ := Aside0.mk (Kd.R_lower ho20 (below_size (by repeat (first | (with_reducible first | exact HB.out | apply below_alloc | apply pw_below_drewN | apply below_drew1) | exact HB.out)))); have n1_ := Aside0.mk (below_step (by repeat (first | (with_reducible first | exact HB.out | apply below_alloc | apply pw_below_drewN | apply below_drew1) | exact HB.out)) hb); clear HB; have HO218 := n0_; have HB := n1_; clear n0_ n1_; clear hb ho20; obtain ⟨Ao21, co21, eo21⟩ := Kd.R_slice HO218.out; subst eo21) | ((with_reducible refine gate_dst (N := 1) rfl ?_); refine box_event ?hg (N := 1) ?hd (cs := #[.bool false, .slice none 0 0]) (t := 44) ?hr ?_; (case hd => rfl); (case hg => rfl); (case hr => first | (go_simp; done) | (go_simp; rfl)); intro gb219 hg w22 hbox hb; have n0_ := Aside0.mk (Kd.R_below (by exact HO218.out) hb); have n1_ := Aside0.mk (below_step (by repeat (first | (with_reducible first | exact HB.out | apply below_alloc | apply pw_below_drewN | apply below_drew1) | exact HB.out)) hb); have n2_ := Aside0.mk (hbox); have n3_ := Aside0.mk ((by rw [hg]; exact (below_size (by repeat (first | (with_reducible first | exact HB.out | apply below_alloc | apply pw_below_drewN | apply below_drew1) | exact HB.out))) : w.heap.size ≤ gb219)); have n4_ := Aside0.mk ((by rw [hg]; exact (below_size (by repeat (first | (with_reducible first | exact HB.out | apply below_alloc | apply pw_below_drewN | apply below_drew1) | exact HB.out))) : w.heap.size ≤ gb219)); clear HO218; clear HB; have HO218 := n0_; have HB := n1_; have BK219 := n2_; have GW219 := n3_; have GE219 := n4_; clear n0_ n1_ n2_ n3_ n4_; clear hb hbox hg; have hcz23_0 : w22.cell? ⟨gb219, 0, none⟩ = some (.bool false) := (blk_cell BK219.out 0).trans rfl; have hcz23_1 : w22.cell? ⟨gb219, 1, none⟩ = some (.slice none 0 0) := (blk_cell BK219.out 1).trans rfl; have hfz23_0 := blk_frozen BK219.out 0; have hfz23_1 := blk_frozen BK219.out 1) | ((with_reducible refine gate_callee (f := 19) rfl ?_); refine goesL_ (some 16) rfl rfl Try.func19 (by kernel_rfl) rfl #[.agg #[.bool true, .slice Ao21 y216.length co21]] rfl (by (try simp only [List.map_toArray, List.map_cons, List.map_nil]); first | done | rfl | (simp only [List.length_drop, List.length_take]; rfl)) ?_; (with_reducible refine (node_Append.calls k true _ _ y216 t220 true _ ?side1 ?side2 A1.out).mono ?_); (case side1 => refine (Kd.R_reads' (e := 41) (base := w.heap.size) (ok := fun k_ => True) (n := y216.length) (c := co21) ?_).2.2; exact (by exact (Kd.R_mono (Kd.R_far (p := ⟨gb219, 1, none⟩) (Kd.R_far (p := ⟨gb219, 0, none⟩) (Kd.R_types HO218.out BK219.out (by decide)) (fun _ hk => hk.2) (.bool true)) (fun _ hk => hk.2) (.slice Ao21 y216.length co21)) (fun _ h_ => h_.1)))); (case side2 => exact (Kd.R_reads' HO218.out).2.1); rintro e w24 ⟨v221, rfl, ho0, hb⟩; refine ⟨_, rfl, ?_⟩; have n0_ := Aside0.mk (Kd.R_below (by exact (Kd.R_mono (Kd.R_far (p := ⟨gb219, 1, none⟩) (Kd.R_far (p := ⟨gb219, 0, none⟩) (Kd.R_types HO218.out BK219.out (by decide)) (fun _ hk => hk.2) (.bool true)) (fun _ hk => hk.2) (.slice Ao21 y216.length co21)) (fun _ h_ => h_.1))) hb); have n1_ := Aside0.mk (Kd.R_lower ho0 (below_size (by repeat (first | (with_reducible first | exact HB.out | apply below_alloc | apply pw_below_drewN | apply below_drew1 | refine below_set ?_ GE219.out) | exact HB.out)))); have n2_ := Aside0.mk (blk_below (g := gb219) (o := .cells #[.bool true, .slice Ao21 y216.length co21] 44 (0, 0)) (by refine blk_put (cs := #[.bool true, .slice none 0 0]) ?_ 1 _ rfl; refine blk_put (cs := #[.bool false, .slice none 0 0]) ?_ 0 _ rfl; exact BK219.out) hb); have n3_ := Aside0.mk (below_step (by repeat (first | (with_reducible first | exact HB.out | apply below_alloc | apply pw_below_drewN | apply below_drew1 | refine below_set ?_ GE219.out) | exact HB.out)) hb); clear HO218; clear BK219; clear HB; have HO218 := n0_; have HO222 := n1_; have BK219 := n2_; have HB := n3_; clear n0_ n1_ n2_ n3_; (try clear hb); (try clear hb2); (try clear hk); (try clear hi); (try clear hge); (try clear ho0)) | ((with_reducible refine gate_dst (N := 20) rfl ?_); refine Kd.R_lit (Kd.int .u8) _ 5 ?hg (N := 20) ?hd (xs := ([] : List Int)) (inner := []) (ok := fun _ => True) (okp := fun _ => True) ?hr ?hp (fun _ hk => hk) trivial (Below.refl _ _) (Nat.le_refl _) (by simp) ?_; (case hd => rfl); (case hg => rfl); (case hr => first | (go_simp; done) | (go_simp; rfl)); (case hp => exact (Reps.none _ _)); intro v225 w25 ho26 hb hg_ hnew_; clear hg_ hnew_; (first | rw [← Ny224.out] at ho26 | (simp only [Int.reduceToNat] at ho26; rw [← Ny224.out] at ho26)); have n0_ := Aside0.mk (Kd.R_below (by exact HO218.out) hb); have n1_ := Aside0.mk (Kd.R_elder' (by exact HO222.out) (Kd.R_base ho26) hb); have n2_ := Aside0.mk (Kd.R_lower (Kd.R_new' ho26 (Kd.R_lt (by exact HO222.out))) (below_size (by repeat (first | (with_reducible first | exact HB.out | apply below_alloc | apply pw_below_drewN | apply below_drew1 | refine below_set ?_ GE219.out) | exact HB.out)))); have n3_ := Aside0.mk (blk_below (g := gb219) (o := .cells #[.bool true, .slice Ao21 y216.length co21] 44 (0, 0)) (by exact BK219.out) hb); have n4_ := Aside0.mk (below_step (by repeat (first | (with_reducible first | exact HB.out | apply below_alloc | apply pw_below_drewN | apply below_drew1 | refine below_set ?_ GE219.out) | exact HB.out)) hb); clear HO218; clear HO222; clear BK219; clear HB; have HO218 := n0_; have HO222 := n1_; have HO226 := n2_; have BK219 := n3_; have HB := n4_; clear n0_ n1_ n2_ n3_ n4_; clear hb ho26; obtain ⟨Ao28, co28, eo28⟩ := Kd.R_slice HO222.out; subst eo28) | ((with_reducible refine gate_builtin (b := .append) (xs := #[.tmp 20, .tmp 21]) rfl ?_); at_builtin; refine Kd.R_append_rows (Kd.int .u8) (w0 := w) w.heap.size rfl (.tmp 20) (.tmp 21) 25 5 (.int .u8 0) 1 rfl Try.underlying25 info5 rfl (by decide) (by omega) v225 y224 t220 _ _ _ (fun k_ => some k_ ≠ (.slice Ao28 t220.length co28 : Value).ownBlock) (fun _ => False) rfl rfl ?aO ?aR (fun _ _ h => h) (fun _ h => h.elim) ?aF ?aB ?aS ?aL ?_; (case aR => repeat (first | exact (Kd.R_reads' HO222.out).2.2 | (with_reducible refine Kd.C_alloc ?_ _) | (with_reducible refine Kd.C_drewN ?_ _) | (with_reducible refine Kd.C_drew ?_))); (case aB => exact (by repeat (first | (with_reducible first | exact HB.out | apply below_alloc | apply pw_below_drewN | apply below_drew1 | refine below_set ?_ GE219.out) | exact HB.out))); (case aF => exact (fun k_ hk => Kd.fresh' (Kd.R_lt (by exact HO222.out)) k_ hk)); (case aO => exact (by exact Kd.R_mono HO226.out (fun _ hk => hk.2))); (case aS => exact (below_size (by repeat (first | (with_reducible first | exact HB.out | apply below_alloc | apply pw_below_drewN | apply below_drew1 | refine below_set ?_ GE219.out) | exact HB.out)))); (case aL => have := LMc2.out; omega); intro v228 w27 ho hb hg hat; rw [← Ny227.out] at ho; have n0_ := Aside0.mk (Kd.R_over' (by exact HO218.out) (Kd.R_typed (by exact HO226.out)) (by decide) hg); have n1_ := Aside0.mk (blk_grown (g := gb219) (o := .cells #[.bool true, .slice Ao21 y216.length co21] 44 (0, 0)) (by exact BK219.out) hg (Kd.R_ne HO226.out BK219.out (by decide))); have n2_ := Aside0.mk (Kd.R_after (ok := (fun _ => True)) (by exact HO222.out) hg hat); have n3_ := Aside0.mk (hb); have n4_ := Aside0.mk (ho); clear HO218; clear BK219; clear HO222; clear HB; clear HO226; have HO218 := n0_; have BK219 := n1_; have HO222 := n2_; have HB := n3_; have HO229 := n4_; clear n0_ n1_ n2_ n3_ n4_; clear ho hb hg hat) | ((with_reducible refine gate_dst (N := 23) rfl ?_); refine Kd.R_lit (Kd.int .u8) _ 5 ?hg (N := 23) ?hd (xs := ([0, 0] : List Int)) (inner := [.int .u8 0, .int .u8 0]) (ok := fun _ => True) (okp := fun _ => True) ?hr ?hp (fun _ hk => hk) trivial (Below.refl _ _) (Nat.le_refl _) (by simp) ?_; (case hd => rfl); (case hg => rfl); (case hr => first | (go_simp; done) | (go_simp; rfl)); (case hp => exact (Reps.one (show Kd.M (Kd.int .u8) _ _ _ 0 [.int .u8 0] from rfl) (Reps.one (show Kd.M (Kd.int .u8) _ _ _ 0 [.int .u8 0] from rfl) (Reps.none _ _)))); intro v231 w29 ho30 hb hg_ hnew_; clear hg_ hnew_; (first | rw [← Ny230.out] at ho30 | (simp only [Int.reduceToNat] at ho30; rw [← Ny230.out] at ho30)); have n0_ := Aside0.mk (Kd.R_below (by exact HO218.out) hb); have n1_ := Aside0.mk (Kd.R_elder' (by exact HO222.out) (Kd.R_base ho30) hb); have n2_ := Aside0.mk (Kd.R_elder' (by exact HO229.out) (Kd.R_base ho30) hb); have n3_ := Aside0.mk (Kd.R_lower (Kd.R_new' (Kd.R_new' ho30 (Kd.R_lt (by exact HO222.out))) (Kd.R_lt (by exact HO229.out))) (below_size (by repeat (first | (with_reducible first | exact HB.out | apply below_alloc | apply pw_below_drewN | apply below_drew1 | refine below_set ?_ GE219.out) | exact HB.out)))); have n4_ := Aside0.mk (blk_below (g := gb219) (o := .cells #[.bool true, .slice Ao21 y216.length co21] 44 (0, 0)) (by exact BK219.out) hb); have n5_ := Aside0.mk (below_step (by repeat (first | (with_reducible first | exact HB.out | apply below_alloc | apply pw_below_drewN | apply below_drew1 | refine below_set ?_ GE219.out) | exact HB.out)) hb); clear HO218; clear HO222; clear HO229; clear BK219; clear HB; have HO218 := n0_; have HO222 := n1_; have HO229 := n2_; have HO232 := n3_; have BK219 := n4_; have HB := n5_; clear n0_ n1_ n2_ n3_ n4_ n5_; clear hb ho30; obtain ⟨Ao32, co32, eo32⟩ := Kd.R_slice HO232.out; subst eo32) | ((with_reducible refine gate_builtin (b := .append) (xs := #[.tmp 22, .tmp 23]) rfl ?_); at_builtin; refine Kd.R_append_rows (Kd.int .u8) (w0 := w) w.heap.size rfl (.tmp 22) (.tmp 23) 25 5 (.int .u8 0) 1 rfl Try.underlying25 info5 rfl (by decide) (by omega) v228 y227 y230 _ _ _ (fun k_ => some k_ ≠ (.slice Ao28 t220.length co28 : Value).ownBlock ∧ some k_ ≠ (.slice Ao32 y230.length co32 : Value).ownBlock) (fun _ => False) rfl rfl ?aO ?aR (fun _ _ h => h) (fun _ h => h.elim) ?aF ?aB ?aS ?aL ?_; (case aR => repeat (first | exact (Kd.R_reads' HO232.out).2.2 | (with_reducible refine Kd.C_alloc ?_ _) | (with_reducible refine Kd.C_drewN ?_ _) | (with_reducible refine Kd.C_drew ?_))); (case aB => exact (by repeat (first | (with_reducible first | exact HB.out | apply below_alloc | apply pw_below_drewN | apply below_drew1 | refine below_set ?_ GE219.out) | exact HB.out))); (case aF => exact (fun k_ hk => ⟨Kd.fresh' (Kd.R_lt (by exact HO222.out)) k_ hk, Kd.fresh' (Kd.R_lt (by exact HO232.out)) k_ hk⟩)); (case aO => exact (by exact HO229.out)); (case aS => exact (below_size (by repeat (first | (with_reducible first | exact HB.out | apply below_alloc | apply pw_below_drewN | apply below_drew1 | refine below_set ?_ GE219.out) | exact HB.out)))); (case aL => have := LMc3.out; omega); intro v234 w31 ho hb hg hat; rw [← Ny233.out] at ho; have n0_ := Aside0.mk (Kd.R_over' (by exact HO218.out) (Kd.R_typed (by exact HO229.out)) (by decide) hg); have n1_ := Aside0.mk (blk_grown (g := gb219) (o := .cells #[.bool true, .slice Ao21 y216.length co21] 44 (0, 0)) (by exact BK219.out) hg (Kd.R_ne HO229.out BK219.out (by decide))); have n2_ := Aside0.mk (Kd.R_after (ok := (fun k_ => some k_ ≠ (.slice Ao32 y230.length co32 : Value).ownBlock)) (by exact Kd.R_mono HO222.out (fun _ hk => ⟨hk.2, hk.1.2⟩)) hg hat); have n3_ := Aside0.mk (Kd.R_after (ok := (fun k_ => some k_ ≠ (.slice Ao28 t220.length co28 : Value).ownBlock)) (by exact Kd.R_mono HO232.out (fun _ hk => ⟨hk.1.2, hk.2⟩)) hg hat); have n4_ := Aside0.mk (hb); have n5_ := Aside0.mk (ho); clear HO218; clear BK219; clear HO222; clear HO232; clear HB; clear HO229; have HO218 := n0_; have BK219 := n1_; have HO222 := n2_; have HO232 := n3_; have HB := n4_; have HO235 := n5_; clear n0_ n1_ n2_ n3_ n4_ n5_; clear ho hb hg hat; obtain ⟨Ao33, co33, eo33⟩ := Kd.R_slice HO235.out; subst eo33) | ((with_reducible refine gate_callee (f := 27) rfl ?_); refine goesL_ (some 25) rfl rfl Try.func27 (by kernel_rfl) rfl #[.slice Ao33 y233.length co33] rfl (by (try simp only [List.map_toArray, List.map_cons, List.map_nil]); first | done | rfl | (simp only [List.length_drop, List.length_take]; rfl)) ?_; (with_reducible refine (node_Parse.calls k _ _ y233 t236 t237 true _ ?side1 ?side2 A4.out).mono ?_); (case side1 => repeat (first | exact (Kd.R_reads' HO235.out).2.2 | (with_reducible refine Kd.C_alloc ?_ _) | (with_reducible refine Kd.C_drewN ?_ _) | (with_reducible refine Kd.C_drew ?_))); (case side2 => exact (Kd.R_reads' HO235.out).2.1); rintro e w34 ⟨v238, rfl, ho0, hb⟩; refine ⟨_, rfl, ?_⟩; have n0_ := Aside0.mk (Kd.R_elder' (by exact HO218.out) (Kd.R_base ho0) hb); have n1_ := Aside0.mk (Kd.R_below (by exact HO222.out) hb); have n2_ := Aside0.mk (Kd.R_below (by exact HO232.out) hb); have n3_ := Aside0.mk (Kd.R_below (by exact HO235.out) hb); have n4_ := Aside0.mk (Kd.R_lower (Kd.R_new' ho0 (Kd.R_lt (by exact HO218.out))) (below_size (by repeat (first | (with_reducible first | exact HB.out | apply below_alloc | apply pw_below_drewN | apply below_drew1 | refine below_set ?_ GE219.out) | exact HB.out)))); have n5_ := Aside0.mk (blk_below (g := gb219) (o := .cells #[.bool true, .slice Ao21 y216.length co21] 44 (0, 0)) (by exact BK219.out) hb); have n6_ := Aside0.mk (below_step (by repeat (first | (with_reducible first | exact HB.out | apply below_alloc | apply pw_below_drewN | apply below_drew1 | refine below_set ?_ GE219.out) | exact HB.out)) hb); clear HO218; clear HO222; clear HO232; clear HO235; clear BK219; clear HB; have HO218 := n0_; have HO222 := n1_; have HO232 := n2_; have HO235 := n3_; have HO239 := n4_; have BK219 := n5_; have HB := n6_; clear n0_ n1_ n2_ n3_ n4_ n5_ n6_; (try clear hb); (try clear hb2); (try clear hk); (try clear hi); (try clear hge); (try clear ho0)) | ((with_reducible refine gate_dst (N := 4) rfl ?_); refine box_event ?hg (N := 4) ?hd (cs := #[.bool false, .slice none 0 0]) (t := 44) ?hr ?_; (case hd => rfl); (case hg => rfl); (case hr => first | (go_simp; done) | (go_simp; rfl)); intro gb241 hg w35 hbox hb; have n0_ := Aside0.mk (Kd.R_below (by exact HO218.out) hb); have n1_ := Aside0.mk (Kd.R_below (by exact HO222.out) hb); have n2_ := Aside0.mk (Kd.R_below (by exact HO232.out) hb); have n3_ := Aside0.mk (Kd.R_below (by exact HO235.out) hb); have n4_ := Aside0.mk (Kd.R_below (by exact HO239.out) hb); have n5_ := Aside0.mk (blk_below (g := gb219) (o := .cells #[.bool true, .slice Ao21 y216.length co21] 44 (0, 0)) (by exact BK219.out) hb); have n6_ := Aside0.mk (below_step (by repeat (first | (with_reducible first | exact HB.out | apply below_alloc | apply pw_below_drewN | apply below_drew1 | refine below_set ?_ GE219.out) | exact HB.out)) hb); have n7_ := Aside0.mk (hbox); have n8_ := Aside0.mk ((by rw [hg]; exact (below_size (by repeat (first | (with_reducible first | exact HB.out | apply below_alloc | apply pw_below_drewN | apply below_drew1 | refine below_set ?_ GE219.out) | exact HB.out))) : w.heap.size ≤ gb241)); have n9_ := Aside0.mk ((by rw [hg]; exact (below_size (by repeat (first | (with_reducible first | exact HB.out | apply below_alloc | apply pw_below_drewN | apply below_drew1 | refine below_set ?_ GE219.out) | exact HB.out))) : w.heap.size ≤ gb241)); have n10_ := Aside0.mk ((by rw [hg]; exact Nat.ne_of_lt (blk_lt (g := gb219) (o := .cells #[.bool true, .slice Ao21 y216.length co21] 44 (0, 0)) (by exact BK219.out)) : gb219 ≠ gb241)); have n11_ := Aside0.mk ((by rw [hg]; exact Nat.ne_of_gt (blk_lt (g := gb219) (o := .cells #[.bool true, .slice Ao21 y216.length co21] 44 (0, 0)) (by exact BK219.out)) : gb241 ≠ gb219)); clear HO218; clear HO222; clear HO232; clear HO235; clear HO239; clear BK219; clear HB; have HO218 := n0_; have HO222 := n1_; have HO232 := n2_; have HO235 := n3_; have HO239 := n4_; have BK219 := n5_; have HB := n6_; have BK241 := n7_; have GW241 := n8_; have GE241 := n9_; have NB219_241 := n10_; have NB241_219 := n11_; clear n0_ n1_ n2_ n3_ n4_ n5_ n6_ n7_ n8_ n9_ n10_ n11_; clear hb hbox hg; have hnb36 := NB241_219.out; have hnc36 := NB219_241.out; have hcz37_0 : w35.cell? ⟨gb241, 0, none⟩ = some (.bool false) := (blk_cell BK241.out 0).trans rfl; have hcz37_1 : w35.cell? ⟨gb241, 1, none⟩ = some (.slice none 0 0) := (blk_cell BK241.out 1).trans rfl; have hfz37_0 := blk_frozen BK241.out 0; have hfz37_1 := blk_frozen BK241.out 1; obtain ⟨Ao38, co38, eo38⟩ := Kd.R_slice HO239.out; subst eo38; have hcz39_0 : w35.cell? ⟨gb219, 0, none⟩ = some (.bool true) := (blk_cell BK219.out 0).trans rfl; have hcz39_1 : w35.cell? ⟨gb219, 1, none⟩ = some (.slice Ao21 y216.length co21) := (blk_cell BK219.out 1).trans rfl; have hfz39_0 := blk_frozen BK219.out 0; have hfz39_1 := blk_frozen BK219.out 1) | ((with_reducible refine gate_callee (f := 31) rfl ?_); refine goesL_ (some 30) rfl rfl Try.func31 (by kernel_rfl) rfl #[.agg #[.bool true, .slice Ao21 y216.length co21], .string (⟨#[98]⟩ : ByteArray)] rfl (by (try simp only [List.map_toArray, List.map_cons, List.map_nil]); first | done | rfl | (simp only [List.length_drop, List.length_take]; rfl)) ?_; (with_reducible refine (node_Find.calls k true _ _ y216 (⟨#[98]⟩ : ByteArray) t242 false _ ?side1 ?side2 A5.out).mono ?_); (case side1 => refine (Kd.R_reads' (e := 41) (base := w.heap.size) (ok := fun k_ => (True ∧ some k_ ≠ (.slice Ao38 t237.length co38 : Value).ownBlock)) (n := y216.length) (c := co21) ?_).2.2; exact (by exact (Kd.R_mono (Kd.R_far (p := ⟨gb241, 1, none⟩) (Kd.R_far (p := ⟨gb241, 0, none⟩) (Kd.R_types HO218.out BK241.out (by decide)) (fun _ hk => hk.2) (.bool t236)) (fun _ hk => hk.2) (.slice Ao38 t237.length co38)) (fun _ h_ => h_.1)))); (case side2 => exact (Kd.R_reads' HO218.out).2.1); rintro e w40 ⟨rfl, hb⟩; refine ⟨_, rfl, ?_⟩; have n0_ := Aside0.mk (Kd.R_below (by exact (Kd.R_mono (Kd.R_far (p := ⟨gb241, 1, none⟩) (Kd.R_far (p := ⟨gb241, 0, none⟩) (Kd.R_types HO218.out BK241.out (by decide)) (fun _ hk => hk.2) (.bool t236)) (fun _ hk => hk.2) (.slice Ao38 t237.length co38)) (fun _ h_ => h_.1))) hb); have n1_ := Aside0.mk (Kd.R_below (by exact (Kd.R_mono (Kd.R_far (p := ⟨gb241, 1, none⟩) (Kd.R_far (p := ⟨gb241, 0, none⟩) (Kd.R_types HO222.out BK241.out (by decide)) (fun _ hk => hk.2) (.bool t236)) (fun _ hk => hk.2) (.slice Ao38 t237.length co38)) (fun _ h_ => h_.1))) hb); have n2_ := Aside0.mk (Kd.R_below (by exact (Kd.R_mono (Kd.R_far (p := ⟨gb241, 1, none⟩) (Kd.R_far (p := ⟨gb241, 0, none⟩) (Kd.R_types HO232.out BK241.out (by decide)) (fun _ hk => hk.2) (.bool t236)) (fun _ hk => hk.2) (.slice Ao38 t237.length co38)) (fun _ h_ => h_.1))) hb); have n3_ := Aside0.mk (Kd.R_below (by exact (Kd.R_mono (Kd.R_far (p := ⟨gb241, 1, none⟩) (Kd.R_far (p := ⟨gb241, 0, none⟩) (Kd.R_types HO235.out BK241.out (by decide)) (fun _ hk => hk.2) (.bool t236)) (fun _ hk => hk.2) (.slice Ao38 t237.length co38)) (fun _ h_ => h_.1))) hb); have n4_ := Aside0.mk (Kd.R_below (by exact (Kd.R_mono (Kd.R_far (p := ⟨gb241, 1, none⟩) (Kd.R_far (p := ⟨gb241, 0, none⟩) (Kd.R_types HO239.out BK241.out (by decide)) (fun _ hk => hk.2) (.bool t236)) (fun _ hk => hk.2) (.slice Ao38 t237.length co38)) (fun _ h_ => h_.1))) hb); have n5_ := Aside0.mk (blk_below (g := gb219) (o := .cells #[.bool true, .slice Ao21 y216.length co21] 44 (0, 0)) (by refine blk_far ?_ NB219_241.out _; refine blk_far ?_ NB219_241.out _; exact BK219.out) hb); have n6_ := Aside0.mk (blk_below (g := gb241) (o := .cells #[.bool t236, .slice Ao38 t237.length co38] 44 (0, 0)) (by refine blk_put (cs := #[.bool t236, .slice none 0 0]) ?_ 1 _ rfl; refine blk_put (cs := #[.bool false, .slice none 0 0]) ?_ 0 _ rfl; exact BK241.out) hb); have n7_ := Aside0.mk (below_step (by repeat (first | (with_reducible first | exact HB.out | apply below_alloc | apply pw_below_drewN | apply below_drew1 | refine below_set ?_ GE219.out | refine below_set ?_ GE241.out) | exact HB.out)) hb); clear HO218; clear HO222; clear HO232; clear HO235; clear HO239; clear BK219; clear BK241; clear HB; have HO218 := n0_; have HO222 := n1_; have HO232 := n2_; have HO235 := n3_; have HO239 := n4_; have BK219 := n5_; have BK241 := n6_; have HB := n7_; clear n0_ n1_ n2_ n3_ n4_ n5_ n6_ n7_; (try clear hb); (try clear hb2); (try clear hk); (try clear hi); (try clear hge)) | ((with_reducible refine gate_callee (f := 27) rfl ?_); refine goesL_ (some 34) rfl rfl Try.func27 (by kernel_rfl) rfl #[.slice none 0 0] rfl (by (try simp only [List.map_toArray, List.map_cons, List.map_nil]); first | done | rfl | (simp only [List.length_drop, List.length_take]; rfl)) ?_; (refine (node_Parse.calls k _ _ ([] : List Int) t244 t245 false _ ?side1 ?side2 A6.out).mono ?_); (case side1 => exact Kd.C_nil _ _); (case side2 => exact Nat.le_refl _); rintro e w41 ⟨v246, rfl, ho0, hb⟩; refine ⟨_, rfl, ?_⟩; have n0_ := Aside0.mk (Kd.R_elder' (by exact HO218.out) (Kd.R_base ho0) hb); have n1_ := Aside0.mk (Kd.R_below (by exact HO222.out) hb); have n2_ := Aside0.mk (Kd.R_below (by exact HO232.out) hb); have n3_ := Aside0.mk (Kd.R_below (by exact HO235.out) hb); have n4_ := Aside0.mk (Kd.R_elder' (by exact HO239.out) (Kd.R_base ho0) hb); have n5_ := Aside0.mk (Kd.R_lower (Kd.R_new' (Kd.R_new' ho0 (Kd.R_lt (by exact HO218.out))) (Kd.R_lt (by exact HO239.out))) (below_size (by repeat (first | (with_reducible first | exact HB.out | apply below_alloc | apply pw_below_drewN | apply below_drew1 | refine below_set ?_ GE219.out | refine below_set ?_ GE241.out) | exact HB.out)))); have n6_ := Aside0.mk (blk_below (g := gb219) (o := .cells #[.bool true, .slice Ao21 y216.length co21] 44 (0, 0)) (by exact BK219.out) hb); have n7_ := Aside0.mk (blk_below (g := gb241) (o := .cells #[.bool t236, .slice Ao38 t237.length co38] 44 (0, 0)) (by exact BK241.out) hb); have n8_ := Aside0.mk (below_step (by repeat (first | (with_reducible first | exact HB.out | apply below_alloc | apply pw_below_drewN | apply below_drew1 | refine below_set ?_ GE219.out | refine below_set ?_ GE241.out) | exact HB.out)) hb); clear HO218; clear HO222; clear HO232; clear HO235; clear HO239; clear BK219; clear BK241; clear HB; have HO218 := n0_; have HO222 := n1_; have HO232 := n2_; have HO235 := n3_; have HO239 := n4_; have HO247 := n5_; have BK219 := n6_; have BK241 := n7_; have HB := n8_; clear n0_ n1_ n2_ n3_ n4_ n5_ n6_ n7_ n8_; (try clear hb); (try clear hb2); (try clear hk); (try clear hi); (try clear hge); (try clear ho0)) | ((with_reducible refine gate_dst (N := 8) rfl ?_); refine box_event ?hg (N := 8) ?hd (cs := #[.bool false, .slice none 0 0]) (t := 44) ?hr ?_; (case hd => rfl); (case hg => rfl); (case hr => first | (go_simp; done) | (go_simp; rfl)); intro gb249 hg w42 hbox hb; have n0_ := Aside0.mk (Kd.R_below (by exact HO218.out) hb); have n1_ := Aside0.mk (Kd.R_below (by exact HO222.out) hb); have n2_ := Aside0.mk (Kd.R_below (by exact HO232.out) hb); have n3_ := Aside0.mk (Kd.R_below (by exact HO235.out) hb); have n4_ := Aside0.mk (Kd.R_below (by exact HO239.out) hb); have n5_ := Aside0.mk (Kd.R_below (by exact HO247.out) hb); have n6_ := Aside0.mk (blk_below (g := gb219) (o := .cells #[.bool true, .slice Ao21 y216.length co21] 44 (0, 0)) (by exact BK219.out) hb); have n7_ := Aside0.mk (blk_below (g := gb241) (o := .cells #[.bool t236, .slice Ao38 t237.length co38] 44 (0, 0)) (by exact BK241.out) hb); have n8_ := Aside0.mk (below_step (by repeat (first | (with_reducible first | exact HB.out | apply below_alloc | apply pw_below_drewN | apply below_drew1 | refine below_set ?_ GE219.out | refine below_set ?_ GE241.out) | exact HB.out)) hb); have n9_ := Aside0.mk (hbox); have n10_ := Aside0.mk ((by rw [hg]; exact (below_size (by repeat (first | (with_reducible first | exact HB.out | apply below_alloc | apply pw_below_drewN | apply below_drew1 | refine below_set ?_ GE219.out | refine below_set ?_ GE241.out) | exact HB.out))) : w.heap.size ≤ gb249)); have n11_ := Aside0.mk ((by rw [hg]; exact (below_size (by repeat (first | (with_reducible first | exact HB.out | apply below_alloc | apply pw_below_drewN | apply below_drew1 | refine below_set ?_ GE219.out | refine below_set ?_ GE241.out) | exact HB.out))) : w.heap.size ≤ gb249)); have n12_ := Aside0.mk ((by rw [hg]; exact Nat.ne_of_lt (blk_lt (g := gb219) (o := .cells #[.bool true, .slice Ao21 y216.length co21] 44 (0, 0)) (by exact BK219.out)) : gb219 ≠ gb249)); have n13_ := Aside0.mk ((by rw [hg]; exact Nat.ne_of_gt (blk_lt (g := gb219) (o := .cells #[.bool true, .slice Ao21 y216.length co21] 44 (0, 0)) (by exact BK219.out)) : gb249 ≠ gb219)); have n14_ := Aside0.mk ((by rw [hg]; exact Nat.ne_of_lt (blk_lt (g := gb241) (o := .cells #[.bool t236, .slice Ao38 t237.length co38] 44 (0, 0)) (by exact BK241.out)) : gb241 ≠ gb249)); have n15_ := Aside0.mk ((by rw [hg]; exact Nat.ne_of_gt (blk_lt (g := gb241) (o := .cells #[.bool t236, .slice Ao38 t237.length co38] 44 (0, 0)) (by exact BK241.out)) : gb249 ≠ gb241)); clear HO218; clear HO222; clear HO232; clear HO235; clear HO239; clear HO247; clear BK219; clear BK241; clear HB; have HO218 := n0_; have HO222 := n1_; have HO232 := n2_; have HO235 := n3_; have HO239 := n4_; have HO247 := n5_; have BK219 := n6_; have BK241 := n7_; have HB := n8_; have BK249 := n9_; have GW249 := n10_; have GE249 := n11_; have NB219_249 := n12_; have NB249_219 := n13_; have NB241_249 := n14_; have NB249_241 := n15_; clear n0_ n1_ n2_ n3_ n4_ n5_ n6_ n7_ n8_ n9_ n10_ n11_ n12_ n13_ n14_ n15_; clear hb hbox hg; have hnb43 := NB249_219.out; have hnc43 := NB219_249.out; have hnb44 := NB249_241.out; have hnc44 := NB241_249.out; have hcz45_0 : w42.cell? ⟨gb249, 0, none⟩ = some (.bool false) := (blk_cell BK249.out 0).trans rfl; have hcz45_1 : w42.cell? ⟨gb249, 1, none⟩ = some (.slice none 0 0) := (blk_cell BK249.out 1).trans rfl; have hfz45_0 := blk_frozen BK249.out 0; have hfz45_1 := blk_frozen BK249.out 1; obtain ⟨Ao46, co46, eo46⟩ := Kd.R_slice HO247.out; subst eo46; have hcz47_0 : w42.cell? ⟨gb219, 0, none⟩ = some (.bool true) := (blk_cell BK219.out 0).trans rfl; have hcz47_1 : w42.cell? ⟨gb219, 1, none⟩ = some (.slice Ao21 y216.length co21) := (blk_cell BK219.out 1).trans rfl; have hfz47_0 := blk_frozen BK219.out 0; have hfz47_1 := blk_frozen BK219.out 1; have hcz48_0 : w42.cell? ⟨gb241, 0, none⟩ = some (.bool t236) := (blk_cell BK241.out 0).trans rfl; have hcz48_1 : w42.cell? ⟨gb241, 1, none⟩ = some (.slice Ao38 t237.length co38) := (blk_cell BK241.out 1).trans rfl; have hfz48_0 := blk_frozen BK241.out 0; have hfz48_1 := blk_frozen BK241.out 1) | (go_at_call 29; (with_reducible refine (waybilllaw10_Same.calls k true _ _ y216 t236 _ _ t237 true _ ?side1 ?side2 ?side3 ?side4 A9.out).mono ?_); (case side1 => refine (Kd.R_reads' (e := 41) (base := w.heap.size) (ok := fun k_ => ((True ∧ some k_ ≠ (.slice Ao38 t237.length co38 : Value).ownBlock) ∧ some k_ ≠ (.slice Ao46 t245.length co46 : Value).ownBlock)) (n := y216.length) (c := co21) ?_).2.2; exact (by exact (Kd.R_mono (Kd.R_far (p := ⟨gb249, 1, none⟩) (Kd.R_far (p := ⟨gb249, 0, none⟩) (Kd.R_types HO218.out BK249.out (by decide)) (fun _ hk => hk.2) (.bool t244)) (fun _ hk => hk.2) (.slice Ao46 t245.length co46)) (fun _ h_ => h_.1)))); (case side2 => exact (Kd.R_reads' HO218.out).2.1); (case side3 => refine (Kd.R_reads' (e := 41) (base := w.heap.size) (ok := fun k_ => ((True ∧ some k_ ≠ (.slice Ao21 y216.length co21 : Value).ownBlock) ∧ some k_ ≠ (.slice Ao46 t245.length co46 : Value).ownBlock)) (n := t237.length) (c := co38) ?_).2.2; exact (by exact (Kd.R_mono (Kd.R_far (p := ⟨gb249, 1, none⟩) (Kd.R_far (p := ⟨gb249, 0, none⟩) (Kd.R_types HO239.out BK249.out (by decide)) (fun _ hk => hk.2) (.bool t244)) (fun _ hk => hk.2) (.slice Ao46 t245.length co46)) (fun _ h_ => h_.1)))); (case side4 => exact (Kd.R_reads' HO239.out).2.1); rintro e w49 ⟨rfl, hb⟩; have n0_ := Aside0.mk (Kd.R_below (by exact (Kd.R_mono (Kd.R_far (p := ⟨gb249, 1, none⟩) (Kd.R_far (p := ⟨gb249, 0, none⟩) (Kd.R_types HO218.out BK249.out (by decide)) (fun _ hk => hk.2) (.bool t244)) (fun _ hk => hk.2) (.slice Ao46 t245.length co46)) (fun _ h_ => h_.1))) hb); have n1_ := Aside0.mk (Kd.R_below (by exact (Kd.R_mono (Kd.R_far (p := ⟨gb249, 1, none⟩) (Kd.R_far (p := ⟨gb249, 0, none⟩) (Kd.R_types HO222.out BK249.out (by decide)) (fun _ hk => hk.2) (.bool t244)) (fun _ hk => hk.2) (.slice Ao46 t245.length co46)) (fun _ h_ => h_.1))) hb); have n2_ := Aside0.mk (Kd.R_below (by exact (Kd.R_mono (Kd.R_far (p := ⟨gb249, 1, none⟩) (Kd.R_far (p := ⟨gb249, 0, none⟩) (Kd.R_types HO232.out BK249.out (by decide)) (fun _ hk => hk.2) (.bool t244)) (fun _ hk => hk.2) (.slice Ao46 t245.length co46)) (fun _ h_ => h_.1))) hb); have n3_ := Aside0.mk (Kd.R_below (by exact (Kd.R_mono (Kd.R_far (p := ⟨gb249, 1, none⟩) (Kd.R_far (p := ⟨gb249, 0, none⟩) (Kd.R_types HO235.out BK249.out (by decide)) (fun _ hk => hk.2) (.bool t244)) (fun _ hk => hk.2) (.slice Ao46 t245.length co46)) (fun _ h_ => h_.1))) hb); have n4_ := Aside0.mk (Kd.R_below (by exact (Kd.R_mono (Kd.R_far (p := ⟨gb249, 1, none⟩) (Kd.R_far (p := ⟨gb249, 0, none⟩) (Kd.R_types HO239.out BK249.out (by decide)) (fun _ hk => hk.2) (.bool t244)) (fun _ hk => hk.2) (.slice Ao46 t245.length co46)) (fun _ h_ => h_.1))) hb); have n5_ := Aside0.mk (Kd.R_below (by exact (Kd.R_mono (Kd.R_far (p := ⟨gb249, 1, none⟩) (Kd.R_far (p := ⟨gb249, 0, none⟩) (Kd.R_types HO247.out BK249.out (by decide)) (fun _ hk => hk.2) (.bool t244)) (fun _ hk => hk.2) (.slice Ao46 t245.length co46)) (fun _ h_ => h_.1))) hb); have n6_ := Aside0.mk (blk_below (g := gb219) (o := .cells #[.bool true, .slice Ao21 y216.length co21] 44 (0, 0)) (by refine blk_far ?_ NB219_249.out _; refine blk_far ?_ NB219_249.out _; exact BK219.out) hb); have n7_ := Aside0.mk (blk_below (g := gb241) (o := .cells #[.bool t236, .slice Ao38 t237.length co38] 44 (0, 0)) (by refine blk_far ?_ NB241_249.out _; refine blk_far ?_ NB241_249.out _; exact BK241.out) hb); have n8_ := Aside0.mk (blk_below (g := gb249) (o := .cells #[.bool t244, .slice Ao46 t245.length co46] 44 (0, 0)) (by refine blk_put (cs := #[.bool t244, .slice none 0 0]) ?_ 1 _ rfl; refine blk_put (cs := #[.bool false, .slice none 0 0]) ?_ 0 _ rfl; exact BK249.out) hb); have n9_ := Aside0.mk (below_step (by repeat (first | (with_reducible first | exact HB.out | apply below_alloc | apply pw_below_drewN | apply below_drew1 | refine below_set ?_ GE219.out | refine below_set ?_ GE241.out | refine below_set ?_ GE249.out) | exact HB.out)) hb); clear HO218; clear HO222; clear HO232; clear HO235; clear HO239; clear HO247; clear BK219; clear BK241; clear BK249; clear HB; have HO218 := n0_; have HO222 := n1_; have HO232 := n2_; have HO235 := n3_; have HO239 := n4_; have HO247 := n5_; have BK219 := n6_; have BK241 := n7_; have BK249 := n8_; have HB := n9_; clear n0_ n1_ n2_ n3_ n4_ n5_ n6_ n7_ n8_ n9_; (try clear hb); (try clear hb2); (try clear hk); (try clear hi); (try clear hge); have hcz50_0 : w49.cell? ⟨gb219, 0, none⟩ = some (.bool true) := (blk_cell BK219.out 0).trans rfl; have hcz50_1 : w49.cell? ⟨gb219, 1, none⟩ = some (.slice Ao21 y216.length co21) := (blk_cell BK219.out 1).trans rfl; have hfz50_0 := blk_frozen BK219.out 0; have hfz50_1 := blk_frozen BK219.out 1) | (go_at_call 24; (with_reducible refine (node_Size.calls k true _ _ y216 t251 _ ?side1 ?side2 A11.out).mono ?_); (case side1 => repeat (first | exact (Kd.R_reads' HO218.out).2.2 | (with_reducible refine Kd.C_alloc ?_ _) | (with_reducible refine Kd.C_drewN ?_ _) | (with_reducible refine Kd.C_drew ?_))); (case side2 => exact (Kd.R_reads' HO218.out).2.1); rintro e w51 ⟨rfl, hb⟩; have n0_ := Aside0.mk (Kd.R_below (by exact HO218.out) hb); have n1_ := Aside0.mk (Kd.R_below (by exact HO222.out) hb); have n2_ := Aside0.mk (Kd.R_below (by exact HO232.out) hb); have n3_ := Aside0.mk (Kd.R_below (by exact HO235.out) hb); have n4_ := Aside0.mk (Kd.R_below (by exact HO239.out) hb); have n5_ := Aside0.mk (Kd.R_below (by exact HO247.out) hb); have n6_ := Aside0.mk (blk_below (g := gb219) (o := .cells #[.bool true, .slice Ao21 y216.length co21] 44 (0, 0)) (by exact BK219.out) hb); have n7_ := Aside0.mk (blk_below (g := gb241) (o := .cells #[.bool t236, .slice Ao38 t237.length co38] 44 (0, 0)) (by exact BK241.out) hb); have n8_ := Aside0.mk (blk_below (g := gb249) (o := .cells #[.bool t244, .slice Ao46 t245.length co46] 44 (0, 0)) (by exact BK249.out) hb); have n9_ := Aside0.mk (below_step (by repeat (first | (with_reducible first | exact HB.out | apply below_alloc | apply pw_below_drewN | apply below_drew1 | refine below_set ?_ GE219.out | refine below_set ?_ GE241.out | refine below_set ?_ GE249.out) | exact HB.out)) hb); clear HO218; clear HO222; clear HO232; clear HO235; clear HO239; clear HO247; clear BK219; clear BK241; clear BK249; clear HB; have HO218 := n0_; have HO222 := n1_; have HO232 := n2_; have HO235 := n3_; have HO239 := n4_; have HO247 := n5_; have BK219 := n6_; have BK241 := n7_; have BK249 := n8_; have HB := n9_; clear n0_ n1_ n2_ n3_ n4_ n5_ n6_ n7_ n8_ n9_; (try clear hb); (try clear hb2); (try clear hk); (try clear hi); (try clear hge)) | (go_at_call 24; (refine (node_Size.calls k true _ _ ([] : List (S41)) t252 _ ?side1 ?side2 A13.out).mono ?_); (case side1 => exact Kd.C_nil _ _); (case side2 => exact Nat.le_refl _); rintro e w52 ⟨rfl, hb⟩; have n0_ := Aside0.mk (Kd.R_below (by exact HO218.out) hb); have n1_ := Aside0.mk (Kd.R_below (by exact HO222.out) hb); have n2_ := Aside0.mk (Kd.R_below (by exact HO232.out) hb); have n3_ := Aside0.mk (Kd.R_below (by exact HO235.out) hb); have n4_ := Aside0.mk (Kd.R_below (by exact HO239.out) hb); have n5_ := Aside0.mk (Kd.R_below (by exact HO247.out) hb); have n6_ := Aside0.mk (blk_below (g := gb219) (o := .cells #[.bool true, .slice Ao21 y216.length co21] 44 (0, 0)) (by exact BK219.out) hb); have n7_ := Aside0.mk (blk_below (g := gb241) (o := .cells #[.bool t236, .slice Ao38 t237.length co38] 44 (0, 0)) (by exact BK241.out) hb); have n8_ := Aside0.mk (blk_below (g := gb249) (o := .cells #[.bool t244, .slice Ao46 t245.length co46] 44 (0, 0)) (by exact BK249.out) hb); have n9_ := Aside0.mk (below_step (by repeat (first | (with_reducible first | exact HB.out | apply below_alloc | apply pw_below_drewN | apply below_drew1 | refine below_set ?_ GE219.out | refine below_set ?_ GE241.out | refine below_set ?_ GE249.out) | exact HB.out)) hb); clear HO218; clear HO222; clear HO232; clear HO235; clear HO239; clear HO247; clear BK219; clear BK241; clear BK249; clear HB; have HO218 := n0_; have HO222 := n1_; have HO232 := n2_; have HO235 := n3_; have HO239 := n4_; have HO247 := n5_; have BK219 := n6_; have BK241 := n7_; have BK249 := n8_; have HB := n9_; clear n0_ n1_ n2_ n3_ n4_ n5_ n6_ n7_ n8_ n9_; (try clear hb); (try clear hb2); (try clear hk); (try clear hi); (try clear hge)) | (go_at_call 20; (refine (node_Ok.calls k false _ _ ([] : List (S41)) t253 _ ?side1 ?side2 A18.out).mono ?_); (case side1 => exact Kd.C_nil _ _); (case side2 => exact Nat.le_refl _); rintro e w53 ⟨rfl, hb⟩; have n0_ := Aside0.mk (Kd.R_below (by exact HO218.out) hb); have n1_ := Aside0.mk (Kd.R_below (by exact HO222.out) hb); have n2_ := Aside0.mk (Kd.R_below (by exact HO232.out) hb); have n3_ := Aside0.mk (Kd.R_below (by exact HO235.out) hb); have n4_ := Aside0.mk (Kd.R_below (by exact HO239.out) hb); have n5_ := Aside0.mk (Kd.R_below (by exact HO247.out) hb); have n6_ := Aside0.mk (blk_below (g := gb219) (o := .cells #[.bool true, .slice Ao21 y216.length co21] 44 (0, 0)) (by exact BK219.out) hb); have n7_ := Aside0.mk (blk_below (g := gb241) (o := .cells #[.bool t236, .slice Ao38 t237.length co38] 44 (0, 0)) (by exact BK241.out) hb); have n8_ := Aside0.mk (blk_below (g := gb249) (o := .cells #[.bool t244, .slice Ao46 t245.length co46] 44 (0, 0)) (by exact BK249.out) hb); have n9_ := Aside0.mk (below_step (by repeat (first | (with_reducible first | exact HB.out | apply below_alloc | apply pw_below_drewN | apply below_drew1 | refine below_set ?_ GE219.out | refine below_set ?_ GE241.out | refine below_set ?_ GE249.out) | exact HB.out)) hb); clear HO218; clear HO222; clear HO232; clear HO235; clear HO239; clear HO247; clear BK219; clear BK241; clear BK249; clear HB; have HO218 := n0_; have HO222 := n1_; have HO232 := n2_; have HO235 := n3_; have HO239 := n4_; have HO247 := n5_; have BK219 := n6_; have BK241 := n7_; have BK249 := n8_; have HB := n9_; clear n0_ n1_ n2_ n3_ n4_ n5_ n6_ n7_ n8_ n9_; (try clear hb); (try clear hb2); (try clear hk); (try clear hi); (try clear hge)))
                      all_goals first | (go_ret; exact ⟨by first | rfl | (simp [errW_none, errW_some]; done) | (simp [errW_none, errW_some]; rfl) | (simp [*, errW_none, errW_some]; done) | (simp [*, errW_none, errW_some]; rfl), by repeat (first | (with_reducible first | exact HB.out | apply below_alloc | apply pw_below_drewN | apply below_drew1 | refine below_set ?_ GE219.out | refine below_set ?_ GE241.out | refine below_set ?_ GE249.out) | exact HB.out)⟩) | (exfalso; simp_all; done)
                · rw [if_neg c15] at H
                  exact absurd H (by simp)
              · rw [if_neg c14] at H
                exact absurd H (by simp)
            · rw [if_neg c12] at H
              exact absurd H (by simp)
          · replace c10 := Bool.eq_false_iff.mpr c10
            subst c10
            have H1 : (none) = some r := by rw [if_neg (show ¬ (false = true) by decide)] at H; exact H
            clear H
            have H := H1
            clear H1
            exact absurd H (by simp)
        · replace c8 := Bool.eq_false_iff.mpr c8
          subst c8
          have H1 : (none) = some r := by rw [if_neg (show ¬ (false = true) by decide)] at H; exact H
          clear H
          have H := H1
          clear H1
          exact absurd H (by simp)
      · replace c7 := Bool.eq_false_iff.mpr c7
        subst c7
        have H1 : (none) = some r := by rw [if_neg (show ¬ (false = true) by decide)] at H; exact H
        clear H
        have H := H1
        clear H1
        exact absurd H (by simp)
    · rw [if_neg c3] at H
      exact absurd H (by simp)
  · rw [if_neg c2] at H
    exact absurd H (by simp)

end Go.Proofs.Ytfhaffpegncdiaa.PN
