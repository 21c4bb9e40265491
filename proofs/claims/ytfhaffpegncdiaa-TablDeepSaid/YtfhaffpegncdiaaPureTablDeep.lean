/-
TablDeep: tables stand one in the other as deep as the bound says; each name once in each; a number of 32 bits only where it goes in.
-/
import Derived.Test.YtfhaffpegncdiaaTTablSpec
import Derived.Test.YtfhaffpegncdiaaPTx18
namespace Go.Proofs.Ytfhaffpegncdiaa.Pure
open Go.RowKit Go.Proofs.Ytfhaffpegncdiaa.PT Go.Proofs.YtfhaffpegncdiaaW.PrintWords Go.Proofs.YtfhaffpegncdiaaW.PrintLast Go.Proofs.YtfhaffpegncdiaaW.PrintMore
set_option linter.unusedVariables false
set_option linter.unusedSimpArgs false
namespace Dp
open Tb
def D : Nat → List S24
  | 0 => [⟨⟨#[120]⟩, 86, 0, ⟨#[]⟩, []⟩]
  | n + 1 => [⟨⟨#[120]⟩, 70, 0, ⟨#[]⟩, D n⟩]
theorem tame_D : ∀ (m n : Nat), tame m (D n) = true
  | 0, _ => by simp [tame]
  | m + 1, 0 => by
    refine tame_of (fun x hx => ?_)
    rw [List.mem_singleton.1 hx]
    exact ⟨⟨by decide, by decide⟩, by cases m <;> simp [tame]⟩
  | m + 1, n + 1 => by
    refine tame_of (fun x hx => ?_)
    rw [List.mem_singleton.1 hx]
    exact ⟨⟨show (⟨#[120]⟩ : ByteArray).size ≤ 1000000000 by decide, show (⟨#[]⟩ : ByteArray).size ≤ 1000000000 by decide⟩, tame_D m n⟩
theorem rng_D : ∀ (m n : Nat), rng m (D n)
  | 0, _ => trivial
  | m + 1, 0 => fun x hx => by
    rw [List.mem_singleton.1 hx]
    exact ⟨⟨by decide, by decide⟩, by cases m <;> simp [rng]⟩
  | m + 1, n + 1 => fun x hx => by
    rw [List.mem_singleton.1 hx]
    exact ⟨⟨show (-9223372036854775808 : Int) ≤ 0 by decide, show (0 : Int) ≤ 9223372036854775807 by decide⟩, rng_D m n⟩
theorem rows_D : ∀ n : Fin 12, (rowsP 8 (D n.val)).2 = decide (n.val < 8) := by decide +kernel
theorem one_ok (x : S24) (hl : (valP (rowsP 7) x).1.length ≤ 1000) : (rowsP 8 [x]).2 = ((valP (rowsP 7) x).2 && (decide (1 ≤ x.f0.size) && decide (x.f0.size ≤ 128))) := by
  by_cases h : good (valP (rowsP 7)) x
  · have hf : fine (valP (rowsP 7)) [x] := ⟨fun y hy => by rw [List.mem_singleton.1 hy]; exact h, by simp, by
      unfold encL
      rw [List.flatMap_cons, List.flatMap_nil, List.append_nil, rowP_len]
      have := h.2.2
      omega⟩
    rw [rowsP_fine 7 [x] hf]
    obtain ⟨h1, h2, h3⟩ := h
    simp [h1, h2, h3]
  · rw [rowsP_bad 7 [x] (fun hf => h (hf.1 x (by simp)))]
    unfold good at h
    simp only [Bool.false_eq, Bool.and_eq_false_iff, decide_eq_false_iff_not]
    by_cases h1 : (valP (rowsP 7) x).2 = true
    · by_cases h2 : 1 ≤ x.f0.size
      · exact .inr (.inr (fun h3 => h ⟨h1, h2, h3⟩))
      · exact .inr (.inl h2)
    · exact .inl (by simpa using h1)
theorem two_bad (x y : S24) (h : x.f0 = y.f0) : (rowsP 8 [x, y]).2 = false := by
  rw [rowsP_bad 7 [x, y] (fun hf => by
    have := hf.2.1
    simp [key, h] at this)]
theorem bare_nil (a : ByteArray) (k v : Int) : bare ⟨a, k, v, ⟨#[]⟩, []⟩ = true := by
  unfold bare
  have : (⟨#[]⟩ : ByteArray).toList.isEmpty = true := by decide +kernel
  simp [this]
theorem val_I (R : List S24 → List Int × Bool) (a : ByteArray) (v : Int) : valP R ⟨a, 73, v, ⟨#[]⟩, []⟩ = (be 4 (IntKind.u64.wrap v), decide (-2147483648 ≤ v) && decide (v ≤ 2147483647)) := by
  unfold valP
  simp [bare_nil]
theorem val_l (R : List S24 → List Int × Bool) (a : ByteArray) (v : Int) : valP R ⟨a, 108, v, ⟨#[]⟩, []⟩ = (be 8 (IntKind.u64.wrap v), true) := by
  unfold valP
  simp [bare_nil]
theorem tame_one (x : S24) (h0 : x.f0.size ≤ 200) (h3 : x.f3 = ⟨#[]⟩) (h4 : x.f4 = []) : tame1 7 x := by
  refine ⟨⟨by omega, by rw [h3]; decide⟩, by rw [h4]; simp [tame]⟩
theorem j1 (a1 : Int) (a2 : ByteArray) (h2 : a2.size ≤ 200) (n : Nat) (hn : n < 12) (k : Nat) (x11 : Bool) (hx : x11 = (decide (1 ≤ a2.size) && decide (a2.size ≤ 128))) :
    waybilllaw2_TablDeep.j1 (k + 1) ((n : Int) + 1) a1 (D n) [⟨a2, 73, a1, ⟨#[]⟩, []⟩] [⟨a2, 108, a1, ⟨#[]⟩, []⟩, ⟨a2, 86, 0, ⟨#[]⟩, []⟩] x11 = some true := by
  have ht := tame_D 8 n
  have t9 : tame 8 [⟨a2, 73, a1, ⟨#[]⟩, []⟩] = true := tame_of (fun x hx => by rw [List.mem_singleton.1 hx]; exact tame_one _ h2 rfl rfl)
  have t10 : tame 8 [⟨a2, 108, a1, ⟨#[]⟩, []⟩, ⟨a2, 86, 0, ⟨#[]⟩, []⟩] = true := tame_of (fun x hx => by
    rcases List.mem_cons.1 hx with rfl | hx
    · exact tame_one _ h2 rfl rfl
    · rw [List.mem_singleton.1 hx]; exact tame_one _ h2 rfl rfl)
  have t11 : tame 8 [⟨a2, 108, a1, ⟨#[]⟩, []⟩] = true := tame_of (fun x hx => by rw [List.mem_singleton.1 hx]; exact tame_one _ h2 rfl rfl)
  have hr := rows_D ⟨n, hn⟩
  have hr : (rowsP 8 (D n)).2 = decide (n < 8) := hr
  have hd : decide ((n : Int) + 1 ≤ 8) = decide (n < 8) := by rw [Bool.eq_iff_iff]; simp only [decide_eq_true_eq]; omega
  have o9 : (rowsP 8 [⟨a2, 73, a1, ⟨#[]⟩, []⟩]).2 = ((decide (-2147483648 ≤ a1) && decide (a1 ≤ 2147483647)) && x11) := by
    rw [one_ok _ (by rw [val_I]; simp [be_len]), val_I, hx]
  have o10 : (rowsP 8 [⟨a2, 108, a1, ⟨#[]⟩, []⟩, ⟨a2, 86, 0, ⟨#[]⟩, []⟩]).2 = false := two_bad _ _ rfl
  have o11 : (rowsP 8 [⟨a2, 108, a1, ⟨#[]⟩, []⟩]).2 = x11 := by
    rw [one_ok _ (by rw [val_l]; simp [be_len]), val_l, hx]
    simp
  have he : decide (a1 < 2147483648) = decide (a1 ≤ 2147483647) := by rw [Bool.eq_iff_iff]; simp only [decide_eq_true_eq]; omega
  have hp : ∃ P, tabl_Parse.f (rowsP 8 (D n)).1 = some P ∧ (n < 8 → P = (D n, true)) := by
    by_cases h8 : n < 8
    · exact ⟨_, parse_told (D n) (rng_D 8 n) (by rw [hr]; exact decide_eq_true h8), fun _ => rfl⟩
    · exact ⟨_, parse_f _ (rowsP_oct 8 _), fun h => absurd h h8⟩
  obtain ⟨P, hP, hP2⟩ := hp
  have hs : (Tb.sameL (D n) (D n)) = true := (Tb.sameL_iff _ _).2 rfl
  simp only [waybilllaw2_TablDeep.j1, append_f [] (D n) ht (by simp), Option.bind_some, List.nil_append, hP, ok_f _ ht, ok_f _ t9, ok_f _ t10, List.take_succ_cons, List.take_zero, ok_f _ t11, o9, o10, o11, hr, hd, awake_ok, he, waybillref1_SameTable.f]
  by_cases h8 : n < 8
  · have := hP2 h8
    subst this
    by_cases c1 : a1 ≥ -2147483648 <;> by_cases c2 : a1 ≤ 2147483647 <;> cases x11 <;> simp [h8, c1, c2, hs] <;> omega
  · by_cases c1 : a1 ≥ -2147483648 <;> by_cases c2 : a1 ≤ 2147483647 <;> cases x11 <;> simp [h8, c1, c2, hs] <;> omega
theorem loop (a1 : Int) (a2 : ByteArray) (h2 : a2.size ≤ 200) (N : Nat) (hN : N < 12) : ∀ (d i : Nat), i + d = N → waybilllaw2_TablDeep.l0 (d + 2) ((N : Int) + 1) a1 a2 (D i) ((i : Int) + 1) = some true := by
  intro d
  induction d with
  | zero =>
    intro i hi
    have : i = N := by omega
    subst this
    rw [waybilllaw2_TablDeep.l0.eq_2, if_neg (by omega), Option.bind_some, Option.bind_some]
    by_cases h1 : (a2.size : Int) ≥ 1
    · rw [if_pos h1]
      refine j1 a1 a2 h2 i hN 0 _ ?_
      rw [decide_eq_true (by omega : 1 ≤ a2.size), Bool.true_and, Bool.eq_iff_iff]
      simp only [decide_eq_true_eq]
      omega
    · rw [if_neg h1]
      refine j1 a1 a2 h2 i hN 0 _ ?_
      rw [decide_eq_false (by omega : ¬ 1 ≤ a2.size), Bool.false_and]
  | succ d ih =>
    intro i hi
    have hw : wrap64 ((i : Int) + 1 + 1) = ((i + 1 : Nat) : Int) + 1 := by unfold wrap64; omega
    rw [waybilllaw2_TablDeep.l0.eq_2, if_pos (by omega), hw]
    exact ih (i + 1) (by omega)
theorem and255 (x : Int) : 0 ≤ Go.bits .and .i64 x 255 ∧ Go.bits .and .i64 x 255 ≤ 255 := by
  unfold Go.bits
  have h1 : (BitVec.ofInt (IntKind.i64.bits) x &&& BitVec.ofInt (IntKind.i64.bits) 255).toNat ≤ 255 := by
    rw [BitVec.toNat_and]
    have : (BitVec.ofInt (IntKind.i64.bits) 255).toNat = 255 := by decide
    rw [this]
    exact Nat.and_le_right
  simp only []
  rw [IntKind.wrap_i64]
  omega
end Dp
theorem TablDeep : waybilllaw2_TablDeep.Pure := by
  intro a0 a1 a2 h0 h1 h2
  unfold waybilllaw2_TablDeep.f
  by_cases hs : (a2.size : Int) > 200
  · exact ⟨0, by rw [if_pos hs, Tb.awake_ok]; rfl⟩
  · have hb := Dp.and255 a0
    generalize Go.bits .and .i64 a0 255 = X at hb
    obtain ⟨N, hN, hN2⟩ : ∃ N : Nat, wrap64 (Int.tmod X 12 + 1) = (N : Int) + 1 ∧ N < 12 := ⟨(X % 12).toNat, by rw [Int.tmod_eq_emod_of_nonneg hb.1]; unfold wrap64; omega, by omega⟩
    refine ⟨N + 2, ?_⟩
    rw [if_neg hs, hN]
    exact Dp.loop a1 a2 (by omega) N hN2 N 0 (by omega)
end Go.Proofs.Ytfhaffpegncdiaa.Pure
