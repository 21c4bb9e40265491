/-
Any node may be, or not, as the document says, has the size and the octets that it says; any octets are a node, or none: for any octets, any node, any place, any byte, any cut.
Conditions: none but those of the statement.
-/
import Derived.Test.YtfhaffpegncdiaaPNStNodeTells
import Derived.Test.YtfhaffpegncdiaaBaseNodeTells
namespace Go.Proofs.Ytfhaffpegncdiaa.Pure
open Go.RowKit Go.Proofs.Ytfhaffpegncdiaa.PN Go.Proofs.YtfhaffpegncdiaaW.PrintWords Go.Proofs.YtfhaffpegncdiaaW.PrintLast Go.Proofs.YtfhaffpegncdiaaW.PrintMore
set_option linter.unusedVariables false
set_option linter.unusedSimpArgs false
theorem xor_oct (a b : Int) : 0 ≤ Go.bits .xor .u8 a b ∧ Go.bits .xor .u8 a b < 256 := by
  unfold Go.bits
  simp only [IntKind.bits]
  have := (BitVec.ofInt 8 a ^^^ BitVec.ofInt 8 b).isLt
  rw [IntWalk.u8_in _ (by omega)]
  omega
theorem oct_set {l : List Int} (h : Oct l) (i : Nat) (v : Int) (hv : 0 ≤ v ∧ v < 256) : Oct (l.set i v) := by
  intro x hx
  rcases List.mem_or_eq_of_mem_set hx with hx | rfl
  · exact h x hx
  · exact hv
theorem oct_pick (a b c d : List Int) (ha : Oct a ∧ a.length ≤ 720) (hb : Oct b ∧ b.length ≤ 720) (hc : Oct c ∧ c.length ≤ 720) (hd : Oct d ∧ d.length ≤ 720) (i : Nat) : Oct (([a, b, c, d] : List (List Int)).getD i []) ∧ (([a, b, c, d] : List (List Int)).getD i []).length ≤ 720 := by
  match i with
  | 0 => exact ha
  | 1 => exact hb
  | 2 => exact hc
  | 3 => exact hd
  | n + 4 => exact ⟨oct_nil, by show 0 ≤ 720; omega⟩
theorem cut_in (cut : Int) (n : Nat) (hn : 1 ≤ n) : ∃ c : Int, Int.tmod (Go.bits .and .i64 cut 65535) (n : Int) = c ∧ 0 ≤ c ∧ c < (n : Int) := by
  have hm := and16 cut
  have ht := tmod_in (Go.bits .and .i64 cut 65535) (n : Int) hm.1 (by omega)
  exact ⟨_, rfl, ht.1, ht.2⟩
theorem smallB_l0 (l : List S41) (lf : Bool) (hl : l.length ≤ 200) : ∀ (d j k : Nat), l.length - j = d → j ≤ l.length → d < k → ∃ t, waybilllaw10_Small.l0 k (j : Int) lf l = some t ∧ (t = true → ∀ i, j ≤ i → i < l.length → (rd_T41 l (i : Int)).f0.size ≤ 300 ∧ (rd_T41 l (i : Int)).f1.size ≤ 300) := by
  intro d
  induction d with
  | zero =>
    intro j k hd hj hk
    obtain ⟨k, rfl⟩ : ∃ k', k = k' + 1 := ⟨k - 1, by omega⟩
    exact ⟨true, by rw [waybilllaw10_Small.l0, if_neg (by omega)], fun _ i h1 h2 => by omega⟩
  | succ d ih =>
    intro j k hd hj hk
    obtain ⟨k, rfl⟩ : ∃ k', k = k' + 1 := ⟨k - 1, by omega⟩
    rw [waybilllaw10_Small.l0, if_pos (by omega), if_pos (by omega), w_next j (by omega)]
    by_cases h1 : ((rd_T41 l (j : Int)).f0.size : Int) > 300
    · rw [if_pos h1]; exact ⟨_, rfl, fun e => by cases e⟩
    · rw [if_neg h1]
      by_cases h2 : ((rd_T41 l (j : Int)).f1.size : Int) > 300
      · rw [if_pos h2]; exact ⟨_, rfl, fun e => by cases e⟩
      · rw [if_neg h2]
        obtain ⟨t, e, ht⟩ := ih (j + 1) k (by omega) (by omega) (by omega)
        refine ⟨t, e, fun et i hi1 hi2 => ?_⟩
        by_cases e2 : i = j
        · rw [e2]; omega
        · exact ht et i (by omega) hi2
/-- Rows that Small lets in. -/
def NB (l : List S41) : Prop := l.length ≤ 200 ∧ ∀ x ∈ l, x.f0.size ≤ 1000 ∧ x.f1.size ≤ 1000
theorem NB.rb {l : List S41} (h : NB l) : RB l := ⟨by have := h.1; omega, h.2⟩
theorem smallB_f (l : List S41) (lf : Bool) (k : Nat) (hk : 400 ≤ k) : ∃ t, waybilllaw10_Small.f k lf l = some t ∧ (t = true → NB l) := by
  unfold waybilllaw10_Small.f
  by_cases h : (l.length : Int) > 200
  · rw [if_pos h]; exact ⟨false, rfl, fun e => by cases e⟩
  · obtain ⟨t, ht, hs⟩ := smallB_l0 l lf (by omega) l.length 0 k (by omega) (by omega) (by omega)
    rw [if_neg h]
    refine ⟨t, ht, fun et => ⟨by omega, fun x hx => ?_⟩⟩
    obtain ⟨i, hi, e⟩ := List.getElem_of_mem hx
    have := hs et i (by omega) hi
    rw [rd_get l i hi, e] at this
    omega
theorem tamed_NB {lf : Bool} {r : List S41} (h : TamedG lf r) : NB r := by
  obtain ⟨_, h1, h2, _⟩ := h
  refine ⟨by omega, fun x hx => ?_⟩
  obtain ⟨q0, q1, q2, q3⟩ := h2 x hx
  cases lf with
  | true => have := (q2 rfl).1; omega
  | false => have := (q3 rfl).1; rw [this]; exact ⟨by omega, by show 0 ≤ 1000; omega⟩
theorem N_step (lf : Bool) (l : List S41) (x0 w x : List Int) (a b c i : Int) (h0 : Oct x0 ∧ x0.length ≤ 720) (hw : Oct w ∧ w.length ≤ 512) (hx : Oct x ∧ x.length ≤ 720) (hb : 0 ≤ b ∧ b < 256) (q : Nat) (hq : q < 4) (k : Nat) (hk : 200000 ≤ k) :
    waybilllaw10_NodeTells.l1 (k + 1) x0 a b c i w x (q : Int) lf l = waybilllaw10_NodeTells.l1 k x0 a b c i w x ((q + 1 : Nat) : Int) lf l := by
  obtain ⟨z, hz, hz0, hz1⟩ := cut_in c (w.length + 1) (by omega)
  have hzA := Aside0.mk hz
  clear hz
  have hwl : wrap64 ((w.length : Int) + 1) = ((w.length + 1 : Nat) : Int) := w_next _ (by omega)
  have hwlA := Aside0.mk hwl
  clear hwl
  have ob : Oct [0, 0, b] := by
    intro y hy
    simp only [List.mem_cons, List.not_mem_nil, or_false] at hy
    rcases hy with rfl | rfl | rfl
    · omega
    · omega
    · exact hb
  obtain ⟨y, hy⟩ : ∃ y, ([x0, x, w.take (z : Int).toNat, (w ++ [0, 0, b])] : List (List Int)).getD (q : Int).toNat [] = y := ⟨_, rfl⟩
  have hoy : Oct y ∧ y.length ≤ 720 := by
    rw [← hy]
    exact oct_pick _ _ _ _ h0 hx ⟨oct_take hw.1 _, by rw [List.length_take]; omega⟩ ⟨oct_app hw.1 ob, by rw [List.length_append]; show w.length + 3 ≤ 720; omega⟩ _
  have hpl := parseU_len y hoy.2
  have q0 : (q : Int) < 4 := by omega
  have q1 : ¬ ((w.length + 1 : Nat) : Int) = 0 := by omega
  have q3 : z ≤ (w.length : Int) := by omega
  have q4 : (0 : Int) ≤ (q : Int) := by omega
  have q5 : ([] : List Int).length + w.length < 140737488355328 := by rw [List.length_nil]; omega
  have q6 : w.length + ([0, 0, b] : List Int).length < 140737488355328 := by show w.length + 3 < _; omega
  rw [waybilllaw10_NodeTells.l1, if_pos q0, hwlA.out, if_neg q1, hzA.out, if_pos hz0, if_pos q3, Option.bind_some, if_pos q5, Option.bind_some, Option.bind_some, List.nil_append, if_pos q6, if_pos q4, Option.bind_some, hy,
    PB_f y hoy.1 hoy.2 k hk, Option.bind_some, RB_f y hoy.1 hoy.2 k hk, Option.bind_some, if_neg (by simp), sameB_f _ _ hpl k (by omega), Option.bind_some, if_pos rfl, w_next q (by omega)]
theorem N_all (lf : Bool) (l : List S41) (x0 w x : List Int) (a b c i : Int) (h0 : Oct x0 ∧ x0.length ≤ 720) (hw : Oct w ∧ w.length ≤ 512) (hx : Oct x ∧ x.length ≤ 720) (hb : 0 ≤ b ∧ b < 256) (k : Nat) (hk : 200000 ≤ k) :
    waybilllaw10_NodeTells.l1 (k + 1 + 1 + 1 + 1) x0 a b c i w x 0 lf l = waybilllaw10_NodeTells.l1 k x0 a b c i w x 4 lf l := by
  have e0 := N_step lf l x0 w x a b c i h0 hw hx hb 0 (by omega) (k + 1 + 1 + 1) (by omega)
  have e1 := N_step lf l x0 w x a b c i h0 hw hx hb 1 (by omega) (k + 1 + 1) (by omega)
  have e2 := N_step lf l x0 w x a b c i h0 hw hx hb 2 (by omega) (k + 1) (by omega)
  have e3 := N_step lf l x0 w x a b c i h0 hw hx hb 3 (by omega) k hk
  exact e0.trans (e1.trans (e2.trans e3))
def wOf (lf : Bool) (l : List S41) : List Int := if okU lf l = true then nodeOct lf l else []
theorem wOf_ok (lf : Bool) (l : List S41) : Oct (wOf lf l) ∧ (wOf lf l).length ≤ 512 := by
  unfold wOf
  by_cases h : okU lf l = true
  · rw [if_pos h]
    have := okU_len h
    exact ⟨nodeOct_oct _ _, by rw [nodeOct_len]; exact this⟩
  · rw [if_neg h]; exact ⟨oct_nil, by show 0 ≤ 512; omega⟩
theorem N_j3 (lf : Bool) (l : List S41) (x0 w : List Int) (a b c i : Int) (hw : Oct w ∧ w.length ≤ 512) (k : Nat) :
    ∃ x, (Oct x ∧ x.length ≤ 720) ∧ waybilllaw10_NodeTells.j3 (k + 1 + 1) x0 a b c i w w lf l = waybilllaw10_NodeTells.l1 k x0 a b c i w x 0 lf l := by
  by_cases hp : (w.length : Int) > 0
  · obtain ⟨z, hz, hz0, hz1⟩ := cut_in a w.length (by omega)
    refine ⟨w.set z.toNat (Go.bits .xor .u8 (rd w z) b), ⟨oct_set hw.1 _ _ (xor_oct _ _), by rw [List.length_set]; omega⟩, ?_⟩
    rw [waybilllaw10_NodeTells.j3, if_pos rfl, Option.bind_some, if_pos (by simp; omega), Option.bind_some, List.nil_append, if_pos hp, if_neg (by omega), hz, if_pos hz0, if_pos hz1, waybilllaw10_NodeTells.j4]
  · refine ⟨w, ⟨hw.1, by omega⟩, ?_⟩
    rw [waybilllaw10_NodeTells.j3, if_pos rfl, Option.bind_some, if_pos (by simp; omega), Option.bind_some, List.nil_append, if_neg hp, waybilllaw10_NodeTells.j4]
theorem N_j2 (lf : Bool) (l : List S41) (h : NB l) (x0 : List Int) (a b c i : Int) (k : Nat) (hk : 200000 ≤ k) :
    ∃ x, (Oct x ∧ x.length ≤ 720) ∧ waybilllaw10_NodeTells.j2 (k + 1 + 1 + 1) x0 a b c i (wOf lf l) (okU lf l) false lf l = waybilllaw10_NodeTells.l1 k x0 a b c i (wOf lf l) x 0 lf l := by
  obtain ⟨x, hx, e⟩ := N_j3 lf l x0 (wOf lf l) a b c i (wOf_ok lf l) k
  refine ⟨x, hx, ?_⟩
  rw [waybilllaw10_NodeTells.j2, if_neg (show ¬ (false = true) by decide)]
  by_cases hb : okU lf l = true
  · have ew : wOf lf l = nodeOct lf l := by unfold wOf; rw [if_pos hb]
    rw [ew] at e ⊢
    rw [if_pos hb, RNode_f lf l h.rb hb (k + 1 + 1) (by omega), Option.bind_some]
    exact e
  · have ew : wOf lf l = [] := by unfold wOf; rw [if_neg hb]
    rw [ew] at e ⊢
    rw [if_neg hb]
    exact e
theorem N_round (lf : Bool) (l : List S41) (h : NB l) (x0 : List Int) (a b c : Int) (i : Nat) (hi : i < 2) (h0 : Oct x0 ∧ x0.length ≤ 720) (hb : 0 ≤ b ∧ b < 256) (k : Nat) (hk : 200000 ≤ k) :
    ∃ r, NB r ∧ waybilllaw10_NodeTells.l0 (k + 9) x0 a b c (i : Int) lf l = waybilllaw10_NodeTells.l0 k x0 a b c ((i + 1 : Nat) : Int) lf r := by
  obtain ⟨r, hf, hr⟩ := tameg_f l lf h.1 k (by omega)
  obtain ⟨x, hx, e⟩ := N_j2 lf l h x0 a b c (i : Int) (k + 5) (by omega)
  have e2 := N_all lf l x0 (wOf lf l) x a b c (i : Int) h0 (wOf_ok lf l) hx hb (k + 1) (by omega)
  refine ⟨r, tamed_NB hr, ?_⟩
  have ew : (if okU lf l = true then (nodeOct lf l, true) else (([] : List Int), false)) = (wOf lf l, okU lf l) := by
    unfold wOf
    by_cases hb : okU lf l = true
    · rw [if_pos hb, if_pos hb, hb]
    · rw [if_neg hb, if_neg hb, Bool.eq_false_iff.2 hb]
  rw [show k + 9 = (k + 5 + 1 + 1 + 1) + 1 by omega, waybilllaw10_NodeTells.l0, if_pos (by omega), appB_f lf l h.rb _ (by omega), Option.bind_some, ROkB_f lf l h.rb _ (by omega), Option.bind_some, ew]
  dsimp only
  rw [if_neg (by simp), OkB_f lf l h.rb _ (by omega), Option.bind_some, if_neg (by simp), SizeB_f lf l h.rb _ (by omega), Option.bind_some, RSizeB_f lf l h.rb _ (by omega), Option.bind_some, show (((3 + rowsLen lf l : Nat) : Int) != ((3 + rowsLen lf l : Nat) : Int)) = false by simp, e]
  refine e2.trans ?_
  rw [waybilllaw10_NodeTells.l1, if_neg (by omega), hf, Option.bind_some, w_next i (by omega)]
theorem NodeTells : waybilllaw10_NodeTells.Pure := by
  intro l0 x1 a b c hl _ _ hbw _
  have hol := oct_wf hl.2
  have hb : 0 ≤ b ∧ b < 256 := by
    have := oct_wf (l := [b]) (fun y hy => by rw [List.mem_singleton] at hy; rw [hy]; exact hbw)
    exact this b (by simp)
  refine ⟨300000, ?_⟩
  have haw : waybilllaw10_NodeTells.j0 300000 l0 a b c true x1.f0 x1.f1 = some true := by
    rw [show (300000 : Nat) = 299999 + 1 from rfl, waybilllaw10_NodeTells.j0, if_pos rfl, awake10_ok 299999 (by omega), Option.bind_some]
  unfold waybilllaw10_NodeTells.f
  by_cases hr : (l0.length : Int) > 700
  · rw [if_pos hr]; exact haw
  · rw [if_neg hr]
    obtain ⟨t, ht, hs⟩ := smallB_f x1.f1 x1.f0 300000 (by omega)
    rw [ht, Option.bind_some]
    cases t with
    | false => exact haw
    | true =>
      have h0 : Oct l0 ∧ l0.length ≤ 720 := ⟨hol, by omega⟩
      obtain ⟨r1, hn1, e1⟩ := N_round x1.f0 x1.f1 (hs rfl) l0 a b c 0 (by omega) h0 hb 299990 (by omega)
      obtain ⟨r2, hn2, e2⟩ := N_round x1.f0 r1 hn1 l0 a b c 1 (by omega) h0 hb 299981 (by omega)
      show waybilllaw10_NodeTells.j0 300000 l0 a b c false x1.f0 x1.f1 = some true
      rw [show (300000 : Nat) = 299990 + 9 + 1 from rfl, waybilllaw10_NodeTells.j0, if_neg (show ¬ (false = true) by decide)]
      refine e1.trans ?_
      rw [show (299990 : Nat) = 299981 + 9 from rfl]
      refine e2.trans ?_
      rw [show (299981 : Nat) = 299980 + 1 from rfl, waybilllaw10_NodeTells.l0, if_neg (by omega), awake10_ok 299980 (by omega), Option.bind_some]
end Go.Proofs.Ytfhaffpegncdiaa.Pure
