/-
In a leaf a key stands where it is, or would be put; in another node the way goes to the last row that is not above it: for any node and any key.
-/
import Derived.Test.YtfhaffpegncdiaaNNodeTame
import Derived.Test.YtfhaffpegncdiaaNOctsAwake10
import Derived.Test.YtfhaffpegncdiaaPNStNodeFind
namespace Go.Proofs.Ytfhaffpegncdiaa.Pure
open Go.RowKit Go.Proofs.Ytfhaffpegncdiaa.PN Go.Proofs.YtfhaffpegncdiaaW.PrintWords Go.Proofs.YtfhaffpegncdiaaW.PrintLast Go.Proofs.YtfhaffpegncdiaaW.PrintMore
set_option linter.unusedVariables false
set_option linter.unusedSimpArgs false
theorem at_one {l : List S41} {s : List UInt8} {p q : Nat} (hp : At l s p) (hq : At l s q) : p = q := by
  have lp := hp.le
  have lq := hq.le
  by_cases h1 : p < q
  · have a := hq.lo p h1
    rw [hp.hi p (Nat.le_refl _) (by omega)] at a
    cases a
  · by_cases h2 : q < p
    · have a := hp.lo q h2
      rw [hq.hi q (Nat.le_refl _) (by omega)] at a
      cases a
    · omega
theorem l1_f (r : List S41) (hr : r.length ≤ 40) (ha : Asc r) (s : ByteArray) (p : Nat) (hat : At r s.toList p) (x1 : ByteArray) (x7 : Int) (lf : Bool) : ∀ (d t k : Nat), r.length - t = d → t ≤ r.length →
    waybilllaw10_NodeFind.l1 (k + d + 1) x1 x7 s ((min t p : Nat) : Int) (decide (p < t ∧ ky r p = s.toList)) (t : Int) lf r = (if lf = true then waybilllaw10_NodeFind.j4 k x1 x7 s (p : Int) (isAt r s.toList p) (p : Int) false lf r else waybilllaw10_NodeFind.j4 k x1 x7 s (p : Int) (isAt r s.toList p) (p : Int) (!isAt r s.toList p) lf r) := by
  have hle := hat.le
  intro d
  induction d with
  | zero =>
    intro t k hd ht
    have e : t = r.length := by omega
    subst e
    rw [show k + 0 + 1 = k + 1 from rfl, waybilllaw10_NodeFind.l1, if_neg (by omega), show min r.length p = p by omega]
    rfl
  | succ d ih =>
    intro t k hd ht
    have hky : (rd_T41 r (t : Int)).f0.toList = ky r t := rfl
    rw [show k + (d + 1) + 1 = (k + d + 1) + 1 by omega, waybilllaw10_NodeFind.l1, if_pos (by omega), if_pos (by omega), hky, w_next t (by omega)]
    have ihs := ih (t + 1) k (by omega) (by omega)
    by_cases hb : t < p
    · have hl := hat.lo t hb
      have hne : ¬ ky r t = s.toList := fun e => by rw [e, less_irrefl] at hl; cases hl
      have e1 : decide (p < t ∧ ky r p = s.toList) = false := decide_eq_false (fun h => by omega)
      have e2 : decide (p < t + 1 ∧ ky r p = s.toList) = false := decide_eq_false (fun h => by omega)
      have e3 : (ky r t == s.toList) = false := beq_eq_false_iff_ne.2 hne
      rw [if_pos hl, e1, if_neg (by decide), e3, w_next (min t p) (by omega), show min t p + 1 = min (t + 1) p by omega]
      rw [e2] at ihs
      exact ihs
    · have hl := hat.hi t (by omega) (by omega)
      rw [hl, if_neg (by decide), show min t p = min (t + 1) p by omega]
      by_cases hx : p < t ∧ ky r p = s.toList
      · rw [decide_eq_true hx, if_pos rfl]
        rw [decide_eq_true (show p < t + 1 ∧ ky r p = s.toList from ⟨by omega, hx.2⟩)] at ihs
        exact ihs
      · rw [decide_eq_false hx, if_neg (by decide)]
        have e3 : (ky r t == s.toList) = decide (p < t + 1 ∧ ky r p = s.toList) := by
          rw [Bool.eq_iff_iff, beq_iff_eq, decide_eq_true_eq]
          by_cases hpt : p = t
          · subst hpt
            exact ⟨fun e => ⟨by omega, e⟩, fun e => e.2⟩
          · have hlt : p < t := by omega
            constructor
            · intro e
              have h1 := ha p t hlt (by omega)
              rw [e, hat.hi p (Nat.le_refl _) (by omega)] at h1
              cases h1
            · intro e
              exact absurd ⟨hlt, e.2⟩ hx
        rw [e3]
        exact ihs
theorem w_back (p : Nat) (h : p < 100000) : wrap64 ((p : Int) - 1) = (p : Int) - 1 := by unfold wrap64; omega
theorem j4_t (r : List S41) (hr : r.length ≤ 40) (ha : Asc r) (s : ByteArray) (p : Nat) (hat : At r s.toList p) (x1 : ByteArray) (x7 : Int) (lf : Bool) (k : Nat) (hk : 100 ≤ k) :
    (if lf = true then waybilllaw10_NodeFind.j4 (k + 1) x1 x7 s (p : Int) (isAt r s.toList p) (p : Int) false lf r else waybilllaw10_NodeFind.j4 (k + 1) x1 x7 s (p : Int) (isAt r s.toList p) (p : Int) (!isAt r s.toList p) lf r) = waybilllaw10_NodeFind.l0 k x1 (wrap64 (x7 + 1)) lf r := by
  have hle := hat.le
  obtain ⟨q, hq, hf⟩ := find_f k lf r (by omega) ha s (by omega)
  have e := at_one hq hat
  subst e
  cases lf with
  | true =>
    rw [if_pos (Or.inl rfl)] at hf
    rw [if_pos rfl, waybilllaw10_NodeFind.j4, if_neg (by decide), hf, Option.bind_some]
    dsimp only
    rw [if_pos (Eq.refl _), if_neg (by simp)]
  | false =>
    rw [if_neg (by decide)]
    cases hi : isAt r s.toList q with
    | true =>
      rw [hi, if_pos (Or.inr rfl)] at hf
      rw [waybilllaw10_NodeFind.j4, if_neg (by decide), hf, Option.bind_some]
      dsimp only
      rw [if_pos (Eq.refl _), if_neg (by simp)]
    | false =>
      rw [hi, if_neg (by simp)] at hf
      rw [waybilllaw10_NodeFind.j4, if_pos (by decide), hf, Option.bind_some, w_back q (by omega)]
      dsimp only
      rw [if_pos (Eq.refl _), if_neg (by simp)]
theorem round_f (r : List S41) (hr : r.length ≤ 40) (ha : Asc r) (s : ByteArray) (x1 : ByteArray) (x7 : Int) (lf : Bool) (k : Nat) (hk : 100 ≤ k) :
    waybilllaw10_NodeFind.j2 (k + 1 + r.length + 1 + 1) x1 x7 s lf r = waybilllaw10_NodeFind.l0 k x1 (wrap64 (x7 + 1)) lf r := by
  obtain ⟨p, hat, _⟩ := find_f 1000 lf r (by omega) ha s (by omega)
  rw [waybilllaw10_NodeFind.j2]
  have h := l1_f r hr ha s p hat x1 x7 lf r.length 0 (k + 1) (by omega) (by omega)
  rw [show min 0 p = 0 by omega, decide_eq_false (show ¬ (p < 0 ∧ ky r p = s.toList) from fun h => by omega)] at h
  exact h.trans (j4_t r hr ha s p hat x1 x7 lf k hk)
theorem l0_f (r : List S41) (hr : r.length ≤ 40) (ha : Asc r) (x1 : ByteArray) (lf : Bool) : ∀ (d i k : Nat), r.length + 1 - i = d → i ≤ r.length + 1 → 50 * d + 400 ≤ k → waybilllaw10_NodeFind.l0 k x1 ((i : Int) - 1) lf r = some true := by
  intro d
  induction d with
  | zero =>
    intro i k hd hi hk
    obtain ⟨k, rfl⟩ : ∃ k', k = k' + 1 := ⟨k - 1, by omega⟩
    rw [waybilllaw10_NodeFind.l0, if_neg (by omega), awake10_ok k (by omega)]
    rfl
  | succ d ih =>
    intro i k hd hi hk
    obtain ⟨k, rfl⟩ : ∃ k', k = k' + 1 + r.length + 1 + 1 + 1 := ⟨k - (r.length + 4), by omega⟩
    have e : wrap64 ((i : Int) - 1 + 1) = ((i + 1 : Nat) : Int) - 1 := by unfold wrap64; omega
    have step := ih (i + 1) k (by omega) (by omega) (by omega)
    rw [waybilllaw10_NodeFind.l0, if_pos (by omega)]
    by_cases h0 : (i : Int) - 1 ≥ 0
    · rw [if_pos h0, if_pos (by omega), round_f r hr ha _ x1 _ lf k (by omega), e]
      exact step
    · rw [if_neg h0, round_f r hr ha _ x1 _ lf k (by omega), e]
      exact step
theorem j0_f (l : List S41) (lf : Bool) (hl : l.length ≤ 200) (a1 : ByteArray) (b : Bool) : waybilllaw10_NodeFind.j0 (3000 + 1) a1 b lf l = some true := by
  rw [waybilllaw10_NodeFind.j0]
  cases b with
  | true => rw [if_pos rfl, awake10_ok 3000 (by omega)]; rfl
  | false =>
    obtain ⟨r, hf, ha, hr⟩ := tame_f l lf hl 3000 (by omega)
    rw [if_neg (by decide), hf, Option.bind_some]
    dsimp only
    by_cases h0 : r.length = 0
    · obtain ⟨p, hat, hff⟩ := find_f 3000 lf r (by omega) ha a1 (by omega)
      have hle := hat.le
      have hi : isAt r a1.toList p = false := decide_eq_false (fun h => by omega)
      have hp : p = 0 := by omega
      subst hp
      rw [if_pos (by omega), hff, hi, Option.bind_some]
      have m0 : mx (((0 : Nat) : Int) - 1) 0 = 0 := by decide
      cases lf with
      | true =>
        rw [if_pos (Or.inl rfl)]
        dsimp only
        rw [if_pos (by decide), if_neg (by decide), awake10_ok 3000 (by omega)]
        rfl
      | false =>
        rw [if_neg (show ¬ (false = true ∨ false = true) by decide)]
        dsimp only
        rw [if_pos m0, if_neg (by decide), awake10_ok 3000 (by omega)]
        rfl
    · rw [if_neg (by omega)]
      exact l0_f r hr ha a1 lf (r.length + 1) 0 3000 (by omega) (by omega) (by omega)
theorem NodeFind : waybilllaw10_NodeFind.Pure := by
  intro x0 a1 o0 h1
  refine ⟨3001, ?_⟩
  unfold waybilllaw10_NodeFind.f
  obtain ⟨t, ht, hs⟩ := small_f x0.f1 x0.f0 3001 (by omega)
  rw [ht, Option.bind_some]
  cases t with
  | true => rw [if_pos rfl]; exact j0_f x0.f1 x0.f0 (hs rfl) a1 _
  | false =>
    rw [if_neg (by decide), show (3001 : Nat) = 3000 + 1 from rfl, waybilllaw10_NodeFind.j0, if_pos rfl, awake10_ok 3000 (by omega)]
    rfl
end Go.Proofs.Ytfhaffpegncdiaa.Pure
