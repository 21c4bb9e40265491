/-
A node is read as it was told, whatever noughts stand behind it: for any node, any number of noughts.
-/
import Derived.Test.YtfhaffpegncdiaaNNodeOct
import Derived.Test.YtfhaffpegncdiaaNOctsAwake10
import Derived.Test.YtfhaffpegncdiaaPNStNodeBack
namespace Go.Proofs.Ytfhaffpegncdiaa.Pure
open Go.RowKit Go.Proofs.Ytfhaffpegncdiaa.PN Go.Proofs.YtfhaffpegncdiaaW.PrintWords Go.Proofs.YtfhaffpegncdiaaW.PrintLast Go.Proofs.YtfhaffpegncdiaaW.PrintMore
set_option linter.unusedVariables false
set_option linter.unusedSimpArgs false
theorem In_Rest (l : List Int) (hl : l.length < 140737488355328) : octs_In_Rest.f l false = some (l, [], false) := by
  unfold octs_In_Rest.f
  rw [u64_id _ (by omega) (by omega), take_f l _ (by omega) hl, if_neg (by omega), Option.bind_some]
  simp
theorem ok_ff (l : List Int) : octs_In_Ok.f l false = some (true, l, false) := rfl
theorem zs_oct (n : Nat) : Oct (List.replicate n (0 : Int)) := by
  intro x hx
  have := List.eq_of_mem_replicate hx
  omega
theorem zs_rd (n i : Nat) : rd (List.replicate n (0 : Int)) (i : Int) = 0 := by
  rw [rd_at, List.getD_eq_getElem?_getD, List.getElem?_replicate]
  split <;> rfl
theorem zeros_l1 (lf : Bool) (r : List S41) (h : TamedG lf r) (hb : (lf || decide (0 < r.length)) = true) (n : Nat) (hn : n ≤ 300) : ∀ (d i k : Nat), n - i = d → i ≤ n → d + 600 < k →
    node_Parse.l1 k true (List.replicate n 0) (n : Int) (i : Int) lf r = some (lf, r, true) := by
  intro d
  induction d with
  | zero =>
    intro i k hd hi hk
    obtain ⟨k, rfl⟩ : ∃ k', k = k' + 1 := ⟨k - 1, by omega⟩
    rw [node_Parse.l1, if_neg (by omega), if_pos rfl, Ok_f lf r h k (by omega), hb, Option.bind_some, if_pos rfl]
  | succ d ih =>
    intro i k hd hi hk
    obtain ⟨k, rfl⟩ : ∃ k', k = k' + 1 := ⟨k - 1, by omega⟩
    rw [node_Parse.l1, if_pos (by omega), if_pos (by omega), if_pos (by rw [List.length_replicate]; omega), if_pos rfl, zs_rd, show ((0 : Int) == 0) = true from rfl, w_next i (by omega)]
    exact ih (i + 1) k (by omega) (by omega) (by omega)
def kdOf (lf : Bool) : Int := if lf = true then 1 else 2
theorem take_next (l : List S41) (t : Nat) (h : t < l.length) : l.take (t + 1) = l.take t ++ [rd_T41 l (t : Int)] := by
  rw [rd_get l t h, List.take_add_one, List.getElem?_eq_getElem h]
  rfl
theorem tx_read (k : Nat) (hk : 9 ≤ k) (s : ByteArray) (rest : List Int) (hs : s.size ≤ 255) (ho : Oct rest) (hl : rest.length ≤ 100000) : octs_In_Short.f k (txO s ++ rest) false = some (s, rest, false) := by
  unfold txO
  rw [List.append_assoc]
  exact read_short k s rest hs hk ho (by omega)
theorem parse_l0 (lf : Bool) (r : List S41) (h : TamedG lf r) (hb : (lf || decide (0 < r.length)) = true) (n : Nat) (hn : n ≤ 300) : ∀ (d t k : Nat), r.length - t = d → t ≤ r.length → 2 * d + 1000 < k →
    node_Parse.l0 k (kdOf lf) ((r.length - t : Nat) : Int) (rowsOct lf (r.drop t) ++ List.replicate n 0) false lf (r.take t) = some (lf, r, true) := by
  obtain ⟨ha, hl, hg, hnn⟩ := h
  have zo := zs_oct n
  have zl : (List.replicate n (0 : Int)).length = n := List.length_replicate
  intro d
  induction d with
  | zero =>
    intro t k hd ht hk
    obtain ⟨k, rfl⟩ : ∃ k', k = k' + 1 + 1 + 1 := ⟨k - 3, by omega⟩
    have e : t = r.length := by omega
    subst e
    rw [show r.drop r.length = [] from List.drop_eq_nil_of_le (Nat.le_refl _), List.take_length, rowsOct, List.nil_append, node_Parse.l0, if_neg (by omega), node_Parse.j1, if_neg (by decide), ok_ff, Option.bind_some, if_pos rfl]
    have fin : node_Parse.j2 (k + 1) true (List.replicate n 0) false lf r = some (lf, r, true) := by
      rw [node_Parse.j2, In_Rest _ (by rw [zl]; omega), Option.bind_some]
      dsimp only
      rw [zl]
      exact zeros_l1 lf r ⟨ha, hl, hg, hnn⟩ hb n hn n 0 k (by omega) (by omega) (by omega)
    dsimp only
    unfold kdOf
    cases lf with
    | true => rw [if_pos rfl, if_pos rfl]; exact fin
    | false => rw [if_neg (by decide), if_neg (by decide)]; exact fin
  | succ d ih =>
    intro t k hd ht hk
    obtain ⟨k, rfl⟩ : ∃ k', k = k' + 1 + 1 := ⟨k - 2, by omega⟩
    have htl : t < r.length := by omega
    have step := ih (t + 1) k (by omega) (by omega) (by omega)
    obtain ⟨h0, h1, h2, h3⟩ := hg _ (rd_mem r t htl)
    have hdl : rowsLen lf (r.drop (t + 1)) ≤ 152 * (r.drop (t + 1)).length := rowsLen_le (fun x hx => hg x (List.mem_of_mem_drop hx))
    rw [List.length_drop] at hdl
    have ro := oct_app (rowsOct_oct lf (r.drop (t + 1))) zo
    have rl : (rowsOct lf (r.drop (t + 1)) ++ List.replicate n 0).length ≤ 50000 := by rw [List.length_append, rowsOct_len, zl]; omega
    have tl : (r.take t).length = t := by rw [List.length_take]; omega
    have wu : IntKind.u64.wrap (((r.length - t : Nat) : Int) - 1) = ((r.length - (t + 1) : Nat) : Int) := by
      rw [show ((r.length - t : Nat) : Int) - 1 = ((r.length - (t + 1) : Nat) : Int) by omega]
      exact u64_id _ (by omega) (by omega)
    rw [take_next r t htl] at step
    rw [rowsOct_drop lf r t htl, node_Parse.l0, if_pos (by omega), ok_ff, Option.bind_some]
    dsimp only
    rw [node_Parse.j1, if_pos rfl, List.append_assoc]
    generalize rd_T41 r (t : Int) = x at *
    generalize rowsOct lf (r.drop (t + 1)) ++ List.replicate n 0 = R at *
    obtain ⟨x0, x1, x2⟩ := x
    dsimp only at h0 h1 h2 h3
    unfold rowOct
    dsimp only
    cases lf with
    | true =>
      obtain ⟨q1, q2⟩ := h2 rfl
      subst q2
      rw [if_pos rfl, List.append_assoc, tx_read k (by omega) x0 (txO x1 ++ R) (by omega) (oct_app (txO_oct x1) ro) (by rw [List.length_append, txO_len]; omega), Option.bind_some]
      dsimp only
      rw [if_pos rfl, tx_read k (by omega) x1 R (by omega) ro (by omega), Option.bind_some, if_pos (by rw [tl]; omega), wu]
      exact step
    | false =>
      obtain ⟨q1, q2, q3⟩ := h3 rfl
      subst q1
      have e4 : x2 % 256 ^ 4 = x2 := by rw [show (256 : Int) ^ 4 = 4294967296 by decide]; omega
      rw [if_neg (by decide), List.append_assoc, tx_read k (by omega) x0 (be 4 x2 ++ R) (by omega) (oct_app (be_oct 4 x2) ro) (by rw [List.length_append, be_len]; omega), Option.bind_some]
      dsimp only
      rw [if_neg (by decide), read_be k 4 4 (by decide) x2 R (by omega) ro (by omega), Option.bind_some]
      dsimp only
      rw [if_pos (by rw [tl]; omega), wu, e4, w64_id x2 (by omega) (by omega)]
      exact step
theorem parse_f (lf : Bool) (r : List S41) (h : TamedG lf r) (hb : (lf || decide (0 < r.length)) = true) (n : Nat) (hn : n ≤ 300) (k : Nat) (hk : 1200 ≤ k) : node_Parse.f k (nodeOct lf r ++ List.replicate n 0) = some (lf, r, true) := by
  have hl := h.2.1
  have hnn := h.2.2.2
  have step := parse_l0 lf r h hb n hn r.length 0 k (by omega) (by omega) (by omega)
  rw [List.drop_zero, List.take_zero] at step
  have zo := oct_app (rowsOct_oct lf r) (zs_oct n)
  have zl : (rowsOct lf r ++ List.replicate n 0).length ≤ 1000 := by rw [List.length_append, rowsOct_len, List.length_replicate]; omega
  have e2 : (r.length : Int) % 256 ^ 2 = (r.length : Int) := by rw [show (256 : Int) ^ 2 = 65536 by decide]; omega
  unfold node_Parse.f octs_From.f nodeOct
  rw [Option.bind_some, List.append_assoc, List.append_assoc]
  dsimp only
  have fin : ∀ v : Int, v = kdOf lf → v % 256 ^ 1 = v → (v == 1) = lf → ((octs_In_Int.f k (be 1 v ++ (be 2 (r.length : Int) ++ (rowsOct lf r ++ List.replicate n 0))) false 1).bind fun bt176 => ((octs_In_Int.f k bt176.2.1 bt176.2.2 2).bind fun bt180 => (node_Parse.l0 k bt176.1 bt180.1 bt180.2.1 bt180.2.2 (bt176.1 == 1) ([] : List (S41))))) = some (lf, r, true) := by
    intro v hv h1 h2
    rw [read_be k 1 1 (by decide) v _ (by omega) (oct_app (be_oct _ _) zo) (by rw [List.length_append, be_len]; omega), Option.bind_some]
    dsimp only
    rw [read_be k 2 2 (by decide) _ _ (by omega) zo (by omega), Option.bind_some, h1, e2]
    dsimp only
    rw [h2, hv]
    exact step
  cases lf with
  | true => exact fin 1 rfl (by decide) (by decide)
  | false => exact fin 2 rfl (by decide) (by decide)
theorem and8 (x : Int) : 0 ≤ Go.bits .and .i64 x 255 ∧ Go.bits .and .i64 x 255 < 256 := by
  unfold Go.bits
  have h1 : (BitVec.ofInt (IntKind.i64.bits) x &&& BitVec.ofInt (IntKind.i64.bits) 255).toNat ≤ 255 := by
    rw [BitVec.toNat_and]
    have : (BitVec.ofInt (IntKind.i64.bits) 255).toNat = 255 := by decide
    rw [this]
    exact Nat.and_le_right
  simp only []
  rw [IntKind.wrap_i64]
  omega
theorem back_j (lf : Bool) (r : List S41) (h : TamedG lf r) (a1 : Int) (k : Nat) (hk : 1300 ≤ k) (b : Bool) (hbb : b = !(lf || decide (0 < r.length))) :
    waybilllaw10_NodeBack.j0 (k + 1) a1 (if (lf || decide (0 < r.length)) = true then (nodeOct lf r, true) else ([], false)).1 (if (lf || decide (0 < r.length)) = true then (nodeOct lf r, true) else ([], false)).2 b lf r = some true := by
  obtain ⟨ha, hl, hg, hnn⟩ := h
  subst hbb
  cases hb : (lf || decide (0 < r.length)) with
  | false =>
    rw [if_neg (by decide), waybilllaw10_NodeBack.j0, if_pos (by decide), if_neg (by decide), awake10_ok k (by omega)]
    rfl
  | true =>
    have nl := nodeOct_len lf r
    have h8 := and8 a1
    rw [if_pos rfl, waybilllaw10_NodeBack.j0, if_neg (by decide), Option.bind_some]
    dsimp only
    rw [if_pos (by rw [nl]; simp only [List.length_nil]; omega), Option.bind_some, List.nil_append, if_pos h8.1]
    generalize Go.bits .and .i64 a1 255 = z at *
    rw [if_pos (by rw [nl]; omega), parse_f lf r ⟨ha, hl, hg, hnn⟩ hb z.toNat (by omega) k (by omega), Option.bind_some, if_pos rfl]
    dsimp only
    rw [if_pos rfl, same_f lf r (by omega) k (by omega), Option.bind_some, if_pos rfl, Size_f lf r (by omega) hg k (by omega), Option.bind_some, if_pos (by rw [nl]), awake10_ok k (by omega)]
    rfl
theorem NodeBack : waybilllaw10_NodeBack.Pure := by
  intro x0 a1 o0 h1
  refine ⟨3001, ?_⟩
  unfold waybilllaw10_NodeBack.f
  obtain ⟨t, ht, hs⟩ := small_f x0.f1 x0.f0 3001 (by omega)
  rw [ht, Option.bind_some]
  cases t with
  | true =>
    obtain ⟨r, hf, hr⟩ := tameg_f x0.f1 x0.f0 (hs rfl) 3001 (by omega)
    rw [if_pos rfl, hf, Option.bind_some]
    dsimp only
    rw [app_f x0.f0 r hr 3001 (by omega), Option.bind_some]
    generalize x0.f0 = lf at *
    cases lf with
    | true => rw [if_pos rfl]; exact back_j true r hr a1 3000 (by omega) false rfl
    | false =>
      rw [if_neg (by decide)]
      refine back_j false r hr a1 3000 (by omega) _ ?_
      by_cases h0 : r.length = 0
      · rw [h0]; rfl
      · rw [decide_eq_true (show 0 < r.length by omega), show ((r.length : Int) == 0) = false from beq_eq_false_iff_ne.2 (by omega)]; rfl
  | false =>
    rw [if_neg (by decide), awake10_ok 3001 (by omega)]
    rfl
end Go.Proofs.Ytfhaffpegncdiaa.Pure
