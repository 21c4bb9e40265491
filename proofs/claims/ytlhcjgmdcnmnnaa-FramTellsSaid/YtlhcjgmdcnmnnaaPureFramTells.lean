/-
Any octets begin with the frame that the document says, or with none; any frame has the octets that it says.
Conditions: none but those of the statement.
-/
import Derived.Test.YtlhcjgmdcnmnnaaPAStFramTells
import Derived.Test.YtlhcjgmdcnmnnaaPAx16
import Derived.Test.YtlhcjgmdcnmnnaaAFramRef
import Derived.Test.YtlhcjgmdcnmnnaaAOctsMask
import Derived.Test.YtlhcjgmdcnmnnaaAOctsAwake3
namespace Go.Proofs.Ytlhcjgmdcnmnnaa.Pure
open Go.RowKit Go.Proofs.Ytlhcjgmdcnmnnaa.PA Go.Proofs.YtlhcjgmdcnmnnaaW.PrintWords Go.Proofs.YtlhcjgmdcnmnnaaW.PrintLast Go.Proofs.YtlhcjgmdcnmnnaaW.PrintMore
set_option linter.unusedVariables false
set_option linter.unusedSimpArgs false
theorem same_frame (a b : Int) (l : List Int) : waybilllaw3_Same.f a b l a b l = some true := by
  unfold waybilllaw3_Same.f
  rw [if_pos rfl, if_pos rfl]; simp
theorem xor_oct (a b : Int) : 0 ≤ Go.bits .xor .u8 a b ∧ Go.bits .xor .u8 a b < 256 := by
  unfold Go.bits
  simp only [IntKind.bits]
  have := (BitVec.ofInt 8 a ^^^ BitVec.ofInt 8 b).isLt
  rw [IntWalk.u8_in _ (by omega)]
  omega
theorem oct_set {l : List Int} (h : Oct l) (i : Nat) (v : Int) (hv : 0 ≤ v ∧ v < 256) : Oct (l.set i v) := by
  intro x hx
  rcases List.mem_or_eq_of_mem_set hx with hx | rfl
  · exact h x hx
  · exact hv
theorem oct_pick (a b c d : List Int) (ha : Oct a) (hb : Oct b) (hc : Oct c) (hd : Oct d) (i : Nat) : Oct (([a, b, c, d] : List (List Int)).getD i []) := by
  match i with
  | 0 => exact ha
  | 1 => exact hb
  | 2 => exact hc
  | 3 => exact hd
  | n + 4 => exact oct_nil
theorem len_pick (a b c d : List Int) (M : Nat) (ha : a.length ≤ M) (hb : b.length ≤ M) (hc : c.length ≤ M) (hd : d.length ≤ M) (i : Nat) : (([a, b, c, d] : List (List Int)).getD i []).length ≤ M := by
  match i with
  | 0 => exact ha
  | 1 => exact hb
  | 2 => exact hc
  | 3 => exact hd
  | n + 4 => exact Nat.zero_le _
theorem T_l0 (raw w x : List Int) (cut : Int) (hraw : raw.length ≤ 5000) (hw : w.length ≤ 5000) (hw1 : 1 ≤ w.length) (hx : x.length ≤ 5000) (horaw : Oct raw) (how : Oct w) (hox : Oct x) : ∀ (d k i : Nat), 4 - i = d → d + 40 < k →
    waybilllaw3_FramTells.l0 k raw cut w x (i : Int) = some true := by
  intro d
  induction d with
  | zero =>
    intro k i hd hk
    obtain ⟨k, rfl⟩ : ∃ j, k = j + 1 := ⟨k - 1, by omega⟩
    rw [waybilllaw3_FramTells.l0, if_neg (by omega), awake3_ok k (by omega), Option.bind_some]
  | succ d ih =>
    intro k i hd hk
    obtain ⟨k, rfl⟩ : ∃ j, k = j + 1 := ⟨k - 1, by omega⟩
    have hrec := ih k (i + 1) (by omega) (by omega)
    have hm := and16 cut
    have ht := tmod_in (Go.bits .and .i64 cut 65535) (w.length : Int) hm.1 (by omega)
    obtain ⟨c, hc⟩ : ∃ c, Int.tmod (Go.bits .and .i64 cut 65535) (w.length : Int) = c := ⟨_, rfl⟩
    rw [hc] at ht
    have e1 : wrap64 (1 + c) = 1 + c := w64_id _ (by omega) (by omega)
    have e2 : wrap64 ((i : Int) + 1) = ((i + 1 : Nat) : Int) := by rw [w64_id _ (by omega) (by omega)]; omega
    have q0 : (i : Int) < 4 := by omega
    have q1 : ¬ (w.length : Int) = 0 := by omega
    have q2 : 1 ≤ 1 + c := by omega
    have q3 : 1 + c ≤ (w.length : Int) := by omega
    have q4 : 1 ≤ (w.length : Int) := by omega
    have q5 : ([] : List Int).length + (w.drop 1).length < 140737488355328 := by rw [List.length_drop]; simp; omega
    have q6 : ([] ++ w.drop 1 : List Int).length + raw.length < 140737488355328 := by rw [List.nil_append, List.length_drop]; omega
    have q7 : (0 : Int) ≤ (i : Int) := by omega
    rw [waybilllaw3_FramTells.l0, if_pos q0, if_neg q1, hc, e1, if_pos q2, if_pos q3, Option.bind_some, if_pos q4, Option.bind_some, if_pos q5, Option.bind_some, if_pos q6, if_pos q7, Option.bind_some]
    obtain ⟨y, hy⟩ : ∃ y, ([raw, x, (w.take (1 + c : Int).toNat).drop 1, ([] ++ w.drop 1) ++ raw] : List (List Int)).getD (i : Int).toNat [] = y := ⟨_, rfl⟩
    have hoy : Oct y := by rw [← hy]; exact oct_pick _ _ _ _ horaw hox (oct_drop (oct_take how _) _) (oct_app (oct_app oct_nil (oct_drop how _)) horaw) _
    have hly : y.length ≤ 10000 := by
      rw [← hy]
      refine len_pick _ _ _ _ 10000 (by omega) (by omega) ?_ ?_ _
      · rw [List.length_drop, List.length_take]; omega
      · rw [List.nil_append, List.length_append, List.length_drop]; omega
    rw [hy, Parse_f k (by omega) y hoy (by omega), Option.bind_some, FrameOf_f k (by omega) y hoy (by omega), Option.bind_some, if_pos rfl, if_pos rfl, same_frame, Option.bind_some, if_pos rfl, e2]
    exact hrec
theorem FramTells : waybilllaw3_FramTells.Pure := by
  intro raw f at_ by_ cut hraw hf _ _ _
  have horaw := oct_wf hraw.2
  have hof : Oct f.f2 := oct_wf hf.2.2.2
  refine ⟨200, ?_⟩
  have hj : ∀ b : Bool, (b = false → raw.length ≤ 5000 ∧ f.f2.length ≤ 5000) → waybilllaw3_FramTells.j0 200 raw at_ by_ cut b f.f0 f.f1 f.f2 = some true := by
    intro b hb
    rw [waybilllaw3_FramTells.j0]
    cases b with
    | true => rw [if_pos rfl, awake3_ok 199 (by omega), Option.bind_some]
    | false =>
      obtain ⟨hr, hB⟩ := hb rfl
      rw [if_neg (by simp), Append_f 199 (by omega) _ _ _ _ (by simp), Option.bind_some, FrameOk_f, Option.bind_some, Option.bind_some]
      have key : ∀ w : List Int, Oct w → 1 ≤ w.length → w.length ≤ 5000 → ∀ bt : List Int × Bool, bt = (w, frameOk f.f0 f.f1 f.f2) → waybilllaw3_FramTells.j1 199 raw at_ by_ cut bt.1 bt.2 (frameOk f.f0 f.f1 f.f2) w = some true := by
        intro w how hw1 hw bt hbt
        subst hbt
        rw [waybilllaw3_FramTells.j1, if_neg (by simp), waybilllaw3_FramTells.j2, if_neg (by simp), Option.bind_some, if_pos (by omega), Option.bind_some, if_pos (by rw [List.length_drop]; simp; omega), Option.bind_some, List.nil_append]
        have hl1 : (w.drop 1).length ≤ 5000 := by rw [List.length_drop]; omega
        have hgo : ∀ x : List Int, Oct x → x.length ≤ 5000 → waybilllaw3_FramTells.j3 197 raw cut w x = some true := by
          intro x hox hx
          rw [waybilllaw3_FramTells.j3]
          exact T_l0 raw w x cut hr hw hw1 hx horaw how hox 4 196 0 (by omega) (by omega)
        by_cases h0 : ((w.drop 1).length : Int) > 0
        · have hm := and16 at_
          have ht := tmod_in (Go.bits .and .i64 at_ 65535) ((w.drop 1).length : Int) hm.1 h0
          rw [if_pos h0, if_neg (by omega), if_pos ht.1, if_pos ht.2]
          exact hgo _ (oct_set (oct_drop how _) _ _ (xor_oct _ _)) (by rw [List.length_set]; exact hl1)
        · rw [if_neg h0]
          exact hgo _ (oct_drop how _) hl1
      have h5 : Oct [5] := fun x hx => by simp at hx; omega
      by_cases hok : frameOk f.f0 f.f1 f.f2 = true
      · have hB2 := (ok_of hok).2.2.2
        rw [if_pos hok, if_pos hok, Frame_f 199 (by omega) _ _ _ _ (by simp) hok, Option.bind_some]
        exact key _ (oct_app h5 (frame_oct _ _ hof)) (by simp) (by rw [List.length_append, frame_len]; simp; omega) _ (by rw [hok])
      · rw [if_neg hok, if_neg hok]
        exact key _ h5 (by simp) (by simp) _ (by rw [Bool.eq_false_iff.2 hok])
  unfold waybilllaw3_FramTells.f
  by_cases h : (raw.length : Int) > 5000
  · rw [if_pos h]
    exact hj true (fun h => by cases h)
  · rw [if_neg h]
    exact hj _ (fun hd => ⟨by omega, by have := of_decide_eq_false hd; omega⟩)
end Go.Proofs.Ytlhcjgmdcnmnnaa.Pure
