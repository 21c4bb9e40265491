/-
A frame is whole just with its last octet: each beginning of it asks for more, and is no error.
-/
import Derived.Test.YtlhcjgmdcnmnnaaPAStFramCuts
import Derived.Test.YtlhcjgmdcnmnnaaAFramTxt
import Derived.Test.YtlhcjgmdcnmnnaaAOctsAwake3
namespace Go.Proofs.Ytlhcjgmdcnmnnaa.Pure
open Go.RowKit Go.Proofs.Ytlhcjgmdcnmnnaa.PA Go.Proofs.YtlhcjgmdcnmnnaaW.PrintWords Go.Proofs.YtlhcjgmdcnmnnaaW.PrintLast Go.Proofs.YtlhcjgmdcnmnnaaW.PrintMore
set_option linter.unusedVariables false
set_option linter.unusedSimpArgs false
theorem Cuts_l0 (m : List Int) (a b : Int) (B : List Int) (h : frameOk a b B = true) (hB : Oct B) (hm : Oct m) (hml : m.length ≤ 300) : ∀ (d i k : Nat), 8 + B.length - i = d → i ≤ 8 + B.length → d + 40 < k →
    waybilllaw3_FramCuts.l0 k m (frame a b B) (i : Int) a b B = some true := by
  have hfl := frame_len a b B
  have hb := (ok_of h).2.2.2
  have ho : Oct (frame a b B) := frame_oct a b hB
  intro d
  induction d with
  | zero =>
    intro i k hd hi hk
    obtain ⟨k, rfl⟩ : ∃ j, k = j + 1 := ⟨k - 1, by omega⟩
    rw [waybilllaw3_FramCuts.l0, if_neg (by omega)]
    simp only [Option.bind_some, List.nil_append]
    rw [if_pos (by simp; omega), if_pos (by omega), Parse_f k (by omega) _ (oct_app ho hm) (by simp; omega), parse_frame a b B m h]
    simp only [Option.bind_some]
    rw [if_pos trivial, if_pos (by omega), same_f]
    simp only [Option.bind_some]
    rw [if_pos trivial, awake3_ok k (by omega)]
    rfl
  | succ d ih =>
    intro i k hd hi hk
    obtain ⟨k, rfl⟩ : ∃ j, k = j + 1 := ⟨k - 1, by omega⟩
    rw [waybilllaw3_FramCuts.l0, if_pos (by omega), if_pos (by omega), if_pos (by omega), Int.toNat_natCast, Parse_f k (by omega) _ (oct_take ho _) (by simp; omega), parse_pre a b B h i (by omega)]
    simp only [Option.bind_some]
    rw [if_pos trivial, if_pos trivial, w64_id _ (by omega) (by omega), show (i : Int) + 1 = ((i + 1 : Nat) : Int) by omega]
    exact ih (i + 1) k (by omega) (by omega) (by omega)
theorem FramCuts : waybilllaw3_FramCuts.Pure := by
  intro x m hx hm
  obtain ⟨a, b, B⟩ := x
  have hB : Oct B := oct_wf hx.2.2.2
  have hmo : Oct m := oct_wf hm.2
  refine ⟨1000, ?_⟩
  have hbad : ∀ a b B, waybilllaw3_FramCuts.j0 1000 m true a b B = some true := by
    intro a b B
    rw [waybilllaw3_FramCuts.j0, if_pos rfl, awake3_ok 999 (by omega)]
    rfl
  show waybilllaw3_FramCuts.f 1000 a b B m = some true
  unfold waybilllaw3_FramCuts.f
  by_cases h1 : (B.length : Int) > 300
  · rw [if_pos h1, hbad]
  rw [if_neg h1]
  by_cases h2 : (m.length : Int) > 300
  · rw [decide_eq_true h2, hbad]
  rw [decide_eq_false h2, waybilllaw3_FramCuts.j0, if_neg (by simp), Append_f 999 (by omega) _ _ _ _ (by simp)]
  simp only [Option.bind_some, List.nil_append]
  by_cases h3 : frameOk a b B = true
  · rw [if_pos h3]
    simp only []
    rw [if_pos trivial]
    exact Cuts_l0 m a b B h3 hB hmo (by omega) _ 0 999 rfl (by omega) (by omega)
  · rw [if_neg h3]
    simp only []
    rw [if_neg (by simp), if_pos (by simp), awake3_ok 999 (by omega)]
    rfl
end Go.Proofs.Ytlhcjgmdcnmnnaa.Pure
