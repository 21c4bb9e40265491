/-
A head tells any size of 64 bits as it is; with a type and a mode or without it has just as many octets more.
-/
import Derived.Test.YtpjkaodbcclecaaPAx9
import Derived.Test.YtpjkaodbcclecaaAContLib
import Derived.Test.YtpjkaodbcclecaaAOctsAwake5
import Derived.Test.YtpjkaodbcclecaaAOctsRefNum
namespace Go.Proofs.Ytpjkaodbcclecaa.Pure
open Go.RowKit Go.Proofs.Ytpjkaodbcclecaa.PA Go.Proofs.YtpjkaodbcclecaaW.PrintWords Go.Proofs.YtpjkaodbcclecaaW.PrintLast Go.Proofs.YtpjkaodbcclecaaW.PrintMore
set_option linter.unusedVariables false
set_option linter.unusedSimpArgs false
theorem mode_in (a : Int) (h : (Lit.int .i64 a).wf = true) : 0 ≤ Int.tmod (wrap64 ((Int.tmod a 3) + 3)) 3 ∧ Int.tmod (wrap64 ((Int.tmod a 3) + 3)) 3 ≤ 2 := by
  have h1 := Int.tmod_lt_of_pos a (show (0 : Int) < 3 by omega)
  have h2 : -3 < Int.tmod a 3 := by
    rcases Int.le_total 0 a with h | h
    · have := Int.tmod_nonneg 3 h
      omega
    · have e : Int.tmod a 3 = -Int.tmod (-a) 3 := by rw [Int.neg_tmod]; omega
      have := Int.tmod_lt_of_pos (-a) (show (0 : Int) < 3 by omega)
      omega
  rw [w64_id _ (by omega) (by omega)]
  have h3 := Int.tmod_nonneg 3 (show 0 ≤ Int.tmod a 3 + 3 by omega)
  have h4 := Int.tmod_lt_of_pos (Int.tmod a 3 + 3) (show (0 : Int) < 3 by omega)
  omega
theorem ContSizes : waybilllaw5_ContSizes.Pure := by
  intro z s m hz hs hm
  have hz' : 0 ≤ z ∧ z < 18446744073709551616 := wf_u64 hz
  have hmd := mode_in m hm
  refine ⟨60, ?_⟩
  unfold waybilllaw5_ContSizes.f
  have haw := awake5_ok 60 (by omega)
  have haw' := awake5_ok 59 (by omega)
  by_cases h : (s.size : Int) > 255
  · rw [if_pos h, haw]; rfl
  · rw [if_neg h]
    generalize Int.tmod (wrap64 ((Int.tmod m 3) + 3)) 3 = md at hmd ⊢
    rw [Append_head 60 (by omega) [] z md s hmd.1 hmd.2 (by omega) (by simp)]
    simp only [Option.bind_some, List.nil_append]
    have hp := Parse_head 59 (by omega) z md s hz'.1 hz'.2 hmd.1 hmd.2 (by omega)
    have hlen := head_len z md s
    have hn : waybillref1_Num.f 59 (head z md s) 4 8 = some (z, true) := by
      have := Num_at 59 (by omega) (be 2 60 ++ be 2 0) (be 8 z) (be 2 (flg md s) ++ (tyO s ++ mdO md)) 4 8 (by simp [be_len]) (by simp [be_len]) (by omega) (be_oct _ _) (by simp [be_len, tyO_len, mdO_len]; (repeat' split) <;> omega) (oct_app (be_oct _ _) (be_oct _ _)) (oct_app (be_oct _ _) (oct_app (tyO_oct _) (mdO_oct _)))
      rw [num_be, Int.emod_eq_of_lt hz'.1 (by omega)] at this
      rw [← this]
      unfold head hd
      simp [List.append_assoc]
    by_cases h0 : s.size = 0
    · rw [if_pos ((toList_nil s).2 h0), waybilllaw5_ContSizes.j0]
      rw [if_pos h0] at hlen
      by_cases hm0 : md = 0
      · rw [if_pos hm0] at hlen
        rw [if_pos hm0, hp, hn]
        simp [hlen, haw']
      · rw [if_neg hm0] at hlen
        rw [if_neg hm0, hp, hn]
        simp [hlen, haw', wrap64]
    · rw [if_neg (fun hh => h0 ((toList_nil s).1 hh)), waybilllaw5_ContSizes.j0, w64_id (14 + 1 + (s.size : Int)) (by omega) (by omega)]
      rw [if_neg h0] at hlen
      by_cases hm0 : md = 0
      · rw [if_pos hm0] at hlen
        have hl2 : ((head z md s).length : Int) = 14 + 1 + (s.size : Int) := by omega
        rw [if_pos hm0, hp, hn]
        simp [hl2, haw']
      · rw [if_neg hm0] at hlen
        have hl2 : ((head z md s).length : Int) = 14 + 1 + (s.size : Int) + 1 := by omega
        rw [if_neg hm0, hp, hn, w64_id _ (by omega) (by omega)]
        simp [hl2, haw']
end Go.Proofs.Ytpjkaodbcclecaa.Pure
