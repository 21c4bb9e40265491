/-
Texts of keys stand by their kinds; entries of one queue, and messages, by their numbers: for any two keys and any two numbers.
-/
import Derived.Test.YtpjkaodbcclecaaKKeysTame
import Derived.Test.YtpjkaodbcclecaaKOctsAwake12
import Derived.Test.YtpjkaodbcclecaaPKStKeysOrder
namespace Go.Proofs.Ytpjkaodbcclecaa.Pure
open Go.RowKit Go.Proofs.Ytpjkaodbcclecaa.PK Go.Proofs.YtpjkaodbcclecaaW.PrintWords Go.Proofs.YtpjkaodbcclecaaW.PrintLast Go.Proofs.YtpjkaodbcclecaaW.PrintMore
set_option linter.unusedVariables false
set_option linter.unusedSimpArgs false
theorem order_j (a2 a3 : Int) (h2 : a2 < 18446744073709551616) (h3 : a3 < 18446744073709551616) (kd : Int) (a b c : ByteArray) (id : Int) : waybilllaw12_KeysOrder.j0 (40 + 1) a2 a3 false kd a b c id = some true := by
  have ca := cut_ok a 20 (by omega)
  have na := cut_name ⟨#[113]⟩ rfl _ (show ((a.extract 0 (mn (a.size : Int) 20).toNat).size : Int) ≤ 29 by omega)
  have e0 : nameOk (⟨#[]⟩ : ByteArray) false = true := by decide
  have z0 : (⟨#[]⟩ : ByteArray).size = 0 := rfl
  rw [waybilllaw12_KeysOrder.j0, if_neg (by simp), if_pos ca.1, if_pos ca.2.1, if_pos (by omega)]
  have p2 := mx_pos a2
  have p3 := mx_pos a3
  have q2 := mx_lt a2 h2
  have q3 := mx_lt a3 h3
  generalize mx a2 1 = X at *
  generalize mx a3 1 = Y at *
  have g : ∀ I : Int, I > 0 → goodK 5 ((⟨#[113]⟩ : ByteArray) ++ (a.extract 0 ((mn (a.size : Int) 20) : Int).toNat)) (⟨#[]⟩ : ByteArray) (⟨#[]⟩ : ByteArray) I = true := by
    intro I hI
    exact goodK_of (by decide) na e0 (Or.inl z0) (by rw [z0]; omega) (by rw [decide_eq_true hI]; decide)
  have g4 : ∀ I : Int, I > 0 → goodK 4 (⟨#[]⟩ : ByteArray) (⟨#[]⟩ : ByteArray) (⟨#[]⟩ : ByteArray) I = true := by
    intro I hI
    exact goodK_of (by decide) e0 e0 (Or.inl z0) (by rw [z0]; omega) (by rw [decide_eq_true hI]; decide)
  rw [Text_f _ (by omega), if_pos (g X p2), Option.bind_some, Text_f _ (by omega), if_pos (g Y p3), Option.bind_some, Text_f _ (by omega), if_pos (g4 X p2), Option.bind_some, Text_f _ (by omega), if_pos (g4 Y p3), Option.bind_some]
  dsimp only
  rw [str_toList, str_toList, str_toList, str_toList, keyOct5, keyOct5, keyOct4, keyOct4, less_be _ X Y (by omega) (by omega), less_be _ X Y (by omega) (by omega), if_pos (by simp), if_pos (by simp), awake12_ok _ (by omega)]
  rfl
theorem KeysOrder : waybilllaw12_KeysOrder.Pure := by
  intro x0 x1 a2 a3 o0 o1 w2 w3
  have h2 := u64_wf w2
  have h3 := u64_wf w3
  obtain ⟨kd, a, b, c, id, e, hg, hi⟩ := tame_f 41 (by omega) x0.f0 x0.f1 x0.f2 x0.f3 x0.f4 (u64_wf o0.2.2.2.2).2
  obtain ⟨kd', a', b', c', id', e', hg', hi'⟩ := tame_f 41 (by omega) x1.f0 x1.f1 x1.f2 x1.f3 x1.f4 (u64_wf o1.2.2.2.2).2
  refine ⟨41, ?_⟩
  unfold waybilllaw12_KeysOrder.f
  rw [e, Option.bind_some, e', Option.bind_some]
  dsimp only
  rw [Text_f _ (by omega), if_pos hg, Option.bind_some, Text_f _ (by omega), if_pos hg', Option.bind_some]
  dsimp only
  rw [str_toList, str_toList]
  have s := (good_sizes hg).1
  have s' := (good_sizes hg').1
  by_cases h : kd < kd'
  · rw [if_pos h, show Op.bytesLess (u8s (keyOct kd a b c id)) (u8s (keyOct kd' a' b' c' id')) = true from less_head _ _ (by omega) (by omega) (by omega) _ _]
    exact order_j a2 a3 h2.2 h3.2 _ _ _ _ _
  · rw [if_neg h]
    exact order_j a2 a3 h2.2 h3.2 _ _ _ _ _
end Go.Proofs.Ytpjkaodbcclecaa.Pure
