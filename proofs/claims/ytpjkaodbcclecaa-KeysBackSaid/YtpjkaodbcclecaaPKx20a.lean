/- What functions of the given program come to, and that they do: written out of the translation by a program of this session; Lean checks it. -/
import Derived.Test.YtpjkaodbcclecaaPKx0
import Derived.Test.YtpjkaodbcclecaaPKx1
import Derived.Test.YtpjkaodbcclecaaPKx4
import Derived.Test.YtpjkaodbcclecaaPKx5
import Derived.Test.YtpjkaodbcclecaaPKx7
import Derived.Test.YtpjkaodbcclecaaPKx8
import Derived.Test.YtpjkaodbcclecaaPKx15
namespace Go.Proofs.Ytpjkaodbcclecaa.PK
open Go.RowKit Go.Proofs.YtpjkaodbcclecaaW.PrintWords Go.Proofs.YtpjkaodbcclecaaW.PrintLast Go.Proofs.YtpjkaodbcclecaaW.PrintMore
attribute [local go_sem] max2_int min2_int max_two min_two max_three min_three max_four min_four   -- for this text's walks alone
set_option linter.unusedVariables false
set_option linter.unusedSimpArgs false

attribute [local go_sem high] eqA74
/-! ### waybilllaw12_KeysBack: function 12 -/
def waybilllaw12_KeysBack.j0 : Nat → Bool → ByteArray → ByteArray → ByteArray → Int → List Int → Option (Bool)
  | 0, _, _, _, _, _, _ => none
  | k + 1, x69, x386000, x386001, x386002, x386003, x386004 => if x69 = true then (none) else ((keys_Msg.f k x386000 x386001 x386002 x386003 x386004).bind fun bt408 => ((keys_ParseMsg.f k bt408.1).bind fun bt412 => (if (x386000.size : Int) ≤ 30 then (if (x386001.size : Int) ≤ 60 then (if (x386002.size : Int) ≤ 60 then (if x386003 ≥ 0 then (if x386003 ≤ 2 then (if (bt408.2 == (decide ((x386004.length : Int) ≤ 10000))) = true then (if bt408.2 = true then (if bt412.2.2.2.2.2 = true then ((waybillref7_SameMsg.f bt412.1 bt412.2.1 bt412.2.2.1 bt412.2.2.2.1 bt412.2.2.2.2.1 x386000 x386001 x386002 x386003 x386004).bind fun t421 => (if t421 = true then ((waybilllaw12_awake.f k).bind fun t422 => (some t422)) else (none))) else (none)) else ((waybilllaw12_awake.f k).bind fun t423 => (some t423))) else (none)) else (if (bt408.2 == false) = true then (if bt408.2 = true then (if bt412.2.2.2.2.2 = true then ((waybillref7_SameMsg.f bt412.1 bt412.2.1 bt412.2.2.1 bt412.2.2.2.1 bt412.2.2.2.2.1 x386000 x386001 x386002 x386003 x386004).bind fun t424 => (if t424 = true then ((waybilllaw12_awake.f k).bind fun t425 => (some t425)) else (none))) else (none)) else ((waybilllaw12_awake.f k).bind fun t426 => (some t426))) else (none))) else (if (bt408.2 == false) = true then (if bt408.2 = true then (if bt412.2.2.2.2.2 = true then ((waybillref7_SameMsg.f bt412.1 bt412.2.1 bt412.2.2.1 bt412.2.2.2.1 bt412.2.2.2.2.1 x386000 x386001 x386002 x386003 x386004).bind fun t427 => (if t427 = true then ((waybilllaw12_awake.f k).bind fun t428 => (some t428)) else (none))) else (none)) else ((waybilllaw12_awake.f k).bind fun t429 => (some t429))) else (none))) else (if (bt408.2 == false) = true then (if bt408.2 = true then (if bt412.2.2.2.2.2 = true then ((waybillref7_SameMsg.f bt412.1 bt412.2.1 bt412.2.2.1 bt412.2.2.2.1 bt412.2.2.2.2.1 x386000 x386001 x386002 x386003 x386004).bind fun t430 => (if t430 = true then ((waybilllaw12_awake.f k).bind fun t431 => (some t431)) else (none))) else (none)) else ((waybilllaw12_awake.f k).bind fun t432 => (some t432))) else (none))) else (if (bt408.2 == false) = true then (if bt408.2 = true then (if bt412.2.2.2.2.2 = true then ((waybillref7_SameMsg.f bt412.1 bt412.2.1 bt412.2.2.1 bt412.2.2.2.1 bt412.2.2.2.2.1 x386000 x386001 x386002 x386003 x386004).bind fun t433 => (if t433 = true then ((waybilllaw12_awake.f k).bind fun t434 => (some t434)) else (none))) else (none)) else ((waybilllaw12_awake.f k).bind fun t435 => (some t435))) else (none))) else (if (bt408.2 == false) = true then (if bt408.2 = true then (if bt412.2.2.2.2.2 = true then ((waybillref7_SameMsg.f bt412.1 bt412.2.1 bt412.2.2.1 bt412.2.2.2.1 bt412.2.2.2.2.1 x386000 x386001 x386002 x386003 x386004).bind fun t436 => (if t436 = true then ((waybilllaw12_awake.f k).bind fun t437 => (some t437)) else (none))) else (none)) else ((waybilllaw12_awake.f k).bind fun t438 => (some t438))) else (none)))))
def waybilllaw12_KeysBack.f (k : Nat) (a0_0 : Int) (a0_1 : ByteArray) (a0_2 : ByteArray) (a0_3 : ByteArray) (a0_4 : Int) (a1_0 : Int) (a1_1 : ByteArray) (a1_2 : ByteArray) (a1_3 : ByteArray) (a1_4 : Int) (a2_0 : ByteArray) (a2_1 : ByteArray) (a2_2 : ByteArray) (a2_3 : Int) (l2_4 : List Int) : Option (Bool) := if (l2_4.length : Int) > 11000 then ((waybilllaw12_awake.f k).bind fun t386 => (some t386)) else ((waybilllaw12_Tame.f k a0_0 a0_1 a0_2 a0_3 a0_4).bind fun bt387 => ((waybilllaw12_Tame.f k a1_0 a1_1 a1_2 a1_3 a1_4).bind fun bt392 => ((keys_Text.f k bt387.1 bt387.2.1 bt387.2.2.1 bt387.2.2.2.1 bt387.2.2.2.2).bind fun bt397 => ((keys_Text.f k bt392.1 bt392.2.1 bt392.2.2.1 bt392.2.2.2.1 bt392.2.2.2.2).bind fun bt399 => ((keys_Parse.f k bt397.1).bind fun bt401 => (if bt397.2 = true then (if bt399.2 = true then (if bt401.2.2.2.2.2 = true then (if (!(bt401.1 == bt387.1) || (!(bt401.2.1.toList == bt387.2.1.toList) || (!(bt401.2.2.1.toList == bt387.2.2.1.toList) || (!(bt401.2.2.2.1.toList == bt387.2.2.2.1.toList) || (!(bt401.2.2.2.2.1 == bt387.2.2.2.2)))))) = true then (waybilllaw12_KeysBack.j0 k true a2_0 a2_1 a2_2 a2_3 l2_4) else (if ((bt397.1.toList == bt399.1.toList) != (bt387.1 == bt392.1 && (bt387.2.1.toList == bt392.2.1.toList && (bt387.2.2.1.toList == bt392.2.2.1.toList && (bt387.2.2.2.1.toList == bt392.2.2.2.1.toList && (bt387.2.2.2.2 == bt392.2.2.2.2)))))) = true then (waybilllaw12_KeysBack.j0 k true a2_0 a2_1 a2_2 a2_3 l2_4) else (waybilllaw12_KeysBack.j0 k (decide ((bt397.1.size : Int) > 130)) a2_0 a2_1 a2_2 a2_3 l2_4))) else (waybilllaw12_KeysBack.j0 k true a2_0 a2_1 a2_2 a2_3 l2_4)) else (waybilllaw12_KeysBack.j0 k true a2_0 a2_1 a2_2 a2_3 l2_4)) else (waybilllaw12_KeysBack.j0 k true a2_0 a2_1 a2_2 a2_3 l2_4)))))))
theorem waybilllaw12_KeysBack.mono_l : ∀ k, (∀ y0 y1 y2 y3 y4 y5, LeO (waybilllaw12_KeysBack.j0 k y0 y1 y2 y3 y4 y5) (waybilllaw12_KeysBack.j0 (k + 1) y0 y1 y2 y3 y4 y5))
  | 0 => fun _ _ _ _ _ _ r h => by simp [waybilllaw12_KeysBack.j0] at h
  | k + 1 => by
    have ih0 := waybilllaw12_KeysBack.mono_l k
    · intro y0 y1 y2 y3 y4 y5
      unfold waybilllaw12_KeysBack.j0
      repeat' first
      | (with_reducible exact ih0 _ _ _ _ _ _)
      | (with_reducible exact keys_Msg.mono _ _ _ _ _ _)
      | (with_reducible exact keys_Parse.mono _ _)
      | (with_reducible exact keys_ParseMsg.mono _ _)
      | (with_reducible exact keys_Text.mono _ _ _ _ _ _)
      | (with_reducible exact waybilllaw12_Tame.mono _ _ _ _ _ _)
      | (with_reducible exact waybilllaw12_awake.mono _)
      | (with_reducible exact LeO.refl _)
      | (with_reducible exact LeO.none _)
      | (with_reducible refine LeO.ite ?_ ?_)
      | (with_reducible refine LeO.bind ?_ (fun _ => ?_))
      | exact ih0 _ _ _ _ _ _
      | exact keys_Msg.mono _ _ _ _ _ _
      | exact keys_Parse.mono _ _
      | exact keys_ParseMsg.mono _ _
      | exact keys_Text.mono _ _ _ _ _ _
      | exact waybilllaw12_Tame.mono _ _ _ _ _ _
      | exact waybilllaw12_awake.mono _
      | exact LeO.none _
      | refine LeO.ite ?_ ?_
      | refine LeO.bind ?_ (fun _ => ?_)
theorem waybilllaw12_KeysBack.mono : ∀ a0 a1 a2 a3 a4 a5 a6 a7 a8 a9 a10 a11 a12 a13 a14 k, LeO (waybilllaw12_KeysBack.f k a0 a1 a2 a3 a4 a5 a6 a7 a8 a9 a10 a11 a12 a13 a14) (waybilllaw12_KeysBack.f (k + 1) a0 a1 a2 a3 a4 a5 a6 a7 a8 a9 a10 a11 a12 a13 a14) := by
  intro a0 a1 a2 a3 a4 a5 a6 a7 a8 a9 a10 a11 a12 a13 a14 k
  have ih0 := waybilllaw12_KeysBack.mono_l k
  unfold waybilllaw12_KeysBack.f
  repeat' first
      | (with_reducible exact ih0 _ _ _ _ _ _)
      | (with_reducible exact keys_Msg.mono _ _ _ _ _ _)
      | (with_reducible exact keys_Parse.mono _ _)
      | (with_reducible exact keys_ParseMsg.mono _ _)
      | (with_reducible exact keys_Text.mono _ _ _ _ _ _)
      | (with_reducible exact waybilllaw12_Tame.mono _ _ _ _ _ _)
      | (with_reducible exact waybilllaw12_awake.mono _)
      | (with_reducible exact LeO.refl _)
      | (with_reducible exact LeO.none _)
      | (with_reducible refine LeO.ite ?_ ?_)
      | (with_reducible refine LeO.bind ?_ (fun _ => ?_))
      | exact ih0 _ _ _ _ _ _
      | exact keys_Msg.mono _ _ _ _ _ _
      | exact keys_Parse.mono _ _
      | exact keys_ParseMsg.mono _ _
      | exact keys_Text.mono _ _ _ _ _ _
      | exact waybilllaw12_Tame.mono _ _ _ _ _ _
      | exact waybilllaw12_awake.mono _
      | exact LeO.none _
      | refine LeO.ite ?_ ?_
      | refine LeO.bind ?_ (fun _ => ?_)
end Go.Proofs.Ytpjkaodbcclecaa.PK
