/-
Octets that end before their number, their short text or their long text are told as such; what was whole before that is read.
-/
import Derived.Test.YtlhcjgmdcnmnnaaPAx8
import Derived.Test.YtlhcjgmdcnmnnaaAOctsTxt
import Derived.Test.YtlhcjgmdcnmnnaaAOctsMask
import Derived.Test.YtlhcjgmdcnmnnaaAOctsAwake1
namespace Go.Proofs.Ytlhcjgmdcnmnnaa.Pure
open Go.RowKit Go.Proofs.Ytlhcjgmdcnmnnaa.PA Go.Proofs.YtlhcjgmdcnmnnaaW.PrintWords Go.Proofs.YtlhcjgmdcnmnnaaW.PrintLast Go.Proofs.YtlhcjgmdcnmnnaaW.PrintMore
set_option linter.unusedVariables false
set_option linter.unusedSimpArgs false
theorem txt_pre (n m c : Nat) (a rest : List Int) (ha : a.length = m) (hm : (m : Int) < 256 ^ n) :
    txt ((be n m ++ (a ++ rest)).take c) n = if c < n + m then none else some (a, rest.take (c - n - m)) := by
  have hb := be_len n (m : Int)
  have hl : ((be n (m : Int) ++ (a ++ rest)).take c).length = min c (n + (m + rest.length)) := by rw [List.length_take, List.length_append, List.length_append, hb, ha]
  unfold txt
  rw [hl]
  by_cases h1 : c < n
  · rw [if_pos (by omega), if_pos (by omega)]
  have ht : ((be n (m : Int) ++ (a ++ rest)).take c).take n = be n m := by rw [List.take_take, Nat.min_eq_left (by omega), List.take_left' hb]
  have hd : ((be n (m : Int) ++ (a ++ rest)).take c).drop n = (a ++ rest).take (c - n) := by rw [List.drop_take, List.drop_left' hb]
  have hn : num (be n (m : Int)) = m := by rw [num_be, Int.emod_eq_of_lt (by omega) hm]
  rw [if_neg (by omega), ht, hd, hn]
  by_cases h2 : c < n + m
  · rw [if_pos h2, if_pos (by omega)]
  · rw [if_neg h2, if_neg (by omega), Int.toNat_natCast, List.take_take, Nat.min_eq_left (by omega), List.take_left' ha, List.drop_take, List.drop_left' ha]
theorem int_pre (K c : Nat) (v : Int) (R : List Int) (hK : 9 ≤ K) (ho : Oct R) (hl : R.length + 8 < 140737488355328) :
    octs_In_Int.f K ((be 4 v ++ R).take c) false 4 = some (if c < 4 then (0, [], true) else (v % 256 ^ 4, R.take (c - 4), false)) := by
  have hb := be_len 4 v
  have w4 : wd 4 = 4 := by decide
  have hlen : ((be 4 v ++ R).take c).length = min c (4 + R.length) := by rw [List.length_take, List.length_append, hb]
  rw [In_Int K _ 4 hK (oct_take (oct_app (be_oct _ _) ho) _) (by omega), w4, hlen]
  by_cases h : c < 4
  · rw [if_pos (by omega), if_pos h]
  · rw [if_neg (by omega), if_neg h, List.take_take, Nat.min_eq_left (by omega), List.take_left' hb, List.drop_take, List.drop_left' hb, num_be]
theorem Cuts_of (K : Nat) (s : ByteArray) (v cut m : Int) (B0 B : List Int) (c : Nat) (p1 : List Int × Bool) (q0 : List Int × Bool) (q1 : Int × List Int × Bool) (q2 : ByteArray × List Int × Bool) (q3 : List Int × List Int × Bool) (q4 : Bool × List Int × Bool) (q5 : Int × List Int × Bool)
    (hs : s.size ≤ 200) (haw : waybilllaw1_awake.f K = some true) (h1 : octs_Int.f K [] 4 v = some B0) (h2 : octs_Short.f K B0 s = some p1) (h3 : octs_Long.f K p1.1 (bytesOf s) = some B)
    (hB : wrap64 ((B.length : Int) + 1) ≠ 0) (hc : Int.tmod (Go.bits .and .i64 cut 65535) (wrap64 ((B.length : Int) + 1)) = (c : Int)) (hcB : (c : Int) ≤ (B.length : Int)) (hm : Go.bits .and .u64 v 4294967295 = m)
    (h0 : octs_From.f (B.take (c : Int).toNat) = some q0) (h4 : octs_In_Int.f K q0.1 q0.2 4 = some q1) (h5 : octs_In_Short.f K q1.2.1 q1.2.2 = some q2) (h6 : octs_In_Long.f K q2.2.1 q2.2.2 = some q3) (h7 : octs_In_Ok.f q3.2.1 q3.2.2 = some q4) (h8 : octs_In_Left.f q4.2.1 q4.2.2 = some q5)
    (E1 : (q1.1 == m) = if (c : Int) ≥ 4 then true else (m == 0)) (E2 : (q2.1.toList == s.toList) = if (c : Int) ≥ wrap64 (5 + (s.size : Int)) then true else s.toList.isEmpty) (E3 : ((strOfNums q3.1).toList == s.toList) = if (c : Int) = (B.length : Int) then true else s.toList.isEmpty)
    (E4 : (q4.1 == ((c : Int) == (B.length : Int))) = true) (E5 : q5.1 = 0) : waybilllaw1_OctsCuts.f K s v cut = some true := by
  unfold waybilllaw1_OctsCuts.f
  rw [if_neg (show ¬ (s.size : Int) > 200 by omega), h1, Option.bind_some, h2, Option.bind_some, if_pos (show s.size ≤ 9223372036854775807 by omega), h3, Option.bind_some, if_neg hB, hc, if_pos (show (0 : Int) ≤ (c : Int) by omega), if_pos hcB, h0, Option.bind_some, h4, Option.bind_some, h5, Option.bind_some, h6, Option.bind_some, hm, E1, E2, E3, h7]
  by_cases a : (c : Int) ≥ 4
  · rw [if_pos a, if_pos a, if_pos (show (true == true) = true from rfl)]
    by_cases b : (c : Int) ≥ wrap64 (5 + (s.size : Int))
    · rw [if_pos b, if_pos b, if_pos (show (true == true) = true from rfl)]
      by_cases d : (c : Int) = (B.length : Int)
      · rw [if_pos d, if_pos d, if_pos (show (true == true) = true from rfl), Option.bind_some, if_pos E4, h8, Option.bind_some, if_pos E5, haw, Option.bind_some]
      · rw [if_neg d, if_neg d, if_pos (beq_self_eq_true _), Option.bind_some, if_pos E4, h8, Option.bind_some, if_pos E5, haw, Option.bind_some]
    · rw [if_neg b, if_neg b, if_pos (beq_self_eq_true _)]
      by_cases d : (c : Int) = (B.length : Int)
      · rw [if_pos d, if_pos d, if_pos (show (true == true) = true from rfl), Option.bind_some, if_pos E4, h8, Option.bind_some, if_pos E5, haw, Option.bind_some]
      · rw [if_neg d, if_neg d, if_pos (beq_self_eq_true _), Option.bind_some, if_pos E4, h8, Option.bind_some, if_pos E5, haw, Option.bind_some]
  · rw [if_neg a, if_neg a, if_pos (beq_self_eq_true _)]
    by_cases b : (c : Int) ≥ wrap64 (5 + (s.size : Int))
    · rw [if_pos b, if_pos b, if_pos (show (true == true) = true from rfl)]
      by_cases d : (c : Int) = (B.length : Int)
      · rw [if_pos d, if_pos d, if_pos (show (true == true) = true from rfl), Option.bind_some, if_pos E4, h8, Option.bind_some, if_pos E5, haw, Option.bind_some]
      · rw [if_neg d, if_neg d, if_pos (beq_self_eq_true _), Option.bind_some, if_pos E4, h8, Option.bind_some, if_pos E5, haw, Option.bind_some]
    · rw [if_neg b, if_neg b, if_pos (beq_self_eq_true _)]
      by_cases d : (c : Int) = (B.length : Int)
      · rw [if_pos d, if_pos d, if_pos (show (true == true) = true from rfl), Option.bind_some, if_pos E4, h8, Option.bind_some, if_pos E5, haw, Option.bind_some]
      · rw [if_neg d, if_neg d, if_pos (beq_self_eq_true _), Option.bind_some, if_pos E4, h8, Option.bind_some, if_pos E5, haw, Option.bind_some]
theorem OctsCuts : waybilllaw1_OctsCuts.Pure := by
  intro s v cut hs hv hc
  have hv' : 0 ≤ v ∧ v < 18446744073709551616 := by
    simp [Lit.wf, IntKind.min, IntKind.max, IntKind.signed, IntKind.bits] at hv
    omega
  refine ⟨60, ?_⟩
  have haw := awake1_ok 60 (by omega)
  by_cases h : (s.size : Int) > 200
  · unfold waybilllaw1_OctsCuts.f
    rw [if_pos h, haw]; rfl
  obtain ⟨B0, T1, B, S, h1, h2, h3, hL, hi, hsh, hlong, hst⟩ : ∃ (B0 T1 B S : List Int), octs_Int.f 60 [] 4 v = some B0 ∧ octs_Short.f 60 B0 s = some (T1, true) ∧ octs_Long.f 60 T1 (bytesOf s) = some B ∧ B.length = 9 + 2 * s.size ∧
      (∀ c, ∃ R1, octs_In_Int.f 60 (B.take c) false 4 = some (if c < 4 then (0, [], true) else (v % 256 ^ 4, R1, false)) ∧ (¬ c < 4 → ∃ R2, octs_In_Short.f 60 R1 false = some (if c < 5 + s.size then (strOfNums [], [], true) else (s, R2, false)) ∧
        (¬ c < 5 + s.size → octs_In_Long.f 60 R2 false = some (if c < 9 + 2 * s.size then ([], [], true) else (S, [], false))))) ∧ True ∧ True ∧ strOfNums S = s := by
    have w4 : wd 4 = 4 := by decide
    have hbl := bytesOf_len s
    have hbo := oct_bytesOf s
    have hR2 : Oct (be 4 (s.size : Int) ++ (bytesOf s ++ [])) := oct_app (be_oct _ _) (oct_app hbo oct_nil)
    have hr2 : (be 4 (s.size : Int) ++ (bytesOf s ++ [])).length = 4 + s.size := by simp [be_len, hbl]
    have hR1 : Oct (be 1 (s.size : Int) ++ (bytesOf s ++ (be 4 (s.size : Int) ++ (bytesOf s ++ [])))) := oct_app (be_oct _ _) (oct_app hbo hR2)
    have hr1 : (be 1 (s.size : Int) ++ (bytesOf s ++ (be 4 (s.size : Int) ++ (bytesOf s ++ [])))).length = 5 + 2 * s.size := by simp [be_len, hbl]; omega
    refine ⟨be 4 v, be 4 v ++ (be 1 (s.size : Int) ++ bytesOf s), be 4 v ++ (be 1 (s.size : Int) ++ (bytesOf s ++ (be 4 (s.size : Int) ++ (bytesOf s ++ [])))), bytesOf s, ?_, ?_, ?_, ?_, ?_, trivial, trivial, str_bytesOf s⟩
    · rw [Int_f 60 (by omega) [] 4 v (by simp), w4, List.nil_append]
    · rw [Short_f 60 _ s (by omega) (by simp [be_len]), if_pos (by omega)]
    · rw [Long_f 60 _ _ (by omega) (by simp [be_len, hbl]; omega), hbl, List.append_nil]
      simp only [List.append_assoc]
    · rw [List.length_append, hr1, be_len]; omega
    · intro c
      refine ⟨(be 1 (s.size : Int) ++ (bytesOf s ++ (be 4 (s.size : Int) ++ (bytesOf s ++ [])))).take (c - 4), int_pre 60 c v _ (by omega) hR1 (by omega), fun h4 => ⟨(be 4 (s.size : Int) ++ (bytesOf s ++ [])).take (c - 4 - 1 - s.size), ?_, fun h5 => ?_⟩⟩
      · rw [In_Short 60 _ (by omega) (oct_take hR1 _) (by rw [List.length_take]; omega), txt_pre 1 s.size (c - 4) (bytesOf s) _ hbl (by omega)]
        by_cases h5 : c < 5 + s.size
        · rw [if_pos (by omega), if_pos h5]; rfl
        · rw [if_neg (by omega), if_neg h5]
          show some (strOfNums (bytesOf s), _, false) = _
          rw [str_bytesOf]
      · rw [In_Long 60 _ (by omega) (oct_take hR2 _) (by rw [List.length_take]; omega), txt_pre 4 s.size (c - 4 - 1 - s.size) (bytesOf s) [] hbl (by omega)]
        by_cases h6 : c < 9 + 2 * s.size
        · rw [if_pos (by omega), if_pos h6]; rfl
        · rw [if_neg (by omega), if_neg h6, List.take_nil]; rfl
  have hm2 := Aside0.mk (show Go.bits .and .u64 v 4294967295 = v % 256 ^ 4 from mask 4 (by omega) v hv'.1 hv'.2)
  obtain ⟨M, hM⟩ : ∃ M, v % 256 ^ 4 = M := ⟨_, rfl⟩
  rw [hM] at hm2
  simp only [hM] at hi
  clear hM hv hv' hc
  have hc16 := and16 cut
  obtain ⟨X, hX0⟩ : ∃ X, Go.bits .and .i64 cut 65535 = X := ⟨_, rfl⟩
  rw [hX0] at hc16
  have hX := Aside0.mk hX0
  clear hX0
  have hw : wrap64 ((B.length : Int) + 1) = (B.length : Int) + 1 := w64_id _ (by omega) (by omega)
  have ht := tmod_in X ((B.length : Int) + 1) hc16.1 (by omega)
  obtain ⟨Y, hY⟩ : ∃ Y, Int.tmod X ((B.length : Int) + 1) = Y := ⟨_, rfl⟩
  rw [hY] at ht
  obtain ⟨c, rfl⟩ : ∃ c : Nat, Y = (c : Int) := ⟨Y.toNat, by clear hY hw; omega⟩
  have hcq := Aside0.mk (show Int.tmod (Go.bits .and .i64 cut 65535) (wrap64 ((B.length : Int) + 1)) = (c : Int) by rw [hX.out, hw]; exact hY)
  have hwn := Aside0.mk (show wrap64 ((B.length : Int) + 1) ≠ 0 by rw [hw]; clear hw hY; omega)
  have hw5 := Aside0.mk (show wrap64 (5 + (s.size : Int)) = 5 + (s.size : Int) from w64_id _ (by omega) (by omega))
  clear hw hY hX hc16 hs
  have hcl : (c : Int) ≤ (B.length : Int) := by omega
  have hs2 : s.size ≤ 200 := by omega
  have hne : ((⟨#[]⟩ : ByteArray).toList == s.toList) = s.toList.isEmpty := by
    have : (⟨#[]⟩ : ByteArray).toList = [] := by rw [ByteArray.toList_eq]
    rw [this]
    cases s.toList <;> rfl
  have hnil : strOfNums [] = (⟨#[]⟩ : ByteArray) := rfl
  obtain ⟨R1, hi, hsh⟩ := hi c
  have hfrom : octs_From.f (B.take (c : Int).toNat) = some (B.take c, false) := rfl
  by_cases h4 : c < 4
  · rw [if_pos h4] at hi
    refine Cuts_of 60 s v cut M B0 B c (T1, true) (B.take c, false) (0, [], true) (strOfNums [], [], true) ([], [], true) (false, [], true) (0, [], true) hs2 haw h1 h2 h3 hwn.out hcq.out hcl hm2.out hfrom hi (In_Short_bad 60 _) (In_Long_bad 60 _) rfl rfl ?_ ?_ ?_ ?_ rfl
    · rw [if_neg (by omega), Bool.eq_iff_iff, beq_iff_eq, beq_iff_eq]; exact eq_comm
    · rw [hw5.out, if_neg (by omega), hnil]; exact hne
    · rw [if_neg (by omega), hnil]; exact hne
    · rw [beq_eq_false_iff_ne.2 (show (c : Int) ≠ (B.length : Int) by omega)]; rfl
  rw [if_neg h4] at hi
  obtain ⟨R2, hsh, hlong⟩ := hsh h4
  by_cases h5 : c < 5 + s.size
  · rw [if_pos h5] at hsh
    refine Cuts_of 60 s v cut M B0 B c (T1, true) (B.take c, false) (M, R1, false) (strOfNums [], [], true) ([], [], true) (false, [], true) (0, [], true) hs2 haw h1 h2 h3 hwn.out hcq.out hcl hm2.out hfrom hi hsh (In_Long_bad 60 _) rfl rfl ?_ ?_ ?_ ?_ rfl
    · rw [if_pos (by omega)]; exact beq_self_eq_true _
    · rw [hw5.out, if_neg (by omega), hnil]; exact hne
    · rw [if_neg (by omega), hnil]; exact hne
    · rw [beq_eq_false_iff_ne.2 (show (c : Int) ≠ (B.length : Int) by omega)]; rfl
  rw [if_neg h5] at hsh
  have hlong := hlong h5
  by_cases h6 : c < 9 + 2 * s.size
  · rw [if_pos h6] at hlong
    refine Cuts_of 60 s v cut M B0 B c (T1, true) (B.take c, false) (M, R1, false) (s, R2, false) ([], [], true) (false, [], true) (0, [], true) hs2 haw h1 h2 h3 hwn.out hcq.out hcl hm2.out hfrom hi hsh hlong rfl rfl ?_ ?_ ?_ ?_ rfl
    · rw [if_pos (by omega)]; exact beq_self_eq_true _
    · rw [hw5.out, if_pos (by omega)]; exact beq_self_eq_true _
    · rw [if_neg (by omega), hnil]; exact hne
    · rw [beq_eq_false_iff_ne.2 (show (c : Int) ≠ (B.length : Int) by omega)]; rfl
  · rw [if_neg h6] at hlong
    refine Cuts_of 60 s v cut M B0 B c (T1, true) (B.take c, false) (M, R1, false) (s, R2, false) (S, [], false) (true, [], false) (0, [], false) hs2 haw h1 h2 h3 hwn.out hcq.out hcl hm2.out hfrom hi hsh hlong rfl rfl ?_ ?_ ?_ ?_ rfl
    · rw [if_pos (by omega)]; exact beq_self_eq_true _
    · rw [hw5.out, if_pos (by omega)]; exact beq_self_eq_true _
    · rw [if_pos (by omega), hst]; exact beq_self_eq_true _
    · rw [beq_iff_eq.2 (show (c : Int) = (B.length : Int) by omega)]; rfl
end Go.Proofs.Ytlhcjgmdcnmnnaa.Pure
