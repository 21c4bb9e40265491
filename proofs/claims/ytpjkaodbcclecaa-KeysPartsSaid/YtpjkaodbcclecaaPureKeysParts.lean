/-
Each text of a key stands behind its length, and its number at the end in eight octets; a message's body is all that is left: for any texts, any number, any body.
-/
import Derived.Test.YtpjkaodbcclecaaKKeysTame
import Derived.Test.YtpjkaodbcclecaaKKeysStr
import Derived.Test.YtpjkaodbcclecaaKOctsRefNum
import Derived.Test.YtpjkaodbcclecaaKOctsAwake12
import Derived.Test.YtpjkaodbcclecaaPKx9
namespace Go.Proofs.Ytpjkaodbcclecaa.Pure
open Go.RowKit Go.Proofs.Ytpjkaodbcclecaa.PK Go.Proofs.YtpjkaodbcclecaaW.PrintWords Go.Proofs.YtpjkaodbcclecaaW.PrintLast Go.Proofs.YtpjkaodbcclecaaW.PrintMore
set_option linter.unusedVariables false
set_option linter.unusedSimpArgs false
theorem keyOct3 (a b c : ByteArray) (id : Int) : keyOct 3 a b c id = [3] ++ (part true a ++ (part true b ++ part true c)) := by
  show [3] ++ (part true a ++ (part true b ++ (part true c ++ []))) = _
  rw [List.append_nil]
theorem part_eq (s : ByteArray) (h : s.size < 256) : part true s = [(s.size : Int)] ++ bytesOf s := by
  unfold part
  rw [if_pos rfl, be_one _ h]
theorem parts_walk (k : Nat) (hk : 40 ≤ k) (A : ByteArray) (I : Int) (l : List Int) (s t u : ByteArray) (m v5 v4 : List Int) (n : Nat) (z3 : s.size = n + A.size + 4) (z5 : t.size = 10 + A.size) (z4 : u.size = 9)
    (hA : A.size ≤ 30) (hn : n ≤ 100) (hl : l.length ≤ 10000) (q : Nat) (hq : q ≤ 200) (zM : m.length = q + l.length) (dM : m.drop q = l) (b30 : bt s 0 = 3) (b31 : bt s 1 = A.size) (b50 : bt t 0 = 5) (b40 : bt u 0 = 4)
    (x3 : (s.extract 2 (2 + A.size)).toList = A.toList) (n5 : waybillref1_Num.f k (bytesOf t) (2 + (A.size : Int)) 8 = some (I, true)) (n4 : waybillref1_Num.f k (bytesOf u) 1 8 = some (I, true)) :
    waybilllaw12_KeysParts.j0 (k + 1) A I l s t u m false = some true := by
  have hm : (m.length : Int) - (l.length : Int) = (q : Int) := by omega
  have tn : (2 + (A.size : Int)).toNat = 2 + A.size := by omega
  have e0 : (0 : Int) < (s.size : Int) := by omega
  have e1 : (1 : Int) < (s.size : Int) := by omega
  have e2 : (2 : Int) ≤ 2 + (A.size : Int) := by omega
  have e3 : 2 + (A.size : Int) ≤ (s.size : Int) := by omega
  have e4 : (0 : Int) < (t.size : Int) := by omega
  have e5 : (0 : Int) < (u.size : Int) := by omega
  have e6 : (0 : Int) ≤ (q : Int) := by omega
  have e7 : (q : Int) ≤ (m.length : Int) := by omega
  have e8 : t.size ≤ 9223372036854775807 := by omega
  have e9 : u.size ≤ 9223372036854775807 := by omega
  rw [waybilllaw12_KeysParts.j0, if_neg (by simp), if_pos e8, w64_id (2 + (A.size : Int)) (by omega) (by omega), n5, Option.bind_some, if_pos e9, n4, Option.bind_some, if_pos e0, if_pos b30, if_pos e1, b31, w64_id (A.size : Int) (by omega) (by omega), if_pos (Eq.refl (A.size : Int)), if_pos e2, if_pos e3, tn, if_pos x3, if_pos e4, if_pos b50, if_pos e5, if_pos b40]
  dsimp only
  rw [if_pos (Eq.refl I), if_pos (Eq.refl I), hm, w64_id (q : Int) (by omega) (by omega), if_pos e6, if_pos e7, Int.toNat_natCast, dM, if_pos (Eq.refl _), awake12_ok _ (by omega)]
  rfl
theorem parts_j (k : Nat) (hk : 40 ≤ k) (A B C : ByteArray) (I : Int) (l : List Int) (hA : A.size ≤ 30) (hB : B.size ≤ 30) (hC : C.size ≤ 60) (hI : 0 ≤ I ∧ I < 18446744073709551616) (hl : l.length ≤ 10000) (ho : Oct l) (z3 : (strOfNums (keyOct 3 A B C 0)).size = 4 + A.size + B.size + C.size) (z5 : (strOfNums (keyOct 5 A ⟨#[]⟩ ⟨#[]⟩ I)).size = 10 + A.size) (z4 : (strOfNums (keyOct 4 ⟨#[]⟩ ⟨#[]⟩ ⟨#[]⟩ I)).size = 9) (zM : (msgOct A C ⟨#[]⟩ 1 l).length = 4 + A.size + C.size + l.length) :
    waybilllaw12_KeysParts.j0 (k + 1) A I l (strOfNums (keyOct 3 A B C 0)) (strOfNums (keyOct 5 A ⟨#[]⟩ ⟨#[]⟩ I)) (strOfNums (keyOct 4 ⟨#[]⟩ ⟨#[]⟩ ⟨#[]⟩ I)) (msgOct A C ⟨#[]⟩ 1 l) false = some true := by
  have pA : (part true A).length = 1 + A.size := by rw [part_len, if_pos rfl]
  have pC : (part true C).length = 1 + C.size := by rw [part_len, if_pos rfl]
  have pE : (part true (⟨#[]⟩ : ByteArray)).length = 1 := by rw [part_len, if_pos rfl]; rfl
  have l8 := be_len 8 I
  have bA := bytesOf_len A
  have o3 := key_oct 3 A B C 0
  have o4 := key_oct 4 ⟨#[]⟩ ⟨#[]⟩ ⟨#[]⟩ I
  have o5 := key_oct 5 A ⟨#[]⟩ ⟨#[]⟩ I
  have hA' := part_eq A (by omega)
  have nI : num (be 8 I) = I := by rw [num_be, show (256 : Int) ^ 8 = 18446744073709551616 by decide, Int.emod_eq_of_lt hI.1 hI.2]
  have s5 : ([5] ++ part true A : List Int).length = 2 + A.size := by rw [List.length_append, pA]; simp; omega
  have n5 := Num_at k (by omega) ([5] ++ part true A) (be 8 I) [] (2 + (A.size : Int)) 8 (by rw [s5]; omega) (by rw [l8]; rfl) (by omega) (be_oct _ _) (by rw [s5, l8]; simp; omega) (oct_app (by intro x hx; rw [List.mem_singleton] at hx; omega) (part_oct _ _)) oct_nil
  have n4 := Num_at k (by omega) [4] (be 8 I) [] 1 8 rfl (by rw [l8]; rfl) (by omega) (be_oct _ _) (by rw [l8]; simp) (by intro x hx; rw [List.mem_singleton] at hx; omega) oct_nil
  rw [List.append_nil, nI] at n5 n4
  have dM : (msgOct A C ⟨#[]⟩ 1 l).drop (4 + A.size + C.size) = l := by
    have e : msgOct A C ⟨#[]⟩ 1 l = (part true A ++ (part true C ++ (part true ⟨#[]⟩ ++ be 1 1))) ++ l := by unfold msgOct; simp only [List.append_assoc]
    rw [e]
    refine List.drop_left' ?_
    rw [List.length_append, List.length_append, List.length_append, pA, pC, pE, be_len]; omega
  have b30 : bt (strOfNums (keyOct 3 A B C 0)) 0 = 3 := by rw [bt_str o3]; rfl
  have b31 : bt (strOfNums (keyOct 3 A B C 0)) 1 = A.size := by rw [bt_str o3, keyOct3, hA']; rfl
  have b50 : bt (strOfNums (keyOct 5 A ⟨#[]⟩ ⟨#[]⟩ I)) 0 = 5 := by rw [bt_str o5]; rfl
  have b40 : bt (strOfNums (keyOct 4 ⟨#[]⟩ ⟨#[]⟩ ⟨#[]⟩ I)) 0 = 4 := by rw [bt_str o4]; rfl
  have x3 : ((strOfNums (keyOct 3 A B C 0)).extract 2 (2 + A.size)).toList = A.toList := by
    have e : keyOct 3 A B C 0 = ([3] ++ [(A.size : Int)]) ++ (bytesOf A ++ (part true B ++ part true C)) := by rw [keyOct3, hA']; simp only [List.append_assoc]
    rw [e, ext_str ([3] ++ [(A.size : Int)]) (bytesOf A) _ 2 (2 + A.size) rfl (by rw [bA]; rfl), u8s_bytesOf]
  have y5 : bytesOf (strOfNums (keyOct 5 A ⟨#[]⟩ ⟨#[]⟩ I)) = ([5] ++ part true A) ++ be 8 I := by rw [bytesOf_str o5, keyOct5]
  have y4 : bytesOf (strOfNums (keyOct 4 ⟨#[]⟩ ⟨#[]⟩ ⟨#[]⟩ I)) = [4] ++ be 8 I := by rw [bytesOf_str o4, keyOct4]
  rw [← y5] at n5
  rw [← y4] at n4
  exact parts_walk k hk A I l _ _ _ _ [] [] (B.size + C.size) (by omega) z5 z4 hA (by omega) hl (4 + A.size + C.size) (by omega) (by omega) dM b30 b31 b50 b40 x3 n5 n4
theorem KeysParts : waybilllaw12_KeysParts.Pure := by
  intro a0 a1 a2 a3 l4 h0 h1 h2 h3 h4 h5 h6
  refine ⟨41, ?_⟩
  unfold waybilllaw12_KeysParts.f
  by_cases hl : (l4.length : Int) > 10000
  · rw [if_pos hl, awake12_ok _ (by omega)]
    rfl
  have ho : Oct l4 := oct_wf h6
  have ca := cut_ok a0 29 (by omega)
  have cb := cut_ok a1 29 (by omega)
  have cc := cut_ok a2 60 (by omega)
  have na := cut_name ⟨#[97]⟩ rfl _ ca.2.2
  have nb := cut_name ⟨#[98]⟩ rfl _ cb.2.2
  have e0 : nameOk (⟨#[]⟩ : ByteArray) false = true := by decide
  have z0 : (⟨#[]⟩ : ByteArray).size = 0 := rfl
  have p3 := mx_pos a3
  have q3 := mx_lt a3 (u64_wf h3).2
  rw [if_neg hl, if_pos ca.1, if_pos ca.2.1, if_pos (by omega), if_pos cb.1, if_pos cb.2.1, if_pos (by omega), if_pos cc.1, if_pos cc.2.1]
  generalize mx a3 1 = I at *
  have hA : ((⟨#[97]⟩ : ByteArray) ++ (a0.extract 0 ((mn (a0.size : Int) 29) : Int).toNat)).size ≤ 30 := by rw [ByteArray.size_append, show (⟨#[97]⟩ : ByteArray).size = 1 from rfl]; omega
  have hB : ((⟨#[98]⟩ : ByteArray) ++ (a1.extract 0 ((mn (a1.size : Int) 29) : Int).toNat)).size ≤ 30 := by rw [ByteArray.size_append, show (⟨#[98]⟩ : ByteArray).size = 1 from rfl]; omega
  have hC := cc.2.2
  generalize (⟨#[97]⟩ : ByteArray) ++ (a0.extract 0 ((mn (a0.size : Int) 29) : Int).toNat) = A at *
  generalize (⟨#[98]⟩ : ByteArray) ++ (a1.extract 0 ((mn (a1.size : Int) 29) : Int).toNat) = B at *
  generalize a2.extract 0 ((mn (a2.size : Int) 60) : Int).toNat = C at *
  clear ca cb cc
  have g3 : goodK 3 A B C 0 = true := goodK_of (by decide) na nb (Or.inr (by decide)) (by omega) (by decide)
  have g5 : goodK 5 A ⟨#[]⟩ ⟨#[]⟩ I = true := goodK_of (by decide) na e0 (Or.inl z0) (by rw [z0]; omega) (by rw [decide_eq_true p3]; decide)
  have g4 : goodK 4 ⟨#[]⟩ ⟨#[]⟩ ⟨#[]⟩ I = true := goodK_of (by decide) e0 e0 (Or.inl z0) (by rw [z0]; omega) (by rw [decide_eq_true p3]; decide)
  have gM : goodM A C ⟨#[]⟩ 1 l4 = true := decide_eq_true ⟨hA, by omega, by rw [z0]; omega, by omega, by omega, by omega⟩
  rw [Text_f _ (by omega), if_pos g3, Option.bind_some, Text_f _ (by omega), if_pos g5, Option.bind_some, Text_f _ (by omega), if_pos g4, Option.bind_some, Msg_f _ (by omega), if_pos gM, Option.bind_some]
  dsimp only
  have pA : (part true A).length = 1 + A.size := by rw [part_len, if_pos rfl]
  have pB : (part true B).length = 1 + B.size := by rw [part_len, if_pos rfl]
  have pC : (part true C).length = 1 + C.size := by rw [part_len, if_pos rfl]
  have pE : (part true (⟨#[]⟩ : ByteArray)).length = 1 := by rw [part_len, if_pos rfl]; rfl
  have z3 : (strOfNums (keyOct 3 A B C 0)).size = 4 + A.size + B.size + C.size := by rw [size_str, keyOct3, List.length_append, List.length_append, List.length_append, pA, pB, pC]; simp; omega
  have z5 : (strOfNums (keyOct 5 A ⟨#[]⟩ ⟨#[]⟩ I)).size = 10 + A.size := by rw [size_str, keyOct5, List.length_append, List.length_append, pA, be_len]; simp; omega
  have z4 : (strOfNums (keyOct 4 ⟨#[]⟩ ⟨#[]⟩ ⟨#[]⟩ I)).size = 9 := by rw [size_str, keyOct4, List.length_append, be_len]; rfl
  have zM : (msgOct A C ⟨#[]⟩ 1 l4).length = 4 + A.size + C.size + l4.length := by
    unfold msgOct
    rw [List.length_append, List.length_append, List.length_append, List.length_append, pA, pC, pE, be_len]; omega
  rw [if_pos rfl, if_pos rfl, if_pos rfl, if_pos rfl, w64_id (4 + (A.size : Int)) (by omega) (by omega), w64_id (4 + (A.size : Int) + (B.size : Int)) (by omega) (by omega), w64_id (4 + (A.size : Int) + (B.size : Int) + (C.size : Int)) (by omega) (by omega), if_pos (by rw [z3]; omega), w64_id (10 + (A.size : Int)) (by omega) (by omega), if_pos (by rw [z5]; omega), if_pos (by rw [z4]; rfl), w64_id (4 + (A.size : Int) + (C.size : Int)) (by omega) (by omega), w64_id (4 + (A.size : Int) + (C.size : Int) + (l4.length : Int)) (by omega) (by omega), show (((msgOct A C ⟨#[]⟩ 1 l4).length : Int) != 4 + (A.size : Int) + (C.size : Int) + (l4.length : Int)) = false by rw [bne_eq_false_iff_eq, zM]; omega]
  exact parts_j 40 (by omega) A B C I l4 hA hB (by omega) (by omega) (by omega) ho z3 z5 z4 zM
end Go.Proofs.Ytpjkaodbcclecaa.Pure
