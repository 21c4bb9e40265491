/-
Keys that may be, of any: what waybilllaw12's Tame comes to; texts with one beginning, and of different kinds, in order.
-/
import Derived.Test.YtpjkaodbcclecaaPKx15
import Derived.Test.YtpjkaodbcclecaaKKeysLib
namespace Go.Proofs.Ytpjkaodbcclecaa.Pure
open Go.RowKit Go.Proofs.Ytpjkaodbcclecaa.PK Go.Proofs.YtpjkaodbcclecaaW.PrintWords Go.Proofs.YtpjkaodbcclecaaW.PrintLast Go.Proofs.YtpjkaodbcclecaaW.PrintMore
set_option linter.unusedVariables false
set_option linter.unusedSimpArgs false
theorem u64_wf {a : Int} (h : (Lit.int .u64 a).wf = true) : 0 ≤ a ∧ a < 18446744073709551616 := by
  simp [Lit.wf, IntKind.min, IntKind.max, IntKind.signed, IntKind.bits] at h
  omega
theorem goodK_of {kd : Int} {a b c : ByteArray} {id : Int} (hk : 1 ≤ kd ∧ kd ≤ 5) (ha : nameOk a (wA kd) = true) (hb : nameOk b (wB kd) = true) (hc : c.size = 0 ∨ wB kd = true) (hc2 : c.size ≤ 60) (hi : decide (id > 0) = wI kd) : goodK kd a b c id = true := by
  unfold goodK restOk
  rw [ha, hb, hi, show kindOk kd = true from decide_eq_true hk, decide_eq_true hc2]
  have h4 : (decide (c.size = 0) || wB kd) = true := by
    rcases hc with h | h
    · rw [decide_eq_true h]; rfl
    · rw [h, Bool.or_true]
  rw [h4]
  simp
theorem cut_ok (s : ByteArray) (n : Int) (hn : 0 ≤ n) : 0 ≤ mn (s.size : Int) n ∧ mn (s.size : Int) n ≤ (s.size : Int) ∧ ((s.extract 0 (mn (s.size : Int) n).toNat).size : Int) ≤ n := by
  have h : (s.extract 0 (mn (s.size : Int) n).toNat).size = min (mn (s.size : Int) n).toNat s.size := by rw [ByteArray.size_extract]; omega
  rw [h]
  unfold mn
  split <;> omega
theorem kind_bound (a : Int) : 1 ≤ wrap64 ((Int.tmod (wrap64 ((Int.tmod a 5) + 5)) 5) + 1) ∧ wrap64 ((Int.tmod (wrap64 ((Int.tmod a 5) + 5)) 5) + 1) ≤ 5 := by
  have h1 : -5 < Int.tmod a 5 ∧ Int.tmod a 5 < 5 := by
    constructor
    · exact Int.lt_tmod_of_pos a (by decide)
    · exact Int.tmod_lt_of_pos a (by decide)
  generalize Int.tmod a 5 = x at *
  rw [w64_id (x + 5) (by omega) (by omega)]
  have h2 := Int.tmod_lt_of_pos (x + 5) (show (0 : Int) < 5 by decide)
  have h3 : 0 ≤ Int.tmod (x + 5) 5 := Int.tmod_nonneg 5 (by omega)
  generalize Int.tmod (x + 5) 5 = y at *
  rw [w64_id (y + 1) (by omega) (by omega)]
  omega
theorem cut_name (h : ByteArray) (hh : h.size = 1) (s : ByteArray) (hs : (s.size : Int) ≤ 29) : nameOk (h ++ s) true = true := by
  refine decide_eq_true ?_
  rw [ByteArray.size_append]
  omega
theorem mx_pos (x : Int) : mx x 1 > 0 := by unfold mx; split <;> omega
theorem mx_lt (x : Int) (h : x < 18446744073709551616) : mx x 1 < 18446744073709551616 := by unfold mx; split <;> omega
theorem tame_f (k : Nat) (hk : 1 ≤ k) (a0 : Int) (a b c : ByteArray) (id : Int) (hi : id < 18446744073709551616) :
    ∃ kd a' b' c' id', waybilllaw12_Tame.f k a0 a b c id = some (kd, a', b', c', id') ∧ goodK kd a' b' c' id' = true ∧ 0 ≤ id' ∧ id' < 18446744073709551616 := by
  obtain ⟨k, rfl⟩ : ∃ j, k = j + 1 := ⟨k - 1, by omega⟩
  unfold waybilllaw12_Tame.f
  have hKb := kind_bound a0
  generalize wrap64 ((Int.tmod (wrap64 ((Int.tmod a0 5) + 5)) 5) + 1) = K at *
  have m1 := mx_pos id
  have m2 := mx_lt id hi
  have ca := cut_ok a 29 (by omega)
  have cb := cut_ok b 29 (by omega)
  have cc := cut_ok c 60 (by omega)
  have na := cut_name ⟨#[97]⟩ rfl _ ca.2.2
  have nb := cut_name ⟨#[98]⟩ rfl _ cb.2.2
  have e0 : nameOk (⟨#[]⟩ : ByteArray) false = true := by decide
  have z0 : (⟨#[]⟩ : ByteArray).size = 0 := rfl
  have h5 : K = 1 ∨ K = 2 ∨ K = 3 ∨ K = 4 ∨ K = 5 := by omega
  rcases h5 with rfl | rfl | rfl | rfl | rfl
  · rw [if_neg (by decide), if_pos ca.1, if_pos ca.2.1, if_pos (by omega), waybilllaw12_Tame.j0, if_neg (by decide), if_neg (by decide)]
    exact ⟨_, _, _, _, _, rfl, goodK_of (by decide) na e0 (Or.inl z0) (by rw [z0]; omega) (by decide), by decide, by decide⟩
  · rw [if_neg (by decide), if_pos ca.1, if_pos ca.2.1, if_pos (by omega), waybilllaw12_Tame.j0, if_neg (by decide), if_neg (by decide)]
    exact ⟨_, _, _, _, _, rfl, goodK_of (by decide) na e0 (Or.inl z0) (by rw [z0]; omega) (by decide), by decide, by decide⟩
  · rw [if_neg (by decide), if_pos ca.1, if_pos ca.2.1, if_pos (by omega), waybilllaw12_Tame.j0, if_pos (by decide), if_pos cb.1, if_pos cb.2.1, if_pos (by omega), if_pos cc.1, if_pos cc.2.1, if_neg (by decide)]
    exact ⟨_, _, _, _, _, rfl, goodK_of (by decide) na nb (Or.inr (by decide)) (by omega) (by decide), by decide, by decide⟩
  · rw [if_pos rfl, waybilllaw12_Tame.j0, if_neg (by decide), if_pos (by decide)]
    exact ⟨_, _, _, _, _, rfl, goodK_of (by decide) e0 e0 (Or.inl z0) (by rw [z0]; omega) (by rw [decide_eq_true m1]; decide), by omega, m2⟩
  · rw [if_neg (by decide), if_pos ca.1, if_pos ca.2.1, if_pos (by omega), waybilllaw12_Tame.j0, if_neg (by decide), if_pos (by decide)]
    exact ⟨_, _, _, _, _, rfl, goodK_of (by decide) na e0 (Or.inl z0) (by rw [z0]; omega) (by rw [decide_eq_true m1]; decide), by omega, m2⟩
theorem less_pre : ∀ (p x y : List Int), Op.bytesLess (u8s (p ++ x)) (u8s (p ++ y)) = Op.bytesLess (u8s x) (u8s y)
  | [], _, _ => rfl
  | c :: p, x, y => by
    show (decide (UInt8.ofNat c.toNat < UInt8.ofNat c.toNat) || (UInt8.ofNat c.toNat == UInt8.ofNat c.toNat && Op.bytesLess (u8s (p ++ x)) (u8s (p ++ y)))) = _
    rw [less_pre p x y]
    simp
theorem less_head (c d : Int) (hc : 0 ≤ c ∧ c < 256) (hd : 0 ≤ d ∧ d < 256) (h : c < d) (x y : List Int) : Op.bytesLess (u8s ([c] ++ x)) (u8s ([d] ++ y)) = true := by
  show (decide (UInt8.ofNat c.toNat < UInt8.ofNat d.toNat) || (UInt8.ofNat c.toNat == UInt8.ofNat d.toNat && Op.bytesLess (u8s x) (u8s y))) = _
  rw [decide_eq_true ((u8_lt c d hc hd).2 h), Bool.true_or]
theorem less_be (p : List Int) (x y : Int) (hx : 0 ≤ x ∧ x < 18446744073709551616) (hy : 0 ≤ y ∧ y < 18446744073709551616) : Op.bytesLess (u8s (p ++ be 8 x)) (u8s (p ++ be 8 y)) = decide (x < y) := by
  have hp : (256 : Int) ^ 8 = 18446744073709551616 := by decide
  rw [less_pre, less_num _ _ (by rw [be_len, be_len]) (be_oct _ _) (be_oct _ _), num_be, num_be, hp, Int.emod_eq_of_lt hx.1 hx.2, Int.emod_eq_of_lt hy.1 hy.2]
theorem keyOct4 (a b c : ByteArray) (id : Int) : keyOct 4 a b c id = [4] ++ be 8 id := rfl
theorem keyOct5 (a b c : ByteArray) (id : Int) : keyOct 5 a b c id = ([5] ++ part true a) ++ be 8 id := by
  rw [List.append_assoc]
  rfl
end Go.Proofs.Ytpjkaodbcclecaa.Pure
