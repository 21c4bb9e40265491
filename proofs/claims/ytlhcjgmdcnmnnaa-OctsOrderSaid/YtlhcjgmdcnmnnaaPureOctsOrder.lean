/-
Numbers of one size stand in the order of their octets: for every two numbers of 64 bits and every size.
-/
import Derived.Test.YtlhcjgmdcnmnnaaOctsStr
import Derived.Test.YtlhcjgmdcnmnnaaOctsAwake
import Derived.Test.YtlhcjgmdcnmnnaaPOctsx3
namespace Go.Proofs.Ytlhcjgmdcnmnnaa.Pure
open Go.RowKit Go.Proofs.Ytlhcjgmdcnmnnaa.POcts Go.Proofs.YtlhcjgmdcnmnnaaW.PrintWords Go.Proofs.YtlhcjgmdcnmnnaaW.PrintLast Go.Proofs.YtlhcjgmdcnmnnaaW.PrintMore
theorem u64_wf {a : Int} (h : (Lit.int .u64 a).wf = true) : 0 ≤ a ∧ a < 18446744073709551616 := by
  simp [Lit.wf, IntKind.min, IntKind.max, IntKind.signed, IntKind.bits] at h
  omega
theorem mask_wd (n : Nat) (hn : n < 8) (a : Int) (h : 0 ≤ a ∧ a < 18446744073709551616) :
    Go.bits .and .u64 a (IntKind.u64.wrap ((IntKind.u64.wrap (2 ^ (8 * (n : Int)).toNat)) - 1)) = a % 256 ^ n := by
  have e : (2 : Int) ^ (8 * (n : Int)).toNat = 256 ^ n := by
    rw [show (8 * (n : Int)).toNat = 8 * n by omega, Int.pow_mul]; rfl
  have hp := p256_lt n hn
  have hq := p256_pos n
  rw [e, u64_id (256 ^ n) (by omega) (by omega), u64_id _ (by omega) (by omega)]
  exact mask n hn a h.1 h.2
theorem order_core (k : Nat) (hk : 30 ≤ k) (n : Int) (a b : Int) (ha : 0 ≤ a ∧ a < 256 ^ wd n) (hb : 0 ≤ b ∧ b < 256 ^ wd n) :
    ((octs_Int.f k ([] : List Int) n a).bind fun t167 => ((octs_Int.f k ([] : List Int) n b).bind fun t170 => (if ((strOfNums t167).size : Int) = (mn (mx n 1) 8) then (if ((Op.bytesLess ((strOfNums t167).toList) ((strOfNums t170).toList)) == (decide (a < b))) = true then (if (((strOfNums t167).toList == (strOfNums t170).toList) == (a == b)) = true then ((waybilllaw1_awake.f k).bind fun t173 => (some t173)) else (some false)) else (some false)) else (some false)))) = some true := by
  rw [Int_f k (by omega) [] n a (by simp), Int_f k (by omega) [] n b (by simp)]
  simp only [Option.bind_some, List.nil_append]
  have la := be_len (wd n) a
  have lb := be_len (wd n) b
  have na : num (be (wd n) a) = a := by rw [num_be, Int.emod_eq_of_lt ha.1 ha.2]
  have nb : num (be (wd n) b) = b := by rw [num_be, Int.emod_eq_of_lt hb.1 hb.2]
  rw [if_pos (by rw [strOfNums_size, la, wd_cast]), str_toList, str_toList, less_num _ _ (by rw [la, lb]) (be_oct _ _) (be_oct _ _), na, nb, if_pos (by simp)]
  have he : (u8s (be (wd n) a) == u8s (be (wd n) b)) = (a == b) := by
    rw [Bool.eq_iff_iff, beq_iff_eq, beq_iff_eq, u8s_inj (be_oct _ _) (be_oct _ _)]
    constructor
    · intro h; rw [← na, ← nb, h]
    · rintro rfl; rfl
  rw [he, if_pos (by simp), awake1_ok k hk]
  rfl
theorem OctsOrder : waybilllaw1_OctsOrder.Pure := by
  intro a b n ha hb _
  have ha := u64_wf ha
  have hb := u64_wf hb
  refine ⟨40, ?_⟩
  unfold waybilllaw1_OctsOrder.f
  rw [wd_cast]
  have h8 := wd_le n
  by_cases h : wd n < 8
  · rw [if_pos (by omega), mask_wd _ h a ha, mask_wd _ h b hb]
    have hp := p256_pos (wd n)
    rw [← wd_cast n]
    exact order_core 40 (by omega) n _ _ ⟨Int.emod_nonneg _ (by omega), Int.emod_lt_of_pos _ hp⟩ ⟨Int.emod_nonneg _ (by omega), Int.emod_lt_of_pos _ hp⟩
  · rw [if_neg (by omega)]
    have e : wd n = 8 := by omega
    rw [← wd_cast n]
    exact order_core 40 (by omega) n _ _ (by rw [e]; exact ha) (by rw [e]; exact hb)
end Go.Proofs.Ytlhcjgmdcnmnnaa.Pure
