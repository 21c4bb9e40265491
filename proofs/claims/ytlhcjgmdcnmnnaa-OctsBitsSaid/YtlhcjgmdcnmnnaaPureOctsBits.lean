/-
A number's octets are its bits, eight in each, the highest first: for every number of 64 bits and each of its bits.
-/
import Derived.Test.YtlhcjgmdcnmnnaaOctsStr
import Derived.Test.YtlhcjgmdcnmnnaaOctsAwake
import Derived.Test.YtlhcjgmdcnmnnaaPOctsx2
namespace Go.Proofs.Ytlhcjgmdcnmnnaa.Pure
open Go.RowKit Go.Proofs.Ytlhcjgmdcnmnnaa.POcts Go.Proofs.YtlhcjgmdcnmnnaaW.PrintWords Go.Proofs.YtlhcjgmdcnmnnaaW.PrintLast Go.Proofs.YtlhcjgmdcnmnnaaW.PrintMore
set_option linter.unusedVariables false
set_option linter.unusedSimpArgs false
theorem u64_wf' {a : Int} (h : (Lit.int .u64 a).wf = true) : 0 ≤ a ∧ a < 18446744073709551616 := by
  simp [Lit.wf, IntKind.min, IntKind.max, IntKind.signed, IntKind.bits] at h
  omega
theorem be_getD (n : Nat) (v : Int) (i : Nat) (h : i < n) : (be n v).getD i 0 = v / 256 ^ (n - 1 - i) % 256 := by
  induction n generalizing i with
  | zero => omega
  | succ n ih =>
    cases i with
    | zero => simp [be]
    | succ i =>
      simp only [be, List.getD_cons_succ]
      rw [ih i (by omega)]
      congr 3
      omega
theorem and63 (x : Int) (h : -9223372036854775808 ≤ x ∧ x < 9223372036854775808) : ∃ m : Nat, m < 64 ∧ Go.bits .and .i64 x 63 = (m : Int) := by
  refine ⟨(Go.bits .and .i64 x 63).toNat, ?_⟩
  have key : 0 ≤ Go.bits .and .i64 x 63 ∧ Go.bits .and .i64 x 63 < 64 := by
    unfold Go.bits
    have h1 : (BitVec.ofInt (IntKind.i64.bits) x &&& BitVec.ofInt (IntKind.i64.bits) 63).toNat ≤ 63 := by
      rw [BitVec.toNat_and]
      have : (BitVec.ofInt (IntKind.i64.bits) 63).toNat = 63 := by decide
      rw [this]
      exact Nat.and_le_right
    simp only []
    rw [IntKind.wrap_i64]
    omega
  omega
theorem and1 (k : IntKind) (j : Nat) (hj : 1 ≤ j) (hjb : j ≤ k.bits) (hw : ∀ n : Int, 0 ≤ n → n < 2 ^ j → k.wrap n = n) (x : Int) (h0 : 0 ≤ x) (h1 : x < 2 ^ j) : Go.bits .and k x 1 = x % 2 := by
  have := bits_mask k j hjb hw 1 hj x h0 h1
  simpa using this
theorem OctsBits : waybilllaw1_OctsBits.Pure := by
  intro v b hv hb
  have hv := u64_wf' hv
  have hb : -9223372036854775808 ≤ b ∧ b < 9223372036854775808 := by
    simp [Lit.wf, IntKind.min, IntKind.max, IntKind.signed, IntKind.bits] at hb
    omega
  obtain ⟨m, hm, em⟩ := and63 b hb
  refine ⟨40, ?_⟩
  unfold waybilllaw1_OctsBits.f
  rw [Int_f 40 (by omega) [9] 8 v (by simp)]
  have e8 : wd 8 = 8 := by decide
  simp only [Option.bind_some, e8]
  have hl : ([9] ++ be 8 v).length = 9 := by simp [be_len]
  rw [hl]
  rw [if_pos (by decide), if_pos (by decide)]
  have r0 : rd ([9] ++ be 8 v) 0 = 9 := by simp [rd]
  rw [r0]
  simp only [waybilllaw1_OctsBits.j0]
  rw [hl, em]
  have t1 : Int.tdiv (m : Int) 8 = ((m / 8 : Nat) : Int) := by
    rw [Int.tdiv_eq_ediv_of_nonneg (by omega)]; omega
  have t2 : Int.tmod (m : Int) 8 = ((m % 8 : Nat) : Int) := by
    rw [Int.tmod_eq_emod_of_nonneg (by omega)]; omega
  rw [t1, t2, w64_id ((m / 8 : Nat) : Int) (by omega) (by omega), w64_id (8 - ((m / 8 : Nat) : Int)) (by omega) (by omega), u64_id ((m % 8 : Nat) : Int) (by omega) (by omega), u64_id (m : Int) (by omega) (by omega)]
  have e9 : (8 : Int) - ((m / 8 : Nat) : Int) = ((8 - m / 8 : Nat) : Int) := by omega
  rw [e9]
  have rdv : rd ([9] ++ be 8 v) ((8 - m / 8 : Nat) : Int) = v / 256 ^ (m / 8) % 256 := by
    rw [rd_at]
    have : 8 - m / 8 = (7 - m / 8) + 1 := by omega
    rw [this]
    simp only [List.cons_append, List.nil_append, List.getD_cons_succ]
    rw [be_getD 8 v _ (by omega)]
    congr 3
    omega
  rw [if_neg (by decide), if_pos (by decide)]
  unfold octs_From.f
  simp only [Option.bind_some]
  rw [if_pos (by omega), if_pos (by omega), if_pos (by omega), if_pos (by omega), rdv]
  have s1 : shr .u8 (v / 256 ^ (m / 8) % 256) ((m % 8 : Nat) : Int) = v / 256 ^ (m / 8) % 256 / 2 ^ (m % 8) := by
    unfold shr
    rw [show min ((m % 8 : Nat) : Int).toNat IntKind.u8.bits = m % 8 by simp only [IntKind.bits]; omega]
  have s2 : shr .u64 v (m : Int) = v / 2 ^ m := by
    unfold shr
    rw [show min (m : Int).toNat IntKind.u64.bits = m by simp only [IntKind.bits]; omega]
  have q0 : 0 ≤ v / 256 ^ (m / 8) % 256 := by omega
  have q1 : 0 ≤ v / 256 ^ (m / 8) % 256 / 2 ^ (m % 8) := Int.ediv_nonneg q0 (Int.le_of_lt (Int.pow_pos (by omega)))
  have q2 : v / 256 ^ (m / 8) % 256 / 2 ^ (m % 8) < 256 := Int.lt_of_le_of_lt (Int.ediv_le_self _ q0) (by omega)
  have q3 : 0 ≤ v / 2 ^ m := Int.ediv_nonneg hv.1 (Int.le_of_lt (Int.pow_pos (by omega)))
  have q4 : v / 2 ^ m < 18446744073709551616 := Int.lt_of_le_of_lt (Int.ediv_le_self _ hv.1) hv.2
  rw [s1, s2, and1 .u8 8 (by omega) (by decide) wraps_u8 _ q1 q2, and1 .u64 64 (by omega) (by decide) u64_wraps _ q3 (by omega)]
  have hbit : v / 256 ^ (m / 8) % 256 / 2 ^ (m % 8) % 2 = v / 2 ^ m % 2 := by
    have em2 : (2 : Int) ^ m = 256 ^ (m / 8) * 2 ^ (m % 8) := by
      have : (256 : Int) ^ (m / 8) = 2 ^ (8 * (m / 8)) := by rw [Int.pow_mul]; rfl
      rw [this, ← Int.pow_add]
      congr 1
      omega
    rw [em2, ← Int.ediv_ediv_of_nonneg (Int.le_of_lt (p256_pos _))]
    generalize v / 256 ^ (m / 8) = u
    have hj : m % 8 < 8 := by omega
    generalize m % 8 = j at hj
    rcases j with _ | _ | _ | _ | _ | _ | _ | _ | j
    all_goals first | omega | (simp; omega)
  rw [hbit, if_pos (by simp)]
  have hd : ([9] ++ be 8 v).drop 1 = be 8 v := rfl
  rw [hd, In_Int _ _ _ (by omega) (be_oct 8 v) (by rw [be_len]; omega)]
  simp only [e8, be_len]
  rw [if_neg (by omega)]
  simp only [Option.bind_some]
  have ht : (be 8 v).take 8 = be 8 v := List.take_of_length_le (by rw [be_len]; omega)
  rw [ht, num_be, Int.emod_eq_of_lt hv.1 (by omega), if_pos rfl]
  unfold octs_In_Ok.f
  simp only [Option.bind_some]
  rw [if_pos (by decide), awake1_ok _ (by omega)]
  rfl
end Go.Proofs.Ytlhcjgmdcnmnnaa.Pure
