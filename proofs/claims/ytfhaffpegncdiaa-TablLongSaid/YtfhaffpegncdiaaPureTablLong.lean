/-
TablLong: a table of one text has as many octets as the bound says, and no more.
-/
import Derived.Test.YtfhaffpegncdiaaTTablSpec
namespace Go.Proofs.Ytfhaffpegncdiaa.Pure
open Go.RowKit Go.Proofs.Ytfhaffpegncdiaa.PT Go.Proofs.YtfhaffpegncdiaaW.PrintWords Go.Proofs.YtfhaffpegncdiaaW.PrintLast Go.Proofs.YtfhaffpegncdiaaW.PrintMore
set_option linter.unusedVariables false
set_option linter.unusedSimpArgs false
namespace Lg
open Tb
def xs (n : Nat) : ByteArray := ⟨(List.replicate n (120 : UInt8)).toArray⟩
theorem xs_size (n : Nat) : (xs n).size = n := by unfold xs ByteArray.size; simp
theorem xs_next (n : Nat) : xs n ++ (⟨#[120]⟩ : ByteArray) = xs (n + 1) := by
  apply (Tb.bytes_eq).1
  unfold xs
  rw [ByteArray.toList_eq, ByteArray.toList_eq, ByteArray.data_append]
  simp [List.replicate_succ']
def fld (n : Nat) : S24 := ⟨⟨#[97]⟩, 83, 0, xs n, []⟩
theorem bytes_a : bytesOf (⟨#[97]⟩ : ByteArray) = [97] := by decide +kernel
theorem val_fld (R : List S24 → List Int × Bool) (n : Nat) : valP R (fld n) = (be 4 (n : Int) ++ bytesOf (xs n), decide (n ≤ 2000)) := by
  unfold valP fld
  simp [xs_size]
theorem enc_fld (R : List S24 → List Int × Bool) (n : Nat) : encL (valP R) [fld n] = [1, 97, 83] ++ (be 4 (n : Int) ++ bytesOf (xs n)) := by
  unfold encL
  rw [List.flatMap_cons, List.flatMap_nil, val_fld]
  unfold rowP
  have : (fld n).f0 = ⟨#[97]⟩ := rfl
  rw [this, bytes_a]
  have h1 : (fld n).f1 = 83 := rfl
  have h2 : ((⟨#[97]⟩ : ByteArray).size : Int) % 256 = 1 := by decide
  rw [h1, h2]
  simp
theorem rows_fld (n : Nat) : rowsP 8 [fld n] = if n + 7 ≤ 2000 then ([1, 97, 83] ++ (be 4 (n : Int) ++ bytesOf (xs n)), true) else ([], false) := by
  have hl : (encL (valP (rowsP 7)) [fld n]).length = n + 7 := by rw [enc_fld]; simp [be_len, bytesOf_len, xs_size]; omega
  by_cases h : n + 7 ≤ 2000
  · rw [if_pos h, rowsP_fine 7 _ ⟨?_, ?_, by omega⟩, enc_fld]
    · intro x hx
      rw [List.mem_singleton.1 hx]
      exact ⟨by rw [val_fld]; simp; omega, show 1 ≤ (⟨#[97]⟩ : ByteArray).size by decide, show (⟨#[97]⟩ : ByteArray).size ≤ 128 by decide⟩
    · simp
  · rw [if_neg h]
    exact rowsP_bad 7 _ (fun hf => h (by have := hf.2.2; omega))
theorem be4 (n : Nat) (h : n < 65536) : be 4 (n : Int) = [0, 0, ((n : Int) / 256) % 256, (n : Int) % 256] := by
  have e1 : (n : Int) / 256 ^ 3 % 256 = 0 := by omega
  have e2 : (n : Int) / 256 ^ 2 % 256 = 0 := by omega
  simp only [be]
  rw [e1, e2]
  simp
theorem tame_fld (n : Nat) (h : n ≤ 3000) : tame 8 [fld n] = true := by
  have := xs_size n
  refine tame_of (fun x hx => ?_)
  rw [List.mem_singleton.1 hx]
  exact ⟨⟨show (⟨#[97]⟩ : ByteArray).size ≤ 1000000000 by decide, by show (xs n).size ≤ _; omega⟩, by simp [fld, tame]⟩
/-- What is parsed: just a table that has octets. -/
theorem parse_fld (n : Nat) (h : n ≤ 3000) : tabl_Parse.f ([1, 97, 83] ++ (be 4 (n : Int) ++ bytesOf (xs n))) = some (if n + 7 ≤ 2000 then ([fld n], true) else ([], false)) := by
  by_cases hc : n + 7 ≤ 2000
  · have h1 := rows_fld n
    rw [if_pos hc] at h1
    have h2 := parse_told [fld n] (fun x hx => by rw [List.mem_singleton.1 hx]; exact ⟨⟨show (-9223372036854775808 : Int) ≤ 0 by decide, show (0 : Int) ≤ 9223372036854775807 by decide⟩, by simp [fld, rng]⟩) (by rw [h1])
    rw [h1] at h2
    rw [if_pos hc]
    exact h2
  · have ho : Oct ([1, 97, 83] ++ (be 4 (n : Int) ++ bytesOf (xs n))) := oct_app (by intro x hx; simp at hx; omega) (oct_app (be_oct _ _) (oct_bytesOf _))
    rw [parse_f _ ho, if_neg hc]
    have hp : (parseP 8 ([1, 97, 83] ++ (be 4 (n : Int) ++ bytesOf (xs n)))).2 = false := by
      unfold parseP
      rw [if_neg (by simp [be_len, bytesOf_len, xs_size]; omega)]
    rw [if_neg (by rw [hp]; simp)]
theorem loop (N : Nat) (hN : 7 ≤ N) (hN2 : N ≤ 3000) : ∀ (d i : Nat), i + d = N - 7 → waybilllaw2_TablLong.l0 (d + 1) (N : Int) (xs i) (i : Int) = some true := by
  intro d
  induction d with
  | zero =>
    intro i hi
    have hw : wrap64 ((N : Int) - 7) = (i : Int) := by unfold wrap64; omega
    simp only [waybilllaw2_TablLong.l0, Option.bind_some]
    rw [if_neg (by rw [hw]; omega), hw]
    have hf : (⟨⟨#[97]⟩, 83, 0, xs i, []⟩ : S24) = fld i := rfl
    have hy : [1, 97, 83, 0, 0, ((i : Int) / 256) % 256, (i : Int) % 256] = [1, 97, 83] ++ be 4 (i : Int) := by rw [be4 i (by omega)]; rfl
    rw [hf, append_f [] [fld i] (tame_fld i (by omega)) (by simp), Option.bind_some, if_pos (by rw [xs_size]; simp; omega), hy, List.append_assoc, parse_fld i (by omega), Option.bind_some, ok_f _ (tame_fld i (by omega)), rows_fld i, Option.bind_some]
    by_cases hc : i + 7 ≤ 2000
    · have hx : (rd_T24 [fld i] 0).f3 = xs i := rfl
      have e1 : decide ((N : Int) ≤ 2000) = true := decide_eq_true (by omega)
      have e2 : ((([] : List Int) ++ ([1, 97, 83] ++ (be 4 (i : Int) ++ bytesOf (xs i)))).length : Int) = (N : Int) := by simp [be_len, bytesOf_len, xs_size]; omega
      simp only [if_pos hc, e1, e2]
      simp [hx, awake_ok]
    · have e1 : decide ((N : Int) ≤ 2000) = false := decide_eq_false (by omega)
      simp only [if_neg hc, e1]
      simp [awake_ok]
  | succ d ih =>
    intro i hi
    have hw : wrap64 ((N : Int) - 7) = ((N - 7 : Nat) : Int) := by unfold wrap64; omega
    have hw2 : wrap64 ((i : Int) + 1) = ((i + 1 : Nat) : Int) := by unfold wrap64; omega
    rw [waybilllaw2_TablLong.l0.eq_2, if_pos (by rw [hw]; omega), if_pos (by rw [xs_size]; omega), xs_next, hw2]
    exact ih (i + 1) (by omega)
theorem and31 (x : Int) : 0 ≤ Go.bits .and .i64 x 31 ∧ Go.bits .and .i64 x 31 ≤ 31 := by
  unfold Go.bits
  have h1 : (BitVec.ofInt (IntKind.i64.bits) x &&& BitVec.ofInt (IntKind.i64.bits) 31).toNat ≤ 31 := by
    rw [BitVec.toNat_and]
    have : (BitVec.ofInt (IntKind.i64.bits) 31).toNat = 31 := by decide
    rw [this]
    exact Nat.and_le_right
  simp only []
  rw [IntKind.wrap_i64]
  omega
end Lg
theorem TablLong : waybilllaw2_TablLong.Pure := by
  intro a0 h0
  have hb := Lg.and31 a0
  obtain ⟨N, hN⟩ : ∃ N : Nat, wrap64 (1980 + Go.bits .and .i64 a0 31) = (N : Int) ∧ 1980 ≤ N ∧ N ≤ 2011 := ⟨(1980 + Go.bits .and .i64 a0 31).toNat, by generalize Go.bits .and .i64 a0 31 = X at hb; unfold wrap64; omega, by omega, by omega⟩
  refine ⟨N - 7 + 1, ?_⟩
  unfold waybilllaw2_TablLong.f
  rw [hN.1]
  have h := Lg.loop N (by omega) (by omega) (N - 7) 0 (by omega)
  have e : Lg.xs 0 = ⟨#[]⟩ := rfl
  rw [e] at h
  exact h
end Go.Proofs.Ytfhaffpegncdiaa.Pure
