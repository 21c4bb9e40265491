/-
Heads of contents: what the writer and the reader of the given program come to.
-/
import Derived.Test.YtpjkaodbcclecaaPBx3
import Derived.Test.YtpjkaodbcclecaaPBx6
import Derived.Test.YtpjkaodbcclecaaBOctsTxt
import Derived.WideShapes
namespace Go.Proofs.Ytpjkaodbcclecaa.Pure
open Go.RowKit Go.Proofs.Ytpjkaodbcclecaa.PB Go.Proofs.YtpjkaodbcclecaaW.PrintWords Go.Proofs.YtpjkaodbcclecaaW.PrintLast Go.Proofs.YtpjkaodbcclecaaW.PrintMore
set_option linter.unusedVariables false
set_option linter.unusedSimpArgs false
theorem wf_u64 {z : Int} (h : (Lit.int .u64 z).wf = true) : 0 ≤ z ∧ z < 18446744073709551616 := by
  simp [Lit.wf, IntKind.min, IntKind.max, IntKind.signed, IntKind.bits] at h
  omega
theorem w1 : wd 1 = 1 := by decide
theorem w2 : wd 2 = 2 := by decide
theorem w8 : wd 8 = 8 := by decide
theorem toList_nil (s : ByteArray) : s.toList = [] ↔ s.size = 0 := by
  rw [← List.length_eq_zero_iff, ByteArray.toList_eq, Array.length_toList]
  rfl
theorem bytes_eq {s t : ByteArray} (h : s.toList = t.toList) : s = t := by
  rw [ByteArray.toList_eq, ByteArray.toList_eq] at h
  exact Go.WideShapes.bytes_inj h
/-- The flags of a head, and what stands behind them. -/
def flg (md : Int) (s : ByteArray) : Int := if s.size = 0 then (if md = 0 then 0 else 4096) else (if md = 0 then 32768 else 36864)
def mdO (md : Int) : List Int := if md = 0 then [] else be 1 md
def tyO (s : ByteArray) : List Int := if s.size = 0 then [] else be 1 (s.size : Int) ++ bytesOf s
def hd (z : Int) (f : Int) (rest : List Int) : List Int := be 2 60 ++ (be 2 0 ++ (be 8 z ++ (be 2 f ++ rest)))
def head (z md : Int) (s : ByteArray) : List Int := hd z (flg md s) (tyO s ++ mdO md)
theorem hd_len (z f : Int) (r : List Int) : (hd z f r).length = 14 + r.length := by unfold hd; simp [be_len]; omega
theorem tyO_len (s : ByteArray) : (tyO s).length = if s.size = 0 then 0 else 1 + s.size := by
  unfold tyO
  split <;> simp [be_len, bytesOf_len]
theorem mdO_len (m : Int) : (mdO m).length = if m = 0 then 0 else 1 := by unfold mdO; split <;> simp [be_len]
theorem head_len (z m : Int) (s : ByteArray) : (head z m s).length = 14 + ((if s.size = 0 then 0 else 1 + s.size) + if m = 0 then 0 else 1) := by
  unfold head; rw [hd_len, List.length_append, tyO_len, mdO_len]
theorem tyO_oct (s : ByteArray) : Oct (tyO s) := by unfold tyO; split; exact oct_nil; exact oct_app (be_oct _ _) (oct_bytesOf s)
theorem mdO_oct (m : Int) : Oct (mdO m) := by unfold mdO; split; exact oct_nil; exact be_oct _ _
theorem hd_oct (z f : Int) {r : List Int} (h : Oct r) : Oct (hd z f r) := oct_app (be_oct _ _) (oct_app (be_oct _ _) (oct_app (be_oct _ _) (oct_app (be_oct _ _) h)))
theorem head_oct (z m : Int) (s : ByteArray) : Oct (head z m s) := hd_oct _ _ (oct_app (tyO_oct s) (mdO_oct m))
theorem A2 (k : Nat) (hk : 12 ≤ k) (l b : List Int) (f z m : Int) (s : ByteArray) (hl : l.length + 60 < 140737488355328) (hb : b.length ≤ 1000) (hl2 : l.length + 5000 < 140737488355328) :
    cont_Append.j2 k l f b z m s = some (l ++ hd z f b, true) := by
  obtain ⟨k, rfl⟩ : ∃ j, k = j + 1 := ⟨k - 1, by omega⟩
  rw [cont_Append.j2]
  rw [Int_f k (by omega) l 2 60 (by omega), w2]
  simp only [Option.bind_some]
  rw [Int_f k (by omega) _ 2 0 (by simp [be_len]; omega), w2]
  simp only [Option.bind_some]
  rw [Int_f k (by omega) _ 8 z (by simp [be_len]; omega), w8]
  simp only [Option.bind_some]
  rw [Int_f k (by omega) _ 2 f (by simp [be_len]; omega), w2]
  simp only [Option.bind_some]
  rw [if_pos (by simp [be_len]; omega)]
  simp [hd, List.append_assoc]
theorem A1 (k : Nat) (hk : 13 ≤ k) (l b : List Int) (f z m : Int) (s : ByteArray) (hm : 0 ≤ m) (hm2 : m ≤ 2) (hb : b.length ≤ 900) (hl : l.length + 5000 < 140737488355328) :
    cont_Append.j1 k l f b z m s = some (l ++ hd z (if m = 0 then f else Go.bits .or .u64 f 4096) (b ++ mdO m), true) := by
  obtain ⟨k, rfl⟩ : ∃ j, k = j + 1 := ⟨k - 1, by omega⟩
  rw [cont_Append.j1]
  unfold mdO
  by_cases h : m = 0
  · rw [if_pos h, if_pos h, if_pos h, A2 k (by omega) _ _ _ _ _ _ (by omega) (by omega) hl, List.append_nil]
  · rw [if_neg h, if_neg h, if_neg h, u64_id _ hm (by omega), Int_f k (by omega) b 1 m (by omega), w1]
    simp only [Option.bind_some]
    rw [A2 k (by omega) _ _ _ _ _ _ (by omega) (by simp [be_len]; omega) hl]
theorem Append_head (k : Nat) (hk : 15 ≤ k) (l : List Int) (z m : Int) (s : ByteArray) (hm : 0 ≤ m) (hm2 : m ≤ 2) (hs : s.size ≤ 255) (hl : l.length + 5000 < 140737488355328) :
    cont_Append.f k l z m s = some (l ++ head z m s, true) := by
  obtain ⟨k, rfl⟩ : ∃ j, k = j + 1 := ⟨k - 1, by omega⟩
  unfold cont_Append.f
  rw [if_neg (by omega), decide_eq_false (by omega)]
  rw [cont_Append.j0]
  unfold head flg tyO
  rw [if_neg (by simp)]
  by_cases h : s.size = 0
  · have h' := (toList_nil s).2 h
    rw [if_pos h', A1 k (by omega) _ _ _ _ _ _ hm hm2 (by simp) hl, if_pos h, if_pos h]
    have : Go.bits .or .u64 0 4096 = 4096 := by decide
    rw [this]
  · have h' := fun hh => h ((toList_nil s).1 hh)
    rw [if_neg h', Short_f k _ s (by omega) (by simp), if_pos hs]
    simp only [Option.bind_some, List.nil_append]
    have e1 : Go.bits .or .u64 0 32768 = 32768 := by decide
    have e2 : Go.bits .or .u64 32768 4096 = 36864 := by decide
    rw [if_pos trivial, e1, A1 k (by omega) _ _ _ _ _ _ hm hm2 (by simp [be_len, bytesOf_len]; omega) hl, if_neg h, if_neg h, e2]
/-- The head's reader behind the flags. -/
theorem Parse_hd (k : Nat) (hk : 15 ≤ k) (z f : Int) (r : List Int) (hz0 : 0 ≤ z) (hz1 : z < 18446744073709551616) (hf0 : 0 ≤ f) (hf1 : f < 65536) (hr : Oct r) (hl : r.length + 100 < 140737488355328) :
    ∃ j, k = j + 1 ∧ cont_Parse.f k (hd z f r) = cont_Parse.j1 j ((Go.bits .andNot .u64 f 36864) == 0) f r false z 0 (⟨#[]⟩ : ByteArray) := by
  obtain ⟨k, rfl⟩ : ∃ j, k = j + 1 := ⟨k - 1, by omega⟩
  refine ⟨k, rfl, ?_⟩
  unfold cont_Parse.f octs_From.f hd
  simp only [Option.bind_some]
  rw [read_be (k + 1) 2 2 w2 60 _ (by omega) (oct_app (be_oct _ _) (oct_app (be_oct _ _) (oct_app (be_oct _ _) hr))) (by simp [be_len]; omega)]
  simp only [Option.bind_some]
  rw [if_pos (by decide), read_be (k + 1) 2 2 w2 0 _ (by omega) (oct_app (be_oct _ _) (oct_app (be_oct _ _) hr)) (by simp [be_len]; omega)]
  simp only [Option.bind_some]
  have e0 : ((0 : Int) % 256 ^ 2 == 0) = true := by decide
  rw [e0]
  rw [cont_Parse.j0]
  rw [read_be k 8 8 w8 z _ (by omega) (oct_app (be_oct _ _) hr) (by simp [be_len]; omega)]
  simp only [Option.bind_some]
  rw [read_be k 2 2 w2 f _ (by omega) hr (by omega)]
  simp only [Option.bind_some]
  rw [if_pos trivial, Int.emod_eq_of_lt hz0 (by omega), Int.emod_eq_of_lt hf0 (by omega)]
theorem P3 (k : Nat) (hk : 1 ≤ k) (z m : Int) (s : ByteArray) : cont_Parse.j3 k true [] false z m s = some (z, m, s, 0) := by
  obtain ⟨k, rfl⟩ : ∃ j, k = j + 1 := ⟨k - 1, by omega⟩
  rw [cont_Parse.j3]
  unfold octs_In_Ok.f octs_In_Left.f
  simp
theorem P2 (k : Nat) (hk : 12 ≤ k) (z m f : Int) (s : ByteArray) (hm : 0 ≤ m) (hm2 : m ≤ 2) (hf : ((Go.bits .and .u64 f 4096) = 0) ↔ m = 0) :
    cont_Parse.j2 k true f (mdO m) false z 0 s = some (z, m, s, 0) := by
  obtain ⟨k, rfl⟩ : ∃ j, k = j + 1 := ⟨k - 1, by omega⟩
  rw [cont_Parse.j2]
  unfold mdO
  by_cases h : m = 0
  · rw [if_pos (hf.2 h), if_pos h, P3 k (by omega), h]
  · rw [if_neg (fun hh => h (hf.1 hh)), if_neg h]
    have := read_be k 1 1 w1 m [] (by omega) oct_nil (by simp)
    rw [List.append_nil] at this
    rw [this]
    simp only [Option.bind_some]
    rw [if_pos trivial, Int.emod_eq_of_lt hm (by omega), w64_id _ (by omega) (by omega)]
    by_cases h1 : m = 1
    · rw [if_pos h1, P3 k (by omega)]
    · rw [if_neg h1, show (m == 2) = true from beq_iff_eq.2 (by omega), P3 k (by omega)]
theorem Parse_head (k : Nat) (hk : 15 ≤ k) (z m : Int) (s : ByteArray) (hz0 : 0 ≤ z) (hz1 : z < 18446744073709551616) (hm : 0 ≤ m) (hm2 : m ≤ 2) (hs : s.size ≤ 255) :
    cont_Parse.f k (head z m s) = some (z, m, s, 0) := by
  have hfl : flg m s = 0 ∨ flg m s = 4096 ∨ flg m s = 32768 ∨ flg m s = 36864 := by unfold flg; (repeat' split) <;> simp
  have hl : (tyO s ++ mdO m).length ≤ 257 := by rw [List.length_append, tyO_len, mdO_len]; (repeat' split) <;> omega
  obtain ⟨j, rfl, h⟩ := Parse_hd k hk z (flg m s) (tyO s ++ mdO m) hz0 hz1 (by rcases hfl with h | h | h | h <;> rw [h] <;> decide) (by rcases hfl with h | h | h | h <;> rw [h] <;> decide) (oct_app (tyO_oct s) (mdO_oct m)) (by omega)
  unfold head
  rw [h]
  have e0 : ((Go.bits .andNot .u64 (flg m s) 36864) == 0) = true := by rcases hfl with h | h | h | h <;> rw [h] <;> decide
  have e1 : (Go.bits .and .u64 (flg m s) 32768 = 0) ↔ s.size = 0 := by unfold flg; (repeat' split) <;> simp_all <;> decide
  have e2 : (Go.bits .and .u64 (flg m s) 4096 = 0) ↔ m = 0 := by unfold flg; (repeat' split) <;> simp_all <;> decide
  rw [e0]
  obtain ⟨j, rfl⟩ : ∃ i, j = i + 1 := ⟨j - 1, by omega⟩
  rw [cont_Parse.j1]
  unfold tyO
  by_cases h0 : s.size = 0
  · have hs0 : s = (⟨#[]⟩ : ByteArray) := bytes_eq (by rw [(toList_nil s).2 h0, ByteArray.toList_eq])
    rw [if_pos (e1.2 h0), if_pos h0, List.nil_append, P2 j (by omega) _ _ _ _ hm hm2 e2, ← hs0]
  · rw [if_neg (fun hh => h0 (e1.1 hh)), if_neg h0, List.append_assoc, read_short j s _ hs (by omega) (mdO_oct m) (by rw [mdO_len]; split <;> omega)]
    simp only [Option.bind_some]
    have e3 : (!s.toList.isEmpty) = true := by
      have : s.toList ≠ [] := fun hh => h0 ((toList_nil s).1 hh)
      simpa using this
    rw [if_pos trivial, e3, P2 j (by omega) _ _ _ _ hm hm2 e2]
end Go.Proofs.Ytpjkaodbcclecaa.Pure
