/-
Octets that were written are read as they were: numbers and texts at the head of a row.
-/
import Derived.Test.YtfhaffpegncdiaaTOctsStr
import Derived.Test.YtfhaffpegncdiaaPTx3
import Derived.Test.YtfhaffpegncdiaaPTx4
namespace Go.Proofs.Ytfhaffpegncdiaa.Pure
open Go.RowKit Go.Proofs.Ytfhaffpegncdiaa.PT Go.Proofs.YtfhaffpegncdiaaW.PrintWords Go.Proofs.YtfhaffpegncdiaaW.PrintLast Go.Proofs.YtfhaffpegncdiaaW.PrintMore
set_option linter.unusedVariables false
set_option linter.unusedSimpArgs false
theorem bytesOf_len (s : ByteArray) : (bytesOf s).length = s.size := by unfold bytesOf; rw [List.length_map, Array.length_toList]; rfl
theorem str_bytesOf (s : ByteArray) : strOfNums (bytesOf s) = s := by
  have h : (strOfNums (bytesOf s)).data.toList = s.data.toList := by
    rw [strOfNums_data]
    unfold bytesOf
    rw [List.map_map]
    have : ((fun n : Int => UInt8.ofNat n.toNat) ∘ fun b : UInt8 => (b.toNat : Int)) = id := by
      funext b
      simp
    rw [this, List.map_id]
  cases s with
  | mk d => 
    have h2 : (strOfNums (bytesOf ⟨d⟩)).data = d := Array.toList_inj.1 h
    generalize strOfNums (bytesOf ⟨d⟩) = u at *
    cases u
    simp only at h2
    rw [h2]
theorem txt_be (n m : Nat) (a rest : List Int) (ha : a.length = m) (hm : (m : Int) < 256 ^ n) : txt (be n m ++ (a ++ rest)) n = some (a, rest) := by
  have hl := be_len n (m : Int)
  have ht : (be n (m : Int) ++ (a ++ rest)).take n = be n m := List.take_left' hl
  have hd : (be n (m : Int) ++ (a ++ rest)).drop n = a ++ rest := List.drop_left' hl
  have hn : num (be n (m : Int)) = m := by rw [num_be, Int.emod_eq_of_lt (by omega) hm]
  unfold txt
  rw [ht, hd, hn, if_neg (by simp [hl]), if_neg (by simp [hl]; omega), Int.toNat_natCast, List.take_left' ha, List.drop_left' ha]
theorem read_be (k n : Nat) (w : Int) (hw : wd w = n) (v : Int) (rest : List Int) (hk : 9 ≤ k) (ho : Oct rest) (hl : rest.length + 8 < 140737488355328) :
    octs_In_Int.f k (be n v ++ rest) false w = some (v % 256 ^ n, rest, false) := by
  have h8 := wd_le w
  have hb := be_len n v
  rw [In_Int k _ w hk (oct_app (be_oct n v) ho) (by simp [hb]; omega), hw, if_neg (by simp [hb]), List.take_left' hb, List.drop_left' hb, num_be]
theorem read_short (k : Nat) (s : ByteArray) (rest : List Int) (hs : s.size ≤ 255) (hk : 9 ≤ k) (ho : Oct rest) (hl : rest.length + 300 < 140737488355328) :
    octs_In_Short.f k (be 1 (s.size : Int) ++ (bytesOf s ++ rest)) false = some (s, rest, false) := by
  have h1 := be_len 1 (s.size : Int)
  have h2 := bytesOf_len s
  rw [In_Short k _ hk (oct_app (be_oct _ _) (oct_app (oct_bytesOf s) ho)) (by simp [h1, h2]; omega), txt_be 1 s.size _ _ h2 (by omega)]
  show some (strOfNums (bytesOf s), rest, false) = _
  rw [str_bytesOf]
theorem In_Long (k : Nat) (l : List Int) (hk : 9 ≤ k) (ho : Oct l) (hl : l.length < 140737488355328) : octs_In_Long.f k l false = some (told (txt l 4)) := by
  unfold octs_In_Long.f
  rw [show (4 : Int) = ((4 : Nat) : Int) from rfl, meas_f k l 4 (by omega) hk ho hl]
  rfl
theorem In_Long_bad (k : Nat) (l : List Int) : octs_In_Long.f k l true = some ([], [], true) := by
  unfold octs_In_Long.f; rw [meas_bad]; rfl
theorem read_long (k : Nat) (t rest : List Int) (ht : t.length < 4294967296) (hk : 9 ≤ k) (hot : Oct t) (ho : Oct rest) (hl : rest.length + t.length + 300 < 140737488355328) :
    octs_In_Long.f k (be 4 (t.length : Int) ++ (t ++ rest)) false = some (t, rest, false) := by
  have h1 := be_len 4 (t.length : Int)
  rw [In_Long k _ hk (oct_app (be_oct _ _) (oct_app hot ho)) (by simp [h1]; omega), txt_be 4 t.length _ _ rfl (by omega)]
  rfl
end Go.Proofs.Ytfhaffpegncdiaa.Pure
