/-
Texts of octets: their single octets, and their pieces.
-/
import Derived.Test.YtpjkaodbcclecaaKKeysLib
namespace Go.Proofs.Ytpjkaodbcclecaa.Pure
open Go.RowKit Go.Proofs.Ytpjkaodbcclecaa.PK Go.Proofs.YtpjkaodbcclecaaW.PrintWords Go.Proofs.YtpjkaodbcclecaaW.PrintLast Go.Proofs.YtpjkaodbcclecaaW.PrintMore
set_option linter.unusedVariables false
set_option linter.unusedSimpArgs false
theorem rd_bytesOf (s : ByteArray) (i : Int) : rd (bytesOf s) i = bt s i := by
  unfold bt rd bytesOf
  split
  · rename_i h
    have h2 : i.toNat < s.data.toList.length := by rw [Array.length_toList]; exact h
    rw [List.getD_eq_getElem?_getD, List.getElem?_map, List.getElem?_eq_getElem h2]
    rfl
  · rename_i h
    have h2 : s.data.toList.length ≤ i.toNat := by rw [Array.length_toList]; exact Nat.le_of_not_lt h
    rw [List.getD_eq_getElem?_getD, List.getElem?_map, List.getElem?_eq_none h2]
    rfl
theorem bt_str {l : List Int} (ho : Oct l) (i : Int) : bt (strOfNums l) i = rd l i := by rw [← rd_bytesOf, bytesOf_str ho]
theorem u8s_app (x y : List Int) : u8s (x ++ y) = u8s x ++ u8s y := by unfold u8s; rw [List.map_append]
theorem u8s_len (x : List Int) : (u8s x).length = x.length := by unfold u8s; rw [List.length_map]
theorem u8s_bytesOf (s : ByteArray) : u8s (bytesOf s) = s.toList := by rw [← str_toList, str_bytesOf]
theorem ext_list (s : ByteArray) (a b : Nat) : (s.extract a b).toList = (s.toList.drop a).take (b - a) := by
  rw [ByteArray.toList_eq, ByteArray.toList_eq, ByteArray.data_extract, Array.toList_extract, List.extract_eq_take_drop]
theorem ext_str (p m r : List Int) (a b : Nat) (ha : a = p.length) (hb : b = p.length + m.length) : ((strOfNums (p ++ (m ++ r))).extract a b).toList = u8s m := by
  subst ha hb
  rw [ext_list, str_toList, u8s_app, u8s_app, List.drop_left' (u8s_len p), List.take_left' (by rw [u8s_len]; omega)]
theorem rd_zero (c : Int) (l : List Int) : rd ([c] ++ l) 0 = c := rfl
theorem rd_one (c d : Int) (l : List Int) : rd ([c] ++ ([d] ++ l)) 1 = d := rfl
theorem be_one (n : Nat) (h : n < 256) : be 1 (n : Int) = [(n : Int)] := by
  show [((n : Int) / 256 ^ 0) % 256] = _
  rw [Int.pow_zero, Int.ediv_one, Int.emod_eq_of_lt (by omega) (by omega)]
end Go.Proofs.Ytpjkaodbcclecaa.Pure
