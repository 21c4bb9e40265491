/-
Any octets are the head that the document says, or none; any head has the octets that it says, or may not be; a body is cut into frames as it says.
Conditions: none but those of the statement.
-/
import Derived.Test.YtpjkaodbcclecaaPBStContTells
import Derived.Test.YtpjkaodbcclecaaPBx14a
import Derived.Test.YtpjkaodbcclecaaPBx13
import Derived.Test.YtpjkaodbcclecaaPBx10
import Derived.Test.YtpjkaodbcclecaaBContHead
import Derived.Test.YtpjkaodbcclecaaBContFrames
import Derived.Test.YtpjkaodbcclecaaBFramRefW
import Derived.Test.YtpjkaodbcclecaaBOctsMask
import Derived.Test.YtpjkaodbcclecaaBOctsAwake5
namespace Go.Proofs.Ytpjkaodbcclecaa.Pure
open Go.RowKit Go.Proofs.Ytpjkaodbcclecaa.PB Go.Proofs.YtpjkaodbcclecaaW.PrintWords Go.Proofs.YtpjkaodbcclecaaW.PrintLast Go.Proofs.YtpjkaodbcclecaaW.PrintMore
set_option linter.unusedVariables false
set_option linter.unusedSimpArgs false
def headOk (m : Int) (s : ByteArray) : Bool := decide (0 ≤ m ∧ m ≤ 2 ∧ s.size ≤ 255)
theorem headOk_of {m : Int} {s : ByteArray} (h : headOk m s = true) : 0 ≤ m ∧ m ≤ 2 ∧ s.size ≤ 255 := of_decide_eq_true h
theorem headOk_not {m : Int} {s : ByteArray} (h : headOk m s = false) : ¬ (0 ≤ m ∧ m ≤ 2 ∧ s.size ≤ 255) := of_decide_eq_false h
theorem HeadOk_f (z m : Int) (s : ByteArray) : waybillref1_HeadOk.f z m s = some (headOk m s) := by
  unfold waybillref1_HeadOk.f headOk
  by_cases h1 : m ≥ 0
  · rw [if_pos h1]
    by_cases h2 : m ≤ 2
    · rw [if_pos h2]
      congr 1
      by_cases h3 : s.size ≤ 255
      · rw [decide_eq_true (by omega), decide_eq_true (by omega)]
      · rw [decide_eq_false (by omega), decide_eq_false (by omega)]
    · rw [if_neg h2, decide_eq_false (by omega)]
  · rw [if_neg h1, decide_eq_false (by omega)]
theorem Clone_f (l : List Int) (hl : l.length < 140737488355328) : slices_Clone_byte_byte.f l = some l := by
  unfold slices_Clone_byte_byte.f
  rw [if_pos hl]
theorem Append_any (k : Nat) (hk : 15 ≤ k) (l : List Int) (z m : Int) (s : ByteArray) (hl : l.length + 5000 < 140737488355328) :
    cont_Append.f k l z m s = some (if headOk m s = true then (l ++ head z m s, true) else (l, false)) := by
  cases h : headOk m s with
  | true =>
    obtain ⟨h1, h2, h3⟩ := headOk_of h
    rw [if_pos rfl, Append_head k hk l z m s h1 h2 h3 hl]
  | false =>
    have h0 := headOk_not h
    have hc := Clone_f l (by omega)
    obtain ⟨k, rfl⟩ : ∃ j, k = j + 1 := ⟨k - 1, by omega⟩
    rw [if_neg (by simp)]
    unfold cont_Append.f
    by_cases h1 : m < 0
    · rw [if_pos h1, cont_Append.j0, if_pos rfl, hc, Option.bind_some]
    · rw [if_neg h1]
      by_cases h2 : m > 2
      · rw [decide_eq_true h2, cont_Append.j0, if_pos rfl, hc, Option.bind_some]
      · have h3 : ¬ s.size ≤ 255 := by omega
        have h4 : ¬ s.toList = ([] : List UInt8) := fun hh => by have := (toList_nil s).1 hh; omega
        rw [decide_eq_false h2, cont_Append.j0, if_neg (by simp), if_neg h4, Short_f k _ s (by omega) (by simp), if_neg h3, Option.bind_some, if_neg (by simp), hc, Option.bind_some]
theorem RShort_f (k : Nat) (hk : 12 ≤ k) (l : List Int) (s : ByteArray) (hs : s.size ≤ 255) (hl : l.length + 600 < 140737488355328) : waybillref1_Short.f k l s = some (l ++ (be 1 (s.size : Int) ++ bytesOf s)) := by
  unfold waybillref1_Short.f
  have h2 := be_len 1 (s.size : Int)
  rw [u64_id _ (by omega) (by omega), show (1 : Int) = ((1 : Nat) : Int) from rfl, Put_f k (by omega) l 1 _ (by omega) (by omega), Option.bind_some, if_pos (by rw [List.length_append, h2]; omega), List.append_assoc]
theorem PutN (k : Nat) (hk : 9 ≤ k) (l : List Int) (n : Nat) (n' : Int) (hn' : n' = n) (v : Int) (hn : n ≤ 8) (hl : l.length + 8 < 140737488355328) : waybillref1_Put.f k l n' v = some (l ++ be n v) := by
  subst hn'; exact Put_f k hk l n v hn hl
theorem Head_j1 (k : Nat) (hk : 16 ≤ k) (l : List Int) (f z m : Int) (s : ByteArray) (hm : 0 ≤ m ∧ m ≤ 2 ∧ s.size ≤ 255) (hl : l.length + 5000 < 140737488355328) :
    waybillref1_Head.j1 k l f z m s = some (l ++ (be 2 f ++ (tyO s ++ mdO m))) := by
  obtain ⟨h0, h1, h2⟩ := hm
  obtain ⟨k, rfl⟩ : ∃ j, k = j + 1 := ⟨k - 1, by omega⟩
  have hb := be_len 2 f
  have hu := u64_id m h0 (by omega)
  rw [waybillref1_Head.j1, PutN k (by omega) l 2 2 rfl f (by omega) (by omega), Option.bind_some]
  have hl2 : (l ++ be 2 f).length + 4000 < 140737488355328 := by rw [List.length_append, hb]; omega
  unfold tyO mdO
  by_cases hs : s.size = 0
  · rw [if_pos ((toList_nil s).2 hs), if_pos hs, List.nil_append]
    by_cases hm0 : m = 0
    · rw [if_pos hm0, if_pos hm0, List.append_nil]
    · rw [if_neg hm0, if_neg hm0, hu, PutN k (by omega) _ 1 1 rfl m (by omega) (by omega), Option.bind_some, List.append_assoc]
  · rw [if_neg (fun hh => hs ((toList_nil s).1 hh)), if_neg hs, RShort_f k (by omega) _ s h2 (by omega), Option.bind_some]
    have hb1 := be_len 1 (s.size : Int)
    have hb2 := bytesOf_len s
    by_cases hm0 : m = 0
    · rw [if_pos hm0, if_pos hm0, List.append_nil, List.append_assoc]
    · rw [if_neg hm0, if_neg hm0, hu, PutN k (by omega) _ 1 1 rfl m (by omega) (by rw [List.length_append, List.length_append, List.length_append, hb, hb1, hb2]; omega), Option.bind_some]
      simp only [List.append_assoc]
theorem Head_f (k : Nat) (hk : 20 ≤ k) (l : List Int) (z m : Int) (s : ByteArray) (h : headOk m s = true) (hl : l.length + 8000 < 140737488355328) :
    waybillref1_Head.f k l z m s = some (l ++ head z m s) := by
  have hm := headOk_of h
  have e1 : Go.bits .or .u64 0 32768 = 32768 := by decide
  have e2 : Go.bits .or .u64 32768 4096 = 36864 := by decide
  have e3 : Go.bits .or .u64 0 4096 = 4096 := by decide
  unfold waybillref1_Head.f
  have hb1 := be_len 2 60
  have hb2 := be_len 2 0
  have hb3 := be_len 8 z
  rw [PutN k (by omega) l 2 2 rfl 60 (by omega) (by omega), Option.bind_some, PutN k (by omega) _ 2 2 rfl 0 (by omega) (by rw [List.length_append, hb1]; omega), Option.bind_some, PutN k (by omega) _ 8 8 rfl z (by omega) (by rw [List.length_append, List.length_append, hb1, hb2]; omega), Option.bind_some]
  have hlen : (((l ++ be 2 60) ++ be 2 0) ++ be 8 z).length + 5000 < 140737488355328 := by rw [List.length_append, List.length_append, List.length_append, hb1, hb2, hb3]; omega
  obtain ⟨k, rfl⟩ : ∃ j, k = j + 1 := ⟨k - 1, by omega⟩
  have fin : ∀ f, f = flg m s → waybillref1_Head.j1 k (((l ++ be 2 60) ++ be 2 0) ++ be 8 z) f z m s = some (l ++ head z m s) := by
    intro f hf
    rw [Head_j1 k (by omega) _ f z m s hm hlen, hf]
    unfold head hd
    simp only [List.append_assoc]
  by_cases hs : s.size = 0
  · rw [if_pos ((toList_nil s).2 hs), waybillref1_Head.j0]
    by_cases hm0 : m = 0
    · rw [if_pos hm0]; exact fin _ (by unfold flg; rw [if_pos hs, if_pos hm0])
    · rw [if_neg hm0, e3]; exact fin _ (by unfold flg; rw [if_pos hs, if_neg hm0])
  · rw [if_neg (fun hh => hs ((toList_nil s).1 hh)), e1, waybillref1_Head.j0]
    by_cases hm0 : m = 0
    · rw [if_pos hm0]; exact fin _ (by unfold flg; rw [if_neg hs, if_pos hm0])
    · rw [if_neg hm0, e2]; exact fin _ (by unfold flg; rw [if_neg hs, if_neg hm0])
theorem Content_l0 (ch : Int) (hc : 0 ≤ ch ∧ ch ≤ 65535) : ∀ (n K : Nat) (l acc : List Int), np l.length = n → n + 25 < K → acc.length + n * 4096 + 20000 < 140737488355328 →
    waybillref1_Content.l0 K acc ch l = some (acc ++ chunks ch n l) := by
  intro n
  induction n with
  | zero =>
    intro K l acc hn hK hacc
    obtain ⟨K, rfl⟩ : ∃ j, K = j + 1 := ⟨K - 1, by omega⟩
    unfold np at hn
    rw [waybillref1_Content.l0, if_neg (by omega), chunks, List.append_nil]
  | succ n ih =>
    intro K l acc hn hK hacc
    obtain ⟨K, rfl⟩ : ∃ j, K = j + 1 := ⟨K - 1, by omega⟩
    unfold np at hn
    obtain ⟨t, ht⟩ : ∃ t : Nat, mn (l.length : Int) 4088 = (t : Int) ∧ t = min l.length 4088 := ⟨min l.length 4088, by unfold mn; split <;> omega, rfl⟩
    have e1 : l.take t = l.take 4088 := by
      by_cases h : l.length ≤ 4088
      · rw [List.take_of_length_le (by omega), List.take_of_length_le h]
      · rw [show t = 4088 by omega]
    have e2 : l.drop t = l.drop 4088 := by
      by_cases h : l.length ≤ 4088
      · rw [List.drop_of_length_le (by omega), List.drop_of_length_le h]
      · rw [show t = 4088 by omega]
    have hB : (l.take 4088).length ≤ 4088 := by rw [List.length_take]; omega
    have hd : np (l.drop 4088).length = n := by unfold np; rw [List.length_drop]; omega
    have hfl := frame_len 3 ch (l.take 4088)
    have ha := Frame_f K (by omega) acc 3 ch (l.take 4088) (by omega) (ok3 3 ch (by omega) _ hc hB)
    have hrec := ih K (l.drop 4088) (acc ++ frame 3 ch (l.take 4088)) hd (by omega) (by rw [List.length_append]; omega)
    rw [waybillref1_Content.l0, if_pos (by omega), ht.1, if_pos (by omega), if_pos (by omega), Int.toNat_natCast, e1, e2, ha, Option.bind_some, chunks, ← List.append_assoc]
    exact hrec
/-- A content's octets. -/
def content (ch m : Int) (s : ByteArray) (body : List Int) : List Int := frame 2 ch (head (body.length : Int) m s) ++ chunks ch (np body.length) body
theorem Frames_bad (k : Nat) (hk : 1 ≤ k) (l : List Int) (ch : Int) (body acc : List Int) (hl : l.length < 140737488355328) : cont_Frames.l0 k l ch body false acc = some (l, false) := by
  obtain ⟨k, rfl⟩ : ∃ j, k = j + 1 := ⟨k - 1, by omega⟩
  rw [cont_Frames.l0]
  split
  · rw [if_neg (by simp), Clone_f l hl, Option.bind_some]
  · rw [if_neg (by simp), Clone_f l hl, Option.bind_some]
theorem Frames_any (k : Nat) (hk : 60 ≤ k) (l : List Int) (ch z m : Int) (s : ByteArray) (body : List Int) (hl : l.length ≤ 1000) (hb : body.length ≤ 20000) :
    cont_Frames.f k l ch z m s body = some (if headOk m s = true ∧ 0 ≤ ch ∧ ch ≤ 65535 then (l ++ content ch m s body, true) else (l, false)) := by
  unfold cont_Frames.f
  rw [u64_id _ (by omega) (by omega), Append_any k (by omega) [] _ m s (by simp), Option.bind_some]
  cases h : headOk m s with
  | false =>
    rw [if_neg (by simp), if_neg (by simp)]
    show ((slices_Clone_byte_byte.f l).bind _) = _
    rw [Clone_f l (by omega), Option.bind_some]
  | true =>
    have hm := headOk_of h
    have hhl : (head (body.length : Int) m s).length ≤ 300 := by rw [head_len]; (repeat' split) <;> omega
    rw [if_pos rfl, if_pos rfl]
    show ((fram_Append.f k l 2 ch ([] ++ head (body.length : Int) m s)).bind _) = _
    rw [List.nil_append, Append_f k (by omega) l 2 ch _ (by omega), Option.bind_some]
    by_cases hc : 0 ≤ ch ∧ ch ≤ 65535
    · rw [if_pos (ok3 2 ch (by omega) _ hc (by omega)), if_pos ⟨rfl, hc⟩]
      have hn : np body.length ≤ 5 := by unfold np; omega
      have := Frames_l0 l ch hc (np body.length) k body (l ++ frame 2 ch (head (body.length : Int) m s)) rfl (by omega) (by rw [List.length_append, frame_len]; omega)
      unfold content
      rw [← List.append_assoc]
      exact this
    · have hno : frameOk 2 ch (head (body.length : Int) m s) = false := by
        unfold frameOk
        by_cases h0 : 0 ≤ ch
        · rw [decide_eq_false (show ¬ ch ≤ 65535 by omega)]; simp
        · rw [decide_eq_false h0]; simp
      rw [if_neg (by rw [hno]; simp), if_neg (fun hh => hc hh.2)]
      exact Frames_bad k (by omega) l ch body l (by omega)
theorem Content_f (k : Nat) (hk : 60 ≤ k) (l : List Int) (ch z m : Int) (s : ByteArray) (body : List Int) (hl : l.length ≤ 1000) (hb : body.length ≤ 20000) (h : headOk m s = true) (hc : 0 ≤ ch ∧ ch ≤ 65535) :
    waybillref1_Content.f k l ch z m s body = some (l ++ content ch m s body) := by
  have hm := headOk_of h
  have hhl : (head (body.length : Int) m s).length ≤ 300 := by rw [head_len]; (repeat' split) <;> omega
  have hn : np body.length ≤ 5 := by unfold np; omega
  unfold waybillref1_Content.f
  rw [u64_id _ (by omega) (by omega), Head_f k (by omega) [] _ m s h (by simp), Option.bind_some, List.nil_append, Frame_f k (by omega) l 2 ch _ (by omega) (ok3 2 ch (by omega) _ hc (by omega)), Option.bind_some,
    Content_l0 ch hc (np body.length) k body _ rfl (by omega) (by rw [List.length_append, frame_len]; omega)]
  unfold content
  rw [List.append_assoc]
theorem xor_oct (a b : Int) : 0 ≤ Go.bits .xor .u8 a b ∧ Go.bits .xor .u8 a b < 256 := by
  unfold Go.bits
  simp only [IntKind.bits]
  have := (BitVec.ofInt 8 a ^^^ BitVec.ofInt 8 b).isLt
  rw [IntWalk.u8_in _ (by omega)]
  omega
theorem oct_set {l : List Int} (h : Oct l) (i : Nat) (v : Int) (hv : 0 ≤ v ∧ v < 256) : Oct (l.set i v) := by
  intro x hx
  rcases List.mem_or_eq_of_mem_set hx with hx | rfl
  · exact h x hx
  · exact hv
theorem oct_pick (a b c d : List Int) (ha : Oct a) (hb : Oct b) (hc : Oct c) (hd : Oct d) (i : Nat) : Oct (([a, b, c, d] : List (List Int)).getD i []) := by
  match i with
  | 0 => exact ha
  | 1 => exact hb
  | 2 => exact hc
  | 3 => exact hd
  | n + 4 => exact oct_nil
theorem len_pick (a b c d : List Int) (M : Nat) (ha : a.length ≤ M) (hb : b.length ≤ M) (hc : c.length ≤ M) (hd : d.length ≤ M) (i : Nat) : (([a, b, c, d] : List (List Int)).getD i []).length ≤ M := by
  match i with
  | 0 => exact ha
  | 1 => exact hb
  | 2 => exact hc
  | 3 => exact hd
  | n + 4 => exact Nat.zero_le _
theorem and3 (x : Int) : 0 ≤ Go.bits .and .i64 x 3 ∧ Go.bits .and .i64 x 3 < 4 := by
  unfold Go.bits
  have h1 : (BitVec.ofInt (IntKind.i64.bits) x &&& BitVec.ofInt (IntKind.i64.bits) 3).toNat ≤ 3 := by
    rw [BitVec.toNat_and]
    have : (BitVec.ofInt (IntKind.i64.bits) 3).toNat = 3 := by decide
    rw [this]
    exact Nat.and_le_right
  simp only []
  rw [IntKind.wrap_i64]
  omega
theorem cut_in (cut : Int) (n : Nat) (hn : 1 ≤ n) : ∃ c : Int, Int.tmod (Go.bits .and .i64 cut 65535) (n : Int) = c ∧ 0 ≤ c ∧ c < (n : Int) := by
  have hm := and16 cut
  have ht := tmod_in (Go.bits .and .i64 cut 65535) (n : Int) hm.1 (by omega)
  exact ⟨_, rfl, ht.1, ht.2⟩
theorem w_plus (a c : Int) (h0 : 0 ≤ c) (ha : a = 1) (h1 : c < 100000) : wrap64 (a + c) = a + c := w64_id _ (by omega) (by omega)
theorem w_next (q : Nat) (h : q < 100000) : wrap64 ((q : Int) + 1) = ((q + 1 : Nat) : Int) := by rw [w64_id _ (by omega) (by omega)]; omega
/-- One of the readings: the program's reader and the document's own come to one head. -/
theorem T_l1 (raw w x body : List Int) (at_ by_ cut ch i z m : Int) (s : ByteArray) (ok : Bool) (hraw : raw.length ≤ 400) (hw : w.length ≤ 500) (hw1 : 1 ≤ w.length) (hx : x.length ≤ 500) (horaw : Oct raw) (how : Oct w) (hox : Oct x) (hby : 0 ≤ by_ ∧ by_ < 256) :
    ∀ (d k q : Nat), 4 - q = d → q ≤ 4 → d + 40 < k → waybilllaw5_ContTells.l1 (k - d - 1 + 1) raw at_ by_ cut ch body i w ok x 4 z m s = some true →
    waybilllaw5_ContTells.l1 k raw at_ by_ cut ch body i w ok x (q : Int) z m s = some true := by
  intro d
  induction d with
  | zero =>
    intro k q hd hq hk hend
    have : q = 4 := by omega
    subst this
    rw [show k - 0 - 1 + 1 = k by omega] at hend
    exact hend
  | succ d ih =>
    intro k q hd hq hk hend
    obtain ⟨k, rfl⟩ : ∃ j, k = j + 1 := ⟨k - 1, by omega⟩
    have hrec := ih k (q + 1) (by omega) (by omega) (by omega) (by rw [show k - d - 1 + 1 = k + 1 - (d + 1) - 1 + 1 by omega]; exact hend)
    obtain ⟨c, hc, hc0, hc1⟩ := cut_in cut w.length hw1
    have hcA := Aside0.mk hc
    clear hc
    have e1A := Aside0.mk (w_plus 1 c hc0 rfl (by omega))
    have e2A := Aside0.mk (w_next q (by omega))
    have q0 : (q : Int) < 4 := by omega
    have q1 : ¬ (w.length : Int) = 0 := by omega
    have q2 : 1 ≤ 1 + c := by omega
    have q3 : 1 + c ≤ (w.length : Int) := by omega
    have q4 : 1 ≤ (w.length : Int) := by omega
    have q5 : ([] : List Int).length + (w.drop 1).length < 140737488355328 := by rw [List.length_drop]; simp; omega
    have q6 : ([] ++ w.drop 1 : List Int).length + [by_].length < 140737488355328 := by rw [List.nil_append, List.length_drop]; simp; omega
    have q7 : (0 : Int) ≤ (q : Int) := by omega
    have hob : Oct [by_] := fun y hy => by simp at hy; omega
    rw [waybilllaw5_ContTells.l1, if_pos q0, if_neg q1, hcA.out, e1A.out, if_pos q2, if_pos q3, Option.bind_some, if_pos q4, Option.bind_some, if_pos q5, Option.bind_some, Option.bind_some, if_pos q6, if_pos q7, Option.bind_some]
    obtain ⟨y, hy⟩ : ∃ y, ([raw, x, (w.take (1 + c : Int).toNat).drop 1, ([] ++ w.drop 1) ++ [by_]] : List (List Int)).getD (q : Int).toNat [] = y := ⟨_, rfl⟩
    have hoy : Oct y := by rw [← hy]; exact oct_pick _ _ _ _ horaw hox (oct_drop (oct_take how _) _) (oct_app (oct_app oct_nil (oct_drop how _)) hob) _
    have hly : y.length ≤ 1000 := by
      rw [← hy]
      refine len_pick _ _ _ _ 1000 (by omega) (by omega) ?_ ?_ _
      · rw [List.length_drop, List.length_take]; omega
      · rw [List.nil_append, List.length_append, List.length_drop]; simp; omega
    rw [hy, ParseH_f k (by omega) y hoy (by omega), Option.bind_some, HeadOf_f k (by omega) y hoy (by omega), Option.bind_some, if_pos rfl, if_neg (by simp), e2A.out]
    exact hrec
theorem pick_len (m : Int) (s : ByteArray) (z : Int) (h : headOk m s = true) : (head z m s).length ≤ 300 := by
  have := headOk_of h
  rw [head_len]; (repeat' split) <;> omega
theorem T_round (raw body : List Int) (at_ by_ cut ch z m : Int) (i : Nat) (hi : i < 2) (s : ByteArray) (hraw : raw.length ≤ 400) (hbody : body.length ≤ 11000) (horaw : Oct raw) (hobody : Oct body) (hby : 0 ≤ by_ ∧ by_ < 256) (K : Nat) (hK : 70 ≤ K)
    (hnext : waybilllaw5_ContTells.l0 K raw at_ by_ cut (Go.bits .and .i64 ch 65535) body ((i + 1 : Nat) : Int) z (Go.bits .and .i64 m 3) s = some true) :
    waybilllaw5_ContTells.l0 (K + 10) raw at_ by_ cut ch body (i : Int) z m s = some true := by
  have e2A := Aside0.mk (w_next i (by omega))
  have h3 : Oct [3] := fun x hx => by simp at hx; omega
  have hgo : ∀ w : List Int, Oct w → 1 ≤ w.length → w.length ≤ 500 → w = (if headOk m s = true then [3] ++ head z m s else [3]) →
      waybilllaw5_ContTells.j2 (K + 9) raw at_ by_ cut ch body (i : Int) (if headOk m s = true then ([3] ++ head z m s, true) else ([3], false)).1 (if headOk m s = true then ([3] ++ head z m s, true) else ([3], false)).2 w (headOk m s) z m s = some true := by
    intro w how hw1 hw hwe
    have hp1 : (if headOk m s = true then ([3] ++ head z m s, true) else ([3], false)).1 = w := by rw [hwe]; split <;> rfl
    have hp2 : (if headOk m s = true then ([3] ++ head z m s, true) else ([3], false)).2 = headOk m s := by cases headOk m s <;> rfl
    rw [hp1, hp2, waybilllaw5_ContTells.j2, if_neg (by simp), waybilllaw5_ContTells.j3, if_neg (by simp), Option.bind_some, if_pos (by omega), Option.bind_some, if_pos (by rw [List.length_drop]; simp; omega), Option.bind_some, List.nil_append]
    have hl1 : (w.drop 1).length ≤ 500 := by rw [List.length_drop]; omega
    have hend : ∀ x : List Int, waybilllaw5_ContTells.l1 (K + 2) raw at_ by_ cut ch body (i : Int) w (headOk m s) x 4 z m s = some true := by
      intro x
      have hF := Frames_any (K + 1) (by omega) [4] ch z m s body (by simp) (by omega)
      rw [waybilllaw5_ContTells.l1, if_neg (by omega), hF, Option.bind_some, Option.bind_some]
      by_cases hok : headOk m s = true
      · rw [if_pos hok]
        by_cases hc0 : ch ≥ 0
        · rw [if_pos hc0]
          by_cases hc1 : ch ≤ 65535
          · rw [if_pos ⟨hok, hc0, hc1⟩, decide_eq_true hc1, waybilllaw5_ContTells.j6, if_pos rfl, Content_f K (by omega) [4] ch z m s body (by simp) (by omega) hok ⟨hc0, hc1⟩, Option.bind_some, if_pos hok, if_pos hc0, decide_eq_true hc1, if_neg (by simp), if_pos rfl, e2A.out]
            exact hnext
          · rw [if_neg (fun hh => hc1 hh.2.2), decide_eq_false hc1, waybilllaw5_ContTells.j6, if_neg (by simp), if_pos hok, if_pos hc0, decide_eq_false hc1, if_neg (by simp), if_pos rfl, e2A.out]
            exact hnext
        · rw [if_neg hc0, if_neg (fun hh => hc0 hh.2.1), waybilllaw5_ContTells.j6, if_neg (by simp), if_pos hok, if_neg hc0, if_neg (by simp), if_pos rfl, e2A.out]
          exact hnext
      · rw [if_neg hok, if_neg (fun hh => hok hh.1), waybilllaw5_ContTells.j6, if_neg (by simp), if_neg hok, if_neg (by simp), if_pos rfl, e2A.out]
        exact hnext
    have hx : ∀ x : List Int, Oct x → x.length ≤ 500 → waybilllaw5_ContTells.j4 (K + 7) raw at_ by_ cut ch body (i : Int) w (headOk m s) x z m s = some true := by
      intro x hox hxl
      rw [waybilllaw5_ContTells.j4]
      exact T_l1 raw w x body at_ by_ cut ch _ z m s _ hraw hw hw1 hxl horaw how hox hby 4 (K + 6) 0 (by omega) (by omega) (by omega) (by rw [show K + 6 - 4 - 1 + 1 = K + 2 by omega]; exact hend x)
    by_cases h0 : ((w.drop 1).length : Int) > 0
    · have hne : ¬ ((w.drop 1).length : Int) = 0 := by omega
      obtain ⟨c, hc, hc0, hc1⟩ := cut_in at_ (w.drop 1).length (by omega)
      rw [if_pos h0, if_neg hne, hc, if_pos hc0, if_pos hc1]
      exact hx _ (oct_set (oct_drop how _) _ _ (xor_oct _ _)) (by rw [List.length_set]; exact hl1)
    · rw [if_neg h0]
      exact hx _ (oct_drop how _) hl1
  rw [waybilllaw5_ContTells.l0, if_pos (by omega), Append_any (K + 9) (by omega) [3] z m s (by simp), Option.bind_some, Option.bind_some, HeadOk_f, Option.bind_some]
  by_cases hok : headOk m s = true
  · have hhl := pick_len m s z hok
    rw [if_pos hok, Head_f (K + 9) (by omega) [3] z m s hok (by simp), Option.bind_some]
    exact hgo _ (oct_app h3 (head_oct _ _ _)) (by simp) (by rw [List.length_append]; simp; omega) (by rw [if_pos hok])
  · rw [if_neg hok]
    exact hgo _ h3 (by simp) (by simp) (by rw [if_neg hok])
theorem ContTells : waybilllaw5_ContTells.Pure := by
  intro raw h at_ by_ cut ch body hraw hh _ hby _ _ hbody
  have horaw := oct_wf hraw.2
  have hobody := oct_wf hbody.2
  have hby' : 0 ≤ by_ ∧ by_ < 256 := by
    have := oct_wf (l := [by_]) (by intro x hx; simp at hx; rw [hx]; exact hby)
    exact this by_ (by simp)
  refine ⟨200, ?_⟩
  have hj : ∀ b : Bool, (b = false → raw.length ≤ 400 ∧ body.length ≤ 11000) → waybilllaw5_ContTells.j0 200 raw at_ by_ cut ch body b h.f0 h.f1 h.f2 = some true := by
    intro b hb
    rw [waybilllaw5_ContTells.j0]
    cases b with
    | true => rw [if_pos rfl, awake5_ok 199 (by omega), Option.bind_some]
    | false =>
      obtain ⟨hr, hB⟩ := hb rfl
      rw [if_neg (by simp)]
      refine T_round raw body at_ by_ cut ch h.f0 h.f1 0 (by omega) h.f2 hr hB horaw hobody hby' 189 (by omega) ?_
      refine T_round raw body at_ by_ cut _ h.f0 _ 1 (by omega) h.f2 hr hB horaw hobody hby' 179 (by omega) ?_
      rw [waybilllaw5_ContTells.l0, if_neg (by omega), awake5_ok 178 (by omega), Option.bind_some]
  unfold waybilllaw5_ContTells.f
  by_cases h1 : (raw.length : Int) > 400
  · rw [if_pos h1]
    exact hj true (fun h => by cases h)
  · rw [if_neg h1]
    by_cases h2 : (h.f2.size : Int) > 400
    · rw [if_pos h2]
      exact hj true (fun h => by cases h)
    · rw [if_neg h2]
      exact hj _ (fun hd => ⟨by omega, by have := of_decide_eq_false hd; omega⟩)
end Go.Proofs.Ytpjkaodbcclecaa.Pure
