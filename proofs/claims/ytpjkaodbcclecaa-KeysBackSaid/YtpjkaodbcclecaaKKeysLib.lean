/-
Keys: which may be, and their texts; messages: which may be, and their octets. What the given program's writers come to.
-/
import Derived.Test.YtpjkaodbcclecaaPKx3
import Derived.Test.YtpjkaodbcclecaaPKx4
import Derived.Test.YtpjkaodbcclecaaPKx5
import Derived.Test.YtpjkaodbcclecaaKOctsTxt
namespace Go.Proofs.Ytpjkaodbcclecaa.Pure
open Go.RowKit Go.Proofs.Ytpjkaodbcclecaa.PK Go.Proofs.YtpjkaodbcclecaaW.PrintWords Go.Proofs.YtpjkaodbcclecaaW.PrintLast Go.Proofs.YtpjkaodbcclecaaW.PrintMore
set_option linter.unusedVariables false
set_option linter.unusedSimpArgs false
theorem size_zero (s : ByteArray) : s.toList = [] ↔ s.size = 0 := by
  rw [← List.length_eq_zero_iff, ByteArray.toList_eq, Array.length_toList]
  rfl
def hasK (a : Int) : Int := if a = 1 ∨ a = 2 then 1 else if a = 3 then 7 else if a = 4 then 8 else if a = 5 then 9 else 0
theorem has_f (k : Nat) (hk : 1 ≤ k) (a : Int) : keys_has.f k a = some (hasK a) := by
  obtain ⟨k, rfl⟩ : ∃ j, k = j + 1 := ⟨k - 1, by omega⟩
  unfold keys_has.f hasK
  by_cases h1 : a = 1
  · subst h1; rfl
  · rw [if_neg h1, keys_has.j0]
    by_cases h2 : a = 2
    · subst h2; rfl
    · have h3 : (a == 2) = false := by simpa using h2
      rw [h3, if_neg (by simp), if_neg (show ¬ (a = 1 ∨ a = 2) by omega)]
      by_cases h4 : a = 3
      · rw [if_pos h4, if_pos h4]
      · rw [if_neg h4, if_neg h4]
        by_cases h5 : a = 4
        · rw [if_pos h5, if_pos h5]
        · rw [if_neg h5, if_neg h5]
          by_cases h6 : a = 5
          · rw [if_pos h6, if_pos h6]
          · rw [if_neg h6, if_neg h6]
def nameOk (s : ByteArray) (is : Bool) : Bool := if is = true then decide (s.size ≠ 0 ∧ s.size ≤ 30) else decide (s.size = 0)
theorem name_f (s : ByteArray) (is : Bool) : keys_name.f s is = some (nameOk s is) := by
  unfold keys_name.f nameOk
  cases is with
  | true =>
    rw [if_pos rfl, if_pos rfl]
    by_cases h : s.toList = []
    · have := (size_zero s).1 h
      rw [if_pos h, decide_eq_false (by omega)]
    · have : s.size ≠ 0 := fun hh => h ((size_zero s).2 hh)
      rw [if_neg h]
      congr 1
      by_cases h2 : s.size ≤ 30
      · rw [decide_eq_true (by omega), decide_eq_true ⟨this, h2⟩]
      · rw [decide_eq_false (by omega), decide_eq_false (fun hh => h2 hh.2)]
  | false =>
    rw [if_neg (by simp), if_neg (by simp)]
    congr 1
    by_cases h : s.size = 0
    · rw [decide_eq_true h, (size_zero s).2 h]; rfl
    · have h2 : s.toList ≠ [] := fun hh => h ((size_zero s).1 hh)
      rw [decide_eq_false h]
      cases hs : s.toList with
      | nil => exact absurd hs h2
      | cons c l => rfl
def wA (kd : Int) : Bool := decide (kd = 1 ∨ kd = 2 ∨ kd = 3 ∨ kd = 5)
def wB (kd : Int) : Bool := decide (kd = 3)
def wI (kd : Int) : Bool := decide (kd = 4 ∨ kd = 5)
def kindOk (kd : Int) : Bool := decide (1 ≤ kd ∧ kd ≤ 5)
def restOk (wa wb wi : Bool) (a b c : ByteArray) (id : Int) : Bool := nameOk a wa && (nameOk b wb && ((decide (c.size = 0) || wb) && (decide (c.size ≤ 60) && (decide (id > 0) == wi))))
def goodK (kd : Int) (a b c : ByteArray) (id : Int) : Bool := kindOk kd && restOk (wA kd) (wB kd) (wI kd) a b c id
theorem good_j (k : Nat) (n kd : Int) (a b c : ByteArray) (id : Int) (wb wi : Bool) (hc : Go.bits .and .i64 n 4 = 0 ↔ wb = false) (hi : (Go.bits .and .i64 n 8 != 0) = wi) :
    keys_good.j0 (k + 1) n false kd a b c id = some ((decide (c.size = 0) || wb) && (decide (c.size ≤ 60) && (decide (id > 0) == wi))) := by
  rw [keys_good.j0, if_neg (by simp), hi]
  by_cases h : c.size = 0
  · have h2 := (size_zero c).2 h
    rw [if_pos h2, if_neg (by omega), decide_eq_true h, decide_eq_true (show c.size ≤ 60 by omega)]
    rfl
  · have h2 : ¬ c.toList = [] := fun hh => h ((size_zero c).1 hh)
    rw [if_neg h2, decide_eq_false h]
    cases wb with
    | false => rw [if_pos (hc.2 rfl)]; rfl
    | true =>
      rw [if_neg (fun hh => by have := hc.1 hh; cases this)]
      by_cases h3 : c.size ≤ 60
      · rw [if_neg (by omega), decide_eq_true h3]; rfl
      · rw [if_pos (by omega), decide_eq_false h3]; rfl
theorem good_n (k : Nat) (n kd : Int) (a b c : ByteArray) (id : Int) (wa wb wi : Bool) (h0 : n ≠ 0) (ha : (Go.bits .and .i64 n 1 != 0) = wa) (hb : (Go.bits .and .i64 n 2 != 0) = wb) (hc : Go.bits .and .i64 n 4 = 0 ↔ wb = false) (hi : (Go.bits .and .i64 n 8 != 0) = wi) :
    (if n = 0 then (keys_good.j0 (k + 1) n true kd a b c id) else ((keys_name.f a ((Go.bits .and .i64 n 1) != 0)).bind fun t869 => (if t869 = true then ((keys_name.f b ((Go.bits .and .i64 n 2) != 0)).bind fun t870 => (keys_good.j0 (k + 1) n (!t870) kd a b c id)) else (keys_good.j0 (k + 1) n true kd a b c id)))) = some (restOk wa wb wi a b c id) := by
  have hbad : keys_good.j0 (k + 1) n true kd a b c id = some false := by rw [keys_good.j0, if_pos rfl]
  unfold restOk
  rw [if_neg h0, ha, name_f, Option.bind_some]
  cases nameOk a wa with
  | false => rw [if_neg (by simp), hbad]; rfl
  | true =>
    rw [if_pos rfl, hb, name_f, Option.bind_some]
    cases nameOk b wb with
    | false => exact hbad
    | true => exact good_j k n kd a b c id wb wi hc hi
theorem good_f (k : Nat) (hk : 2 ≤ k) (kd : Int) (a b c : ByteArray) (id : Int) : keys_good.f k kd a b c id = some (goodK kd a b c id) := by
  obtain ⟨k, rfl⟩ : ∃ j, k = j + 1 := ⟨k - 1, by omega⟩
  unfold keys_good.f goodK
  rw [has_f (k + 1) (by omega), Option.bind_some]
  by_cases h : 1 ≤ kd ∧ kd ≤ 5
  · have hk : kindOk kd = true := decide_eq_true h
    rw [hk, Bool.true_and]
    have h5 : kd = 1 ∨ kd = 2 ∨ kd = 3 ∨ kd = 4 ∨ kd = 5 := by omega
    rcases h5 with rfl | rfl | rfl | rfl | rfl
    · exact good_n k 1 1 a b c id true false false (by decide) (by decide) (by decide) (by decide) (by decide)
    · exact good_n k 1 2 a b c id true false false (by decide) (by decide) (by decide) (by decide) (by decide)
    · exact good_n k 7 3 a b c id true true false (by decide) (by decide) (by decide) (by decide) (by decide)
    · exact good_n k 8 4 a b c id false false true (by decide) (by decide) (by decide) (by decide) (by decide)
    · exact good_n k 9 5 a b c id true false true (by decide) (by decide) (by decide) (by decide) (by decide)
  · have hk : kindOk kd = false := decide_eq_false h
    have h0 : hasK kd = 0 := by
      unfold hasK
      rw [if_neg (by omega), if_neg (by omega), if_neg (by omega), if_neg (by omega)]
    rw [hk, h0, if_pos rfl, keys_good.j0, if_pos rfl]
    rfl
def part (w : Bool) (s : ByteArray) : List Int := if w = true then be 1 (s.size : Int) ++ bytesOf s else []
def idO (w : Bool) (id : Int) : List Int := if w = true then be 8 id else []
def keyOct (kd : Int) (a b c : ByteArray) (id : Int) : List Int := [kd % 256] ++ (part (wA kd) a ++ (part (wB kd) b ++ (part (wB kd) c ++ idO (wI kd) id)))
theorem part_len (w : Bool) (s : ByteArray) : (part w s).length = if w = true then 1 + s.size else 0 := by
  unfold part
  have := bytesOf_len s
  split
  · rw [List.length_append, be_len, this]
  · rfl
theorem part_oct (w : Bool) (s : ByteArray) : Oct (part w s) := by
  unfold part
  split
  · exact oct_app (be_oct _ _) (oct_bytesOf _)
  · exact oct_nil
theorem idO_len (w : Bool) (id : Int) : (idO w id).length = if w = true then 8 else 0 := by unfold idO; split; exact be_len _ _; rfl
theorem idO_oct (w : Bool) (id : Int) : Oct (idO w id) := by unfold idO; split; exact be_oct _ _; exact oct_nil
theorem key_oct (kd : Int) (a b c : ByteArray) (id : Int) : Oct (keyOct kd a b c id) := by
  unfold keyOct
  refine oct_app (fun x hx => ?_) (oct_app (part_oct _ _) (oct_app (part_oct _ _) (oct_app (part_oct _ _) (idO_oct _ _))))
  rw [List.mem_singleton] at hx
  omega
theorem text_step (k : Nat) (hk : 9 ≤ k) (n : Int) (acc : List Int) (l : List ByteArray) (hl : l.length = 3) (i : Nat) (hi : i < 3) (w : Bool) (hw : (Go.bits .and .i64 (shr .i64 n (i : Int)) 1 = 1) ↔ w = true) (s : ByteArray) (hs : l.getD i ByteArray.empty = s) (hz : w = true → s.size ≤ 255) (hacc : acc.length ≤ 1000) (kd : Int) (a b c : ByteArray) (id : Int) :
    keys_Text.l0 (k + 1) n acc l 3 (i : Int) kd a b c id = keys_Text.l0 k n (acc ++ part w s) l 3 ((i + 1 : Nat) : Int) kd a b c id := by
  have e1 : IntKind.u64.wrap (i : Int) = (i : Int) := u64_id _ (by omega) (by omega)
  have e2 : wrap64 ((i : Int) + 1) = ((i + 1 : Nat) : Int) := by rw [w64_id _ (by omega) (by omega)]; omega
  have e3 : rdOf ByteArray.empty l (i : Int) = s := by unfold rdOf; rw [Int.toNat_natCast]; exact hs
  rw [keys_Text.l0, if_pos (by omega), if_pos (by omega), if_pos (by omega), e1, if_pos (by omega), e2, e3]
  unfold part
  cases w with
  | true => rw [if_pos (hw.2 rfl), Short_f k acc s hk (by omega), if_pos (hz rfl), Option.bind_some, if_pos rfl]
  | false =>
    rw [if_neg (fun hh => by have := hw.1 hh; cases this), if_neg (by simp), List.append_nil]
theorem text_n (k : Nat) (hk : 12 ≤ k) (n kd : Int) (a b c : ByteArray) (id : Int) (wa wb wi : Bool) (h0 : (Go.bits .and .i64 (shr .i64 n 0) 1 = 1) ↔ wa = true) (h1 : (Go.bits .and .i64 (shr .i64 n 1) 1 = 1) ↔ wb = true) (h2 : (Go.bits .and .i64 (shr .i64 n 2) 1 = 1) ↔ wb = true)
    (hi : Go.bits .and .i64 n 8 = 0 ↔ wi = false) (ha : wa = true → a.size ≤ 255) (hb : wb = true → b.size ≤ 255) (hc : wb = true → c.size ≤ 255) :
    keys_Text.l0 (k + 4) n [kd % 256] [a, b, c] 3 0 kd a b c id = some (strOfNums ([kd % 256] ++ (part wa a ++ (part wb b ++ (part wb c ++ idO wi id)))), true) := by
  have pa := part_len wa a
  have pb := part_len wb b
  have pc := part_len wb c
  have pa2 : (part wa a).length ≤ 256 := by
    rw [pa]
    split
    · next h => have h := ha h; omega
    · omega
  have pb2 : (part wb b).length ≤ 256 := by
    rw [pb]
    split
    · next h => have h := hb h; omega
    · omega
  have pc2 : (part wb c).length ≤ 256 := by
    rw [pc]
    split
    · next h => have h := hc h; omega
    · omega
  clear pa pb pc
  have s0 := text_step (k + 3) (by omega) n [kd % 256] [a, b, c] rfl 0 (by omega) wa h0 a rfl ha (by simp) kd a b c id
  have s1 := text_step (k + 2) (by omega) n ([kd % 256] ++ part wa a) [a, b, c] rfl 1 (by omega) wb h1 b rfl hb (by rw [List.length_append]; simp; omega) kd a b c id
  have s2 := text_step (k + 1) (by omega) n (([kd % 256] ++ part wa a) ++ part wb b) [a, b, c] rfl 2 (by omega) wb h2 c rfl hc (by rw [List.length_append, List.length_append]; simp; omega) kd a b c id
  have s3 := s0.trans (s1.trans s2)
  rw [show ((0 : Nat) : Int) = 0 from rfl] at s3
  rw [s3, keys_Text.l0, if_neg (by omega)]
  unfold idO
  cases wi with
  | false => rw [if_pos (hi.2 rfl), if_neg (by simp), List.append_nil]; simp only [List.append_assoc]
  | true =>
    have h8 : wd 8 = 8 := by decide
    rw [if_neg (fun hh => by have := hi.1 hh; cases this), if_pos rfl, Int_f k (by omega) _ 8 id (by rw [List.length_append, List.length_append, List.length_append]; simp; omega), h8, Option.bind_some]
    simp only [List.append_assoc]
theorem good_sizes {kd : Int} {a b c : ByteArray} {id : Int} (h : goodK kd a b c id = true) : (1 ≤ kd ∧ kd ≤ 5) ∧ a.size ≤ 30 ∧ b.size ≤ 30 ∧ c.size ≤ 60 ∧ (wA kd = true → a.size ≠ 0) ∧ (wA kd = false → a.size = 0) ∧ (wB kd = true → b.size ≠ 0) ∧ (wB kd = false → b.size = 0 ∧ c.size = 0) ∧ (id > 0 ↔ wI kd = true) := by
  unfold goodK restOk at h
  rw [Bool.and_eq_true, Bool.and_eq_true, Bool.and_eq_true, Bool.and_eq_true, Bool.and_eq_true, Bool.or_eq_true, decide_eq_true_eq, decide_eq_true_eq, beq_iff_eq] at h
  obtain ⟨h1, h2, h3, h4, h5, h6⟩ := h
  have hk : 1 ≤ kd ∧ kd ≤ 5 := of_decide_eq_true h1
  have hn : ∀ (s : ByteArray) (w : Bool), nameOk s w = true → s.size ≤ 30 ∧ (w = true → s.size ≠ 0) ∧ (w = false → s.size = 0) := by
    intro s w hh
    cases w with
    | true => have hh := of_decide_eq_true hh; exact ⟨hh.2, fun _ => hh.1, fun e => Bool.noConfusion e⟩
    | false => have hh := of_decide_eq_true hh; exact ⟨by omega, fun e => Bool.noConfusion e, fun _ => hh⟩
  have n2 := hn a _ h2
  have n3 := hn b _ h3
  refine ⟨hk, n2.1, n3.1, h5, n2.2.1, n2.2.2, n3.2.1, fun hw => ⟨n3.2.2 hw, ?_⟩, ?_⟩
  · rcases h4 with h4 | h4
    · exact h4
    · rw [hw] at h4; cases h4
  · rw [← h6, decide_eq_true_eq]
theorem Text_f (k : Nat) (hk : 20 ≤ k) (kd : Int) (a b c : ByteArray) (id : Int) : keys_Text.f k kd a b c id = some (if goodK kd a b c id = true then (strOfNums (keyOct kd a b c id), true) else ((⟨#[]⟩ : ByteArray), false)) := by
  obtain ⟨k, rfl⟩ : ∃ j, k = j + 4 := ⟨k - 4, by omega⟩
  unfold keys_Text.f
  rw [good_f (k + 4) (by omega), Option.bind_some]
  by_cases hg : goodK kd a b c id = true
  · rw [if_pos hg, if_pos hg, has_f (k + 4) (by omega), Option.bind_some, Option.bind_some]
    obtain ⟨hkd, ha, hb, hc, _⟩ := good_sizes hg
    unfold keyOct
    have h5 : kd = 1 ∨ kd = 2 ∨ kd = 3 ∨ kd = 4 ∨ kd = 5 := by omega
    show keys_Text.l0 (k + 4) (hasK kd) [kd % 256] [a, b, c] 3 0 kd a b c id = _
    clear hg
    rcases h5 with rfl | rfl | rfl | rfl | rfl
    · exact text_n k (by omega) 1 1 a b c id true false false (by decide) (by decide) (by decide) (by decide) (fun _ => by omega) (fun _ => by omega) (fun _ => by omega)
    · exact text_n k (by omega) 1 2 a b c id true false false (by decide) (by decide) (by decide) (by decide) (fun _ => by omega) (fun _ => by omega) (fun _ => by omega)
    · exact text_n k (by omega) 7 3 a b c id true true false (by decide) (by decide) (by decide) (by decide) (fun _ => by omega) (fun _ => by omega) (fun _ => by omega)
    · exact text_n k (by omega) 8 4 a b c id false false true (by decide) (by decide) (by decide) (by decide) (fun _ => by omega) (fun _ => by omega) (fun _ => by omega)
    · exact text_n k (by omega) 9 5 a b c id true false true (by decide) (by decide) (by decide) (by decide) (fun _ => by omega) (fun _ => by omega) (fun _ => by omega)
  · rw [if_neg hg, if_neg hg]
/-! ### messages -/
def goodM (a b c : ByteArray) (m : Int) (l : List Int) : Bool := decide (a.size ≤ 30 ∧ b.size ≤ 60 ∧ c.size ≤ 60 ∧ 0 ≤ m ∧ m ≤ 2 ∧ l.length ≤ 10000)
theorem goodMsg_f (a b c : ByteArray) (m : Int) (l : List Int) : keys_goodMsg.f a b c m l = some (goodM a b c m l) := by
  unfold keys_goodMsg.f goodM
  by_cases h1 : (a.size : Int) ≤ 30
  case neg => rw [if_neg h1, decide_eq_false (by omega)]
  rw [if_pos h1]
  by_cases h2 : (b.size : Int) ≤ 60
  case neg => rw [if_neg h2, decide_eq_false (by omega)]
  rw [if_pos h2]
  by_cases h3 : (c.size : Int) ≤ 60
  case neg => rw [if_neg h3, decide_eq_false (by omega)]
  rw [if_pos h3]
  by_cases h4 : m ≥ 0
  case neg => rw [if_neg h4, decide_eq_false (by omega)]
  rw [if_pos h4]
  by_cases h5 : m ≤ 2
  case neg => rw [if_neg h5, decide_eq_false (by omega)]
  rw [if_pos h5]
  congr 1
  by_cases h6 : l.length ≤ 10000
  · rw [decide_eq_true (by omega), decide_eq_true (by omega)]
  · rw [decide_eq_false (by omega), decide_eq_false (by omega)]
def msgOct (a b c : ByteArray) (m : Int) (l : List Int) : List Int := part true a ++ (part true b ++ (part true c ++ (be 1 m ++ l)))
theorem msg_step (k : Nat) (hk : 9 ≤ k) (acc : List Int) (t : List ByteArray) (hl : t.length = 3) (i : Nat) (hi : i < 3) (s : ByteArray) (hs : t.getD i ByteArray.empty = s) (hz : s.size ≤ 255) (hacc : acc.length ≤ 1000) (a b c : ByteArray) (m : Int) (l : List Int) :
    keys_Msg.l0 (k + 1) acc t 3 (i : Int) a b c m l = keys_Msg.l0 k (acc ++ part true s) t 3 ((i + 1 : Nat) : Int) a b c m l := by
  have e2 : wrap64 ((i : Int) + 1) = ((i + 1 : Nat) : Int) := by rw [w64_id _ (by omega) (by omega)]; omega
  have e3 : rdOf ByteArray.empty t (i : Int) = s := by unfold rdOf; rw [Int.toNat_natCast]; exact hs
  rw [keys_Msg.l0, if_pos (by omega), if_pos (by omega), if_pos (by omega), e2, e3, Short_f k acc s hk (by omega), if_pos hz, Option.bind_some]
  unfold part
  rw [if_pos rfl]
theorem Msg_f (k : Nat) (hk : 20 ≤ k) (a b c : ByteArray) (m : Int) (l : List Int) : keys_Msg.f k a b c m l = some (if goodM a b c m l = true then (msgOct a b c m l, true) else ([], false)) := by
  obtain ⟨k, rfl⟩ : ∃ j, k = j + 4 := ⟨k - 4, by omega⟩
  unfold keys_Msg.f
  rw [goodMsg_f, Option.bind_some]
  by_cases hg : goodM a b c m l = true
  · rw [if_pos hg, if_pos hg, Option.bind_some]
    obtain ⟨h1, h2, h3, h4, h5, h6⟩ := of_decide_eq_true hg
    have pa : (part true a).length = 1 + a.size := by rw [part_len, if_pos rfl]
    have pb : (part true b).length = 1 + b.size := by rw [part_len, if_pos rfl]
    have pc : (part true c).length = 1 + c.size := by rw [part_len, if_pos rfl]
    have s0 := msg_step (k + 3) (by omega) [] [a, b, c] rfl 0 (by omega) a rfl (by omega) (by simp) a b c m l
    have s1 := msg_step (k + 2) (by omega) ([] ++ part true a) [a, b, c] rfl 1 (by omega) b rfl (by omega) (by rw [List.length_append, pa]; simp; omega) a b c m l
    have s2 := msg_step (k + 1) (by omega) (([] ++ part true a) ++ part true b) [a, b, c] rfl 2 (by omega) c rfl (by omega) (by rw [List.length_append, List.length_append, pa, pb]; simp; omega) a b c m l
    have s3 := s0.trans (s1.trans s2)
    rw [show ((0 : Nat) : Int) = 0 from rfl] at s3
    have hu : IntKind.u64.wrap m = m := u64_id m h4 (by omega)
    have h8 : wd 1 = 1 := by decide
    show keys_Msg.l0 (k + 4) [] [a, b, c] 3 0 a b c m l = _
    rw [s3, keys_Msg.l0, if_neg (by omega), hu, Int_f k (by omega) _ 1 m (by rw [List.length_append, List.length_append, List.length_append, pa, pb, pc]; simp; omega), h8, Option.bind_some, if_pos (by rw [List.length_append, List.length_append, List.length_append, List.length_append, pa, pb, pc, be_len]; simp; omega)]
    unfold msgOct
    simp only [List.append_assoc, List.nil_append]
  · rw [if_neg hg, if_neg hg]
/-! ### octets of a text -/
theorem bytesOf_str {l : List Int} (ho : Oct l) : bytesOf (strOfNums l) = l := by
  unfold bytesOf
  rw [strOfNums_data, List.map_map]
  have h : l.map ((fun b : UInt8 => (b.toNat : Int)) ∘ fun n : Int => UInt8.ofNat n.toNat) = l.map id := by
    refine List.map_congr_left (fun c hc => ?_)
    have hc := ho c hc
    show (((UInt8.ofNat c.toNat).toNat : Nat) : Int) = c
    rw [u8_toNat c hc]
    omega
  rw [h, List.map_id]
theorem size_str (l : List Int) : (strOfNums l).size = l.length := by
  rw [← bytesOf_len]
  unfold bytesOf
  rw [strOfNums_data, List.length_map, List.length_map]
end Go.Proofs.Ytpjkaodbcclecaa.Pure
