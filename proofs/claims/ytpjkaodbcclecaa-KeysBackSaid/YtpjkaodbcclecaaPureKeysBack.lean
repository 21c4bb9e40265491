/-
A key is read as it was told, and no other key has its text; a message, too: for any two keys that may be, any message.
-/
import Derived.Test.YtpjkaodbcclecaaKKeysTame
import Derived.Test.YtpjkaodbcclecaaKKeysStr
import Derived.Test.YtpjkaodbcclecaaKOctsAwake12
import Derived.Test.YtpjkaodbcclecaaPKStKeysBack
namespace Go.Proofs.Ytpjkaodbcclecaa.Pure
open Go.RowKit Go.Proofs.Ytpjkaodbcclecaa.PK Go.Proofs.YtpjkaodbcclecaaW.PrintWords Go.Proofs.YtpjkaodbcclecaaW.PrintLast Go.Proofs.YtpjkaodbcclecaaW.PrintMore
set_option linter.unusedVariables false
set_option linter.unusedSimpArgs false
theorem In_Rest (l : List Int) (hl : l.length < 140737488355328) : octs_In_Rest.f l false = some (l, [], false) := by
  unfold octs_In_Rest.f
  rw [u64_id _ (by omega) (by omega), take_f l _ (by omega) hl, if_neg (by omega), Option.bind_some]
  simp
theorem ba_inj {s t : ByteArray} (h : s.toList = t.toList) : s = t := by
  rw [ByteArray.toList_eq, ByteArray.toList_eq] at h
  cases s
  cases t
  have h2 := Array.toList_inj.1 h
  exact congrArg ByteArray.mk h2
theorem ba_nil {s : ByteArray} (h : s.size = 0) : s = ⟨#[]⟩ := ba_inj (((size_zero s).2 h).trans ((size_zero ⟨#[]⟩).2 rfl).symm)
theorem be1 (v : Int) : be 1 v = [v % 256] := by
  show [(v / 256 ^ 0) % 256] = _
  rw [Int.pow_zero, Int.ediv_one]
theorem part_true (s : ByteArray) (rest : List Int) : part true s ++ rest = be 1 (s.size : Int) ++ (bytesOf s ++ rest) := by
  unfold part
  rw [if_pos rfl, List.append_assoc]
theorem part_false (s : ByteArray) (rest : List Int) : part false s ++ rest = rest := rfl
theorem step0 (k q : Nat) (hk : 9 ≤ k) (n : Int) (w : Bool) (ht : keys_Parse.tst n 0 = w) (s : ByteArray) (hs : s.size ≤ 255) (hz : w = false → s.size = 0) (rest : List Int) (ho : Oct rest) (hl : rest.length ≤ 1000) (x y : ByteArray) :
    keys_Parse.l0 k (q + 1) n 0 (part w s ++ rest) false ⟨#[]⟩ x y = keys_Parse.l0 k q n 1 rest false s x y := by
  rw [keys_Parse.l0, if_pos (by decide), ht]
  cases w with
  | true => rw [if_pos rfl, part_true, read_short k s rest hs hk ho (by omega), Option.bind_some]; rfl
  | false => rw [if_neg (by decide), ba_nil (hz rfl), part_false]; rfl
theorem step1 (k q : Nat) (hk : 9 ≤ k) (n : Int) (w : Bool) (ht : keys_Parse.tst n 1 = w) (s : ByteArray) (hs : s.size ≤ 255) (hz : w = false → s.size = 0) (rest : List Int) (ho : Oct rest) (hl : rest.length ≤ 1000) (x y : ByteArray) :
    keys_Parse.l0 k (q + 1) n 1 (part w s ++ rest) false x ⟨#[]⟩ y = keys_Parse.l0 k q n 2 rest false x s y := by
  rw [keys_Parse.l0, if_pos (by decide), ht]
  cases w with
  | true => rw [if_pos rfl, part_true, read_short k s rest hs hk ho (by omega), Option.bind_some]; rfl
  | false => rw [if_neg (by decide), ba_nil (hz rfl), part_false]; rfl
theorem step2 (k q : Nat) (hk : 9 ≤ k) (n : Int) (w : Bool) (ht : keys_Parse.tst n 2 = w) (s : ByteArray) (hs : s.size ≤ 255) (hz : w = false → s.size = 0) (rest : List Int) (ho : Oct rest) (hl : rest.length ≤ 1000) (x y : ByteArray) :
    keys_Parse.l0 k (q + 1) n 2 (part w s ++ rest) false x y ⟨#[]⟩ = keys_Parse.l0 k q n 3 rest false x y s := by
  rw [keys_Parse.l0, if_pos (by decide), ht]
  cases w with
  | true => rw [if_pos rfl, part_true, read_short k s rest hs hk ho (by omega), Option.bind_some]; rfl
  | false => rw [if_neg (by decide), ba_nil (hz rfl), part_false]; rfl
theorem end_f (k : Nat) (hk : 2 ≤ k) (kd : Int) (a b c : ByteArray) (id : Int) (hg : goodK kd a b c id = true) : keys_Parse.end_ k kd a b c id [] false = some (kd, a, b, c, id, true) := by
  unfold keys_Parse.end_ octs_In_Ok.f octs_In_Left.f
  rw [Option.bind_some, if_pos (by decide), Option.bind_some, if_neg (by decide), good_f k hk, hg, Option.bind_some, if_pos rfl]
theorem parse_n (k : Nat) (hk : 20 ≤ k) (n kd : Int) (wa wb wi : Bool) (hn : hasK kd = n) (t0 : keys_Parse.tst n 0 = wa) (t1 : keys_Parse.tst n 1 = wb) (t2 : keys_Parse.tst n 2 = wb) (hi : Go.bits .and .i64 n 8 = 0 ↔ wi = false) (hkd : 1 ≤ kd ∧ kd ≤ 5)
    (a b c : ByteArray) (id : Int) (ha : a.size ≤ 255) (hb : b.size ≤ 255) (hc : c.size ≤ 255) (za : wa = false → a.size = 0) (zb : wb = false → b.size = 0) (zc : wb = false → c.size = 0) (zi : wi = false → id = 0) (hid : 0 ≤ id ∧ id < 18446744073709551616) (hg : goodK kd a b c id = true) :
    keys_Parse.f k (strOfNums ([kd % 256] ++ (part wa a ++ (part wb b ++ (part wb c ++ idO wi id))))) = some (kd, a, b, c, id, true) := by
  have oi := idO_oct wi id
  have oc := oct_app (part_oct wb c) oi
  have ob := oct_app (part_oct wb b) oc
  have oa := oct_app (part_oct wa a) ob
  have o1 : Oct [kd % 256] := by intro x hx; rw [List.mem_singleton] at hx; omega
  have li : (idO wi id).length ≤ 8 := by rw [idO_len]; split <;> omega
  have lc : (part wb c).length ≤ 256 := by rw [part_len]; split <;> omega
  have lb : (part wb b).length ≤ 256 := by rw [part_len]; split <;> omega
  have la : (part wa a).length ≤ 256 := by rw [part_len]; split <;> omega
  have mc : (part wb c ++ idO wi id).length ≤ 264 := by rw [List.length_append]; omega
  have mb : (part wb b ++ (part wb c ++ idO wi id)).length ≤ 520 := by rw [List.length_append]; omega
  have ma : (part wa a ++ (part wb b ++ (part wb c ++ idO wi id))).length ≤ 776 := by rw [List.length_append]; omega
  have hsz : (strOfNums ([kd % 256] ++ (part wa a ++ (part wb b ++ (part wb c ++ idO wi id))))).size ≤ 9223372036854775807 := by rw [size_str, List.length_append]; simp only [List.length_singleton]; omega
  unfold keys_Parse.f octs_From.f
  rw [if_pos hsz, Option.bind_some, bytesOf_str (oct_app o1 oa), ← be1]
  dsimp only
  rw [read_be k 1 1 (by decide) kd _ (by omega) oa (by omega), Option.bind_some]
  have e1 : kd % 256 ^ 1 = kd := by rw [Int.pow_one]; omega
  dsimp only
  rw [e1, w64_id kd (by omega) (by omega), has_f k (by omega), hn, Option.bind_some]
  have s0 := step0 k 3 (by omega) n wa t0 a ha za _ ob (by omega) ⟨#[]⟩ ⟨#[]⟩
  have s1 := step1 k 2 (by omega) n wb t1 b hb zb _ oc (by omega) a ⟨#[]⟩
  have s2 := step2 k 1 (by omega) n wb t2 c hc zc _ oi (by omega) a b
  have s3 : keys_Parse.l0 k 4 n 0 (part wa a ++ (part wb b ++ (part wb c ++ idO wi id))) false ⟨#[]⟩ ⟨#[]⟩ ⟨#[]⟩ = some (idO wi id, false, a, b, c) := (s0.trans (s1.trans s2)).trans rfl
  rw [s3, Option.bind_some]
  cases wi with
  | false =>
    rw [if_pos (hi.2 rfl)]
    have hz := zi rfl
    subst hz
    exact end_f k (by omega) kd a b c 0 hg
  | true =>
    rw [if_neg (fun hh => by have := hi.1 hh; cases this)]
    have e8 : id % 256 ^ 8 = id := by rw [show (256 : Int) ^ 8 = 18446744073709551616 by decide]; exact Int.emod_eq_of_lt hid.1 hid.2
    have r8 := read_be k 8 8 (by decide) id [] (by omega) oct_nil (by simp)
    rw [List.append_nil, e8] at r8
    show ((octs_In_Int.f k (be 8 id) false 8).bind _) = _
    rw [r8, Option.bind_some]
    exact end_f k (by omega) kd a b c id hg
theorem parse_f (k : Nat) (hk : 20 ≤ k) (kd : Int) (a b c : ByteArray) (id : Int) (hg : goodK kd a b c id = true) (hid : 0 ≤ id ∧ id < 18446744073709551616) : keys_Parse.f k (strOfNums (keyOct kd a b c id)) = some (kd, a, b, c, id, true) := by
  obtain ⟨hkd, ha, hb, hc, _, za, _, zb, zi⟩ := good_sizes hg
  have zi2 : wI kd = false → id = 0 := by
    intro h
    have : ¬ id > 0 := fun hh => by have := zi.1 hh; rw [h] at this; cases this
    omega
  have h5 : kd = 1 ∨ kd = 2 ∨ kd = 3 ∨ kd = 4 ∨ kd = 5 := by omega
  unfold keyOct
  rcases h5 with rfl | rfl | rfl | rfl | rfl
  · exact parse_n k hk 1 1 true false false rfl (by decide) (by decide) (by decide) (by decide) hkd a b c id (by omega) (by omega) (by omega) za (fun h => (zb h).1) (fun h => (zb h).2) zi2 hid hg
  · exact parse_n k hk 1 2 true false false rfl (by decide) (by decide) (by decide) (by decide) hkd a b c id (by omega) (by omega) (by omega) za (fun h => (zb h).1) (fun h => (zb h).2) zi2 hid hg
  · exact parse_n k hk 7 3 true true false rfl (by decide) (by decide) (by decide) (by decide) hkd a b c id (by omega) (by omega) (by omega) za (fun h => (zb h).1) (fun h => (zb h).2) zi2 hid hg
  · exact parse_n k hk 8 4 false false true rfl (by decide) (by decide) (by decide) (by decide) hkd a b c id (by omega) (by omega) (by omega) za (fun h => (zb h).1) (fun h => (zb h).2) zi2 hid hg
  · exact parse_n k hk 9 5 true false true rfl (by decide) (by decide) (by decide) (by decide) hkd a b c id (by omega) (by omega) (by omega) za (fun h => (zb h).1) (fun h => (zb h).2) zi2 hid hg
theorem parseM_f (k : Nat) (hk : 20 ≤ k) (a b c : ByteArray) (m : Int) (l : List Int) (hg : goodM a b c m l = true) (ho : Oct l) : keys_ParseMsg.f k (msgOct a b c m l) = some (a, b, c, m, l, true) := by
  obtain ⟨h1, h2, h3, h4, h5, h6⟩ := of_decide_eq_true hg
  have om := oct_app (be_oct 1 m) ho
  have oc := oct_app (part_oct true c) om
  have ob := oct_app (part_oct true b) oc
  have lm : (be 1 m ++ l).length ≤ 10001 := by rw [List.length_append, be_len]; omega
  have pc : (part true c).length = 1 + c.size := by rw [part_len, if_pos rfl]
  have pb : (part true b).length = 1 + b.size := by rw [part_len, if_pos rfl]
  have lc : (part true c ++ (be 1 m ++ l)).length ≤ 10100 := by rw [List.length_append]; omega
  have lb : (part true b ++ (part true c ++ (be 1 m ++ l))).length ≤ 10200 := by rw [List.length_append]; omega
  have e1 : m % 256 ^ 1 = m := by rw [Int.pow_one]; omega
  unfold keys_ParseMsg.f octs_From.f octs_In_Ok.f msgOct
  rw [Option.bind_some]
  dsimp only
  rw [part_true, read_short k a _ (by omega) (by omega) ob (by omega), Option.bind_some]
  dsimp only
  rw [part_true, read_short k b _ (by omega) (by omega) oc (by omega), Option.bind_some]
  dsimp only
  rw [part_true, read_short k c _ (by omega) (by omega) om (by omega), Option.bind_some]
  dsimp only
  rw [read_be k 1 1 (by decide) m _ (by omega) ho (by omega), Option.bind_some, Option.bind_some]
  dsimp only
  rw [In_Rest l (by omega), Option.bind_some, if_pos (by decide), e1, w64_id m (by omega) (by omega), goodMsg_f, hg, Option.bind_some, if_pos rfl]
theorem same_self (a b c : ByteArray) (m : Int) (l : List Int) : waybillref7_SameMsg.f a b c m l a b c m l = some true := by
  unfold waybillref7_SameMsg.f
  rw [if_pos rfl, if_pos rfl, if_pos rfl, if_pos rfl]
  congr 1
  exact beq_self_eq_true _
theorem back_j (a b c : ByteArray) (m : Int) (l : List Int) (ho : Oct l) : waybilllaw12_KeysBack.j0 (40 + 1) false a b c m l = some true := by
  rw [waybilllaw12_KeysBack.j0, if_neg (by decide), Msg_f 40 (by omega), Option.bind_some]
  have aw := awake12_ok 40 (by omega)
  by_cases hg : goodM a b c m l = true
  · obtain ⟨h1, h2, h3, h4, h5, h6⟩ := of_decide_eq_true hg
    rw [if_pos hg]
    dsimp only
    rw [parseM_f 40 (by omega) a b c m l hg ho, Option.bind_some, if_pos (by omega), if_pos (by omega), if_pos (by omega), if_pos h4, if_pos h5, decide_eq_true (by omega), if_pos (by decide), if_pos rfl, if_pos rfl, same_self, Option.bind_some, if_pos rfl, aw]
    rfl
  · rw [if_neg hg]
    dsimp only
    have hn : (keys_ParseMsg.f 40 []).isSome = true := by decide +kernel
    obtain ⟨v, hv⟩ := Option.isSome_iff_exists.1 hn
    rw [hv, Option.bind_some]
    have hng : ¬ (a.size ≤ 30 ∧ b.size ≤ 60 ∧ c.size ≤ 60 ∧ 0 ≤ m ∧ m ≤ 2 ∧ l.length ≤ 10000) := fun hh => hg (decide_eq_true hh)
    by_cases h1 : (a.size : Int) ≤ 30
    case neg => rw [if_neg h1, if_pos (by decide), if_neg (by decide), aw]; rfl
    rw [if_pos h1]
    by_cases h2 : (b.size : Int) ≤ 60
    case neg => rw [if_neg h2, if_pos (by decide), if_neg (by decide), aw]; rfl
    rw [if_pos h2]
    by_cases h3 : (c.size : Int) ≤ 60
    case neg => rw [if_neg h3, if_pos (by decide), if_neg (by decide), aw]; rfl
    rw [if_pos h3]
    by_cases h4 : m ≥ 0
    case neg => rw [if_neg h4, if_pos (by decide), if_neg (by decide), aw]; rfl
    rw [if_pos h4]
    by_cases h5 : m ≤ 2
    case neg => rw [if_neg h5, if_pos (by decide), if_neg (by decide), aw]; rfl
    rw [if_pos h5, decide_eq_false (show ¬ ((l.length : Int) ≤ 10000) by omega), if_pos (by decide), if_neg (by decide), aw]
    rfl
theorem key_len {kd : Int} {a b c : ByteArray} {id : Int} (hg : goodK kd a b c id = true) : (strOfNums (keyOct kd a b c id)).size ≤ 130 := by
  obtain ⟨hkd, ha, hb, hc, _⟩ := good_sizes hg
  clear hg
  rw [size_str]
  unfold keyOct
  rw [List.length_append, List.length_append, List.length_append, List.length_append, part_len, part_len, part_len, idO_len, List.length_singleton]
  have h5 : kd = 1 ∨ kd = 2 ∨ kd = 3 ∨ kd = 4 ∨ kd = 5 := by omega
  rcases h5 with rfl | rfl | rfl | rfl | rfl
  · rw [if_pos (by decide), if_neg (by decide), if_neg (by decide), if_neg (by decide)]; omega
  · rw [if_pos (by decide), if_neg (by decide), if_neg (by decide), if_neg (by decide)]; omega
  · rw [if_pos (by decide), if_pos (by decide), if_pos (by decide), if_neg (by decide)]; omega
  · rw [if_neg (by decide), if_neg (by decide), if_neg (by decide), if_pos (by decide)]; omega
  · rw [if_pos (by decide), if_neg (by decide), if_neg (by decide), if_pos (by decide)]; omega
theorem same_text {kd : Int} {a b c : ByteArray} {id : Int} {kd' : Int} {a' b' c' : ByteArray} {id' : Int} (hg : goodK kd a b c id = true) (hid : 0 ≤ id ∧ id < 18446744073709551616) (hg' : goodK kd' a' b' c' id' = true) (hid' : 0 ≤ id' ∧ id' < 18446744073709551616) :
    ((strOfNums (keyOct kd a b c id)).toList == (strOfNums (keyOct kd' a' b' c' id')).toList) = (kd == kd' && (a.toList == a'.toList && (b.toList == b'.toList && (c.toList == c'.toList && (id == id'))))) := by
  by_cases h : (strOfNums (keyOct kd a b c id)).toList = (strOfNums (keyOct kd' a' b' c' id')).toList
  · have h2 := ba_inj h
    have p := parse_f 20 (by omega) kd a b c id hg hid
    rw [h2, parse_f 20 (by omega) kd' a' b' c' id' hg' hid'] at p
    injection p with p
    injection p with p1 p
    injection p with p2 p
    injection p with p3 p
    injection p with p4 p
    injection p with p5 p
    subst p1 p2 p3 p4 p5
    simp only [beq_self_eq_true, Bool.and_self]
  · rw [beq_eq_false_iff_ne.2 h]
    symm
    rw [Bool.eq_false_iff]
    intro hh
    rw [Bool.and_eq_true, Bool.and_eq_true, Bool.and_eq_true, Bool.and_eq_true, beq_iff_eq, beq_iff_eq, beq_iff_eq, beq_iff_eq, beq_iff_eq] at hh
    obtain ⟨rfl, q2, q3, q4, rfl⟩ := hh
    have q2 := ba_inj q2
    have q3 := ba_inj q3
    have q4 := ba_inj q4
    subst q2 q3 q4
    exact h rfl
theorem KeysBack : waybilllaw12_KeysBack.Pure := by
  intro x0 x1 x2 o0 o1 o2
  obtain ⟨kd, a, b, c, id, e, hg, hi⟩ := tame_f 41 (by omega) x0.f0 x0.f1 x0.f2 x0.f3 x0.f4 (u64_wf o0.2.2.2.2).2
  obtain ⟨kd', a', b', c', id', e', hg', hi'⟩ := tame_f 41 (by omega) x1.f0 x1.f1 x1.f2 x1.f3 x1.f4 (u64_wf o1.2.2.2.2).2
  have ho : Oct x2.f4 := oct_wf o2.2.2.2.2.2
  refine ⟨41, ?_⟩
  unfold waybilllaw12_KeysBack.f
  by_cases hl : (x2.f4.length : Int) > 11000
  · rw [if_pos hl, awake12_ok _ (by omega)]
    rfl
  rw [if_neg hl, e, Option.bind_some, e', Option.bind_some]
  dsimp only
  rw [Text_f _ (by omega), if_pos hg, Option.bind_some, Text_f _ (by omega), if_pos hg', Option.bind_some]
  dsimp only
  rw [parse_f 41 (by omega) kd a b c id hg hi, Option.bind_some, if_pos rfl, if_pos rfl, if_pos rfl]
  dsimp only
  rw [same_text hg hi hg' hi', if_neg (by simp), if_neg (by simp), decide_eq_false (show ¬ (((strOfNums (keyOct kd a b c id)).size : Int) > 130) by have := key_len hg; omega)]
  exact back_j _ _ _ _ _ ho
end Go.Proofs.Ytpjkaodbcclecaa.Pure
