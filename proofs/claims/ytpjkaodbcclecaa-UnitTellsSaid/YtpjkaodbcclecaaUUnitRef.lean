/-
The document's own ops: their octets, their places, and what octets are as ops; the same as the given program's.
-/
import Derived.Test.YtpjkaodbcclecaaPUx13
import Derived.Test.YtpjkaodbcclecaaPUx10
import Derived.Test.YtpjkaodbcclecaaPUx7
import Derived.Test.YtpjkaodbcclecaaUUnitTame
import Derived.Test.YtpjkaodbcclecaaUOctsRefTxs
import Derived.Test.YtpjkaodbcclecaaUOctsRefPut
namespace Go.Proofs.Ytpjkaodbcclecaa.Pure
open Go.RowKit Go.Proofs.Ytpjkaodbcclecaa.PU Go.Proofs.YtpjkaodbcclecaaW.PrintWords Go.Proofs.YtpjkaodbcclecaaW.PrintLast Go.Proofs.YtpjkaodbcclecaaW.PrintMore
set_option linter.unusedVariables false
set_option linter.unusedSimpArgs false
theorem be_num (t : List Int) (ho : Oct t) : be t.length (num t) = t := by
  refine num_inj (be_len _ _) (be_oct _ _) ho ?_
  rw [num_be]
  have := num_bound t ho
  exact Int.emod_eq_of_lt this.1 this.2
theorem txt_inv {l : List Int} {n : Nat} {x r : List Int} (ho : Oct l) (h : txt l n = some (x, r)) : l = be n (x.length : Int) ++ (x ++ r) := by
  unfold txt at h
  by_cases h1 : l.length < n
  · rw [if_pos h1] at h; cases h
  rw [if_neg h1] at h
  by_cases h2 : (l.length : Int) - n < num (l.take n)
  · rw [if_pos h2] at h; cases h
  rw [if_neg h2] at h
  simp only [Option.some.injEq, Prod.mk.injEq] at h
  obtain ⟨rfl, rfl⟩ := h
  have hl : (l.take n).length = n := by rw [List.length_take]; omega
  have hb := (num_bound _ (oct_take ho n)).1
  have hxl : ((l.drop n).take (num (l.take n)).toNat).length = (num (l.take n)).toNat := by rw [List.length_take, List.length_drop]; omega
  rw [hxl, List.take_append_drop, show (((num (l.take n)).toNat : Nat) : Int) = num (l.take n) by omega]
  have := be_num (l.take n) (oct_take ho n)
  rw [hl] at this
  rw [this, List.take_append_drop]
theorem bytesOf_str {l : List Int} (ho : Oct l) : bytesOf (strOfNums l) = l := by
  unfold bytesOf
  rw [strOfNums_data, List.map_map]
  have h : l.map ((fun b : UInt8 => (b.toNat : Int)) ∘ fun n : Int => UInt8.ofNat n.toNat) = l.map id := by
    refine List.map_congr_left (fun c hc => ?_)
    have hc := ho c hc
    show (((UInt8.ofNat c.toNat).toNat : Nat) : Int) = c
    rw [u8_toNat c hc]
    omega
  rw [h, List.map_id]
theorem size_str (l : List Int) : (strOfNums l).size = l.length := by
  rw [← bytesOf_len]
  unfold bytesOf
  rw [strOfNums_data, List.length_map, List.length_map]
theorem be_one (n : Int) : be 1 n = [n % 256] := by simp [be]
theorem readOp_inv {l : List Int} {x : S38} {r : List Int} (ho : Oct l) (h : readOp l = some (x, r)) : l = opOct x ++ r := by
  unfold readOp at h
  cases ht : txt (l.drop 1) 1 with
  | none => rw [ht] at h; exact absurd h (by simp)
  | some p =>
    obtain ⟨name, r0⟩ := p
    have hi := txt_inv (oct_drop ho 1) ht
    rw [ht] at h
    simp only [] at h
    cases l with
    | nil =>
      have := congrArg List.length hi
      rw [List.length_append, be_len] at this
      simp at this
      omega
    | cons c t =>
      have hc : (c :: t).getD 0 0 = c := rfl
      rw [hc] at h
      have hi : t = be 1 (name.length : Int) ++ (name ++ r0) := hi
      have hot := (oct_cons ho).2
      have hon : Oct name := fun y hy => hot y (by rw [hi]; simp [hy])
      have hor : Oct r0 := fun y hy => hot y (by rw [hi]; simp [hy])
      have hs := size_str name
      by_cases h1 : c = 1
      · rw [if_pos h1] at h
        cases ht2 : txt r0 4 with
        | none => rw [ht2] at h; exact absurd h (by simp)
        | some q =>
          obtain ⟨v, s⟩ := q
          have hi2 := txt_inv hor ht2
          rw [ht2] at h
          simp only [] at h
          by_cases hg : goodU ⟨strOfNums name, false, v⟩ = true
          · rw [if_pos hg] at h
            have h := Option.some.inj h
            rw [Prod.mk.injEq] at h
            obtain ⟨rfl, rfl⟩ := h
            unfold opOct
            simp only [bytesOf_str hon, hs, Bool.false_eq_true, if_false]
            rw [hi, hi2, h1, be_one]
            simp only [List.cons_append, List.nil_append, List.append_assoc]
          · rw [if_neg hg] at h; exact absurd h (by simp)
      · rw [if_neg h1] at h
        by_cases h2 : c = 2
        · rw [if_pos h2] at h
          by_cases hg : goodU ⟨strOfNums name, true, []⟩ = true
          · rw [if_pos hg] at h
            have h := Option.some.inj h
            rw [Prod.mk.injEq] at h
            obtain ⟨rfl, rfl⟩ := h
            unfold opOct
            simp only [bytesOf_str hon, hs, if_true]
            rw [hi, h2, be_one]
            simp only [List.cons_append, List.nil_append, List.append_assoc, List.append_nil]
          · rw [if_neg hg] at h; exact absurd h (by simp)
        · rw [if_neg h2] at h; exact absurd h (by simp)
theorem parseU_acc : ∀ (n : Nat) (acc : List S38) (l : List Int), parseU n acc l = if (parseU n [] l).2 = true then (acc ++ (parseU n [] l).1, true) else ([], false)
  | 0, acc, l => by simp [parseU]
  | n + 1, acc, l => by
    rw [parseU, parseU]
    by_cases h0 : l.length = 0
    · rw [if_pos h0, if_pos h0]; simp
    · rw [if_neg h0, if_neg h0]
      cases hr : readOp l with
      | none => simp
      | some p =>
        obtain ⟨x, r⟩ := p
        have h1 := parseU_acc n (acc ++ [x]) r
        have h2 := parseU_acc n ([] ++ [x]) r
        simp only []
        rw [h1, h2]
        by_cases h : (parseU n [] r).2 = true
        · rw [if_pos h, if_pos h]; simp
        · rw [if_neg h, if_neg h]; simp
theorem parseU_inv : ∀ (n : Nat) (l : List Int), Oct l → l.length < n → (parseU n [] l).2 = true → l = flatU (parseU n [] l).1
  | 0, l, _, h, _ => by omega
  | n + 1, l, ho, hn, h => by
    rw [parseU] at h ⊢
    by_cases h0 : l.length = 0
    · rw [if_pos h0]; exact List.eq_nil_of_length_eq_zero h0
    · rw [if_neg h0] at h ⊢
      cases hr : readOp l with
      | none => rw [hr] at h; exact absurd h (by simp)
      | some p =>
        obtain ⟨x, r⟩ := p
        rw [hr] at h
        simp only [] at h ⊢
        have hi := readOp_inv ho hr
        have hlen := opOct_len x
        have hor : Oct r := fun y hy => ho y (by rw [hi]; simp [hy])
        have hll : l.length = (opOct x).length + r.length := by rw [hi, List.length_append]
        have ha := parseU_acc n ([] ++ [x]) r
        rw [ha] at h ⊢
        by_cases h2 : (parseU n [] r).2 = true
        · rw [if_pos h2]
          have := parseU_inv n r hor (by omega) h2
          show l = flatU ([x] ++ (parseU n [] r).1)
          rw [List.singleton_append, flatU, ← this]
          exact hi
        · rw [if_neg h2] at h; exact absurd h (by simp)
/-! ### the document's writer -/
theorem RShort_u (k : Nat) (hk : 12 ≤ k) (l : List Int) (s : ByteArray) (hs : s.size ≤ 255) (hl : l.length + 600 < 140737488355328) : waybillref1_Short.f k l s = some (l ++ (be 1 (s.size : Int) ++ bytesOf s)) := by
  unfold waybillref1_Short.f
  have h2 := be_len 1 (s.size : Int)
  rw [u64_id _ (by omega) (by omega), show (1 : Int) = ((1 : Nat) : Int) from rfl, Put_f k (by omega) l 1 _ (by omega) (by omega), Option.bind_some, if_pos (by rw [List.length_append, h2]; omega), List.append_assoc]
theorem RLong_u (k : Nat) (hk : 9 ≤ k) (l t : List Int) (hl : l.length + t.length + 300 < 140737488355328) : waybillref1_Long.f k l t = some (l ++ (be 4 (t.length : Int) ++ t)) := by
  unfold waybillref1_Long.f
  have h4 := be_len 4 (t.length : Int)
  rw [u64_id _ (by omega) (by omega), show (4 : Int) = ((4 : Nat) : Int) from rfl, Put_f k hk l 4 _ (by omega) (by omega), Option.bind_some, if_pos (by rw [List.length_append, h4]; omega), List.append_assoc]
theorem RU_j1 (k : Nat) (hk : 14 ≤ k) (l : List S38) (b : List Int) (i : Int) (x : S38) (hx : goodU x = true) (hb : b.length ≤ 190000) :
    waybillref7_Unit.j1 (k + 1) l b i false x.f0 x.f1 x.f2 = waybillref7_Unit.l0 k l (b ++ opOct x) (wrap64 (i + 1)) := by
  obtain ⟨g1, g2, g3, g4⟩ := of_decide_eq_true hx
  have hbl := bytesOf_len x.f0
  have e1 : be 1 (x.f0.size : Int) = [(x.f0.size : Int) % 256] := be_one _
  rw [waybillref7_Unit.j1, if_neg (by simp)]
  unfold opOct
  cases hf : x.f1 with
  | true =>
    rw [if_pos rfl, if_pos (by omega), RShort_u k (by omega) _ _ (by omega) (by rw [List.length_append]; simp; omega), Option.bind_some, e1]
    simp only [if_true, List.append_assoc, List.cons_append, List.nil_append, List.append_nil]
  | false =>
    rw [if_neg (by simp), if_pos (by omega), RShort_u k (by omega) _ _ (by omega) (by rw [List.length_append]; simp; omega), Option.bind_some, RLong_u k (by omega) _ _ (by rw [List.length_append, List.length_append, List.length_append, hbl, be_len]; simp; omega), Option.bind_some, e1]
    simp only [Bool.false_eq_true, if_false, List.append_assoc, List.cons_append, List.nil_append]
theorem RU_bad (k : Nat) (l : List S38) (b : List Int) (i : Int) (s : ByteArray) (f : Bool) (v : List Int) : waybillref7_Unit.j1 (k + 1) l b i true s f v = some ([], false) := by
  rw [waybillref7_Unit.j1, if_pos rfl]
theorem RUnit_l0 (l : List S38) (hl : l.length < 1000000000) : ∀ (d i k : Nat) (b : List Int), l.length - i = d → i ≤ l.length → b.length ≤ 210000 → 2 * d + 20 < k →
    waybillref7_Unit.l0 k l b (i : Int) = some (if b.length > 190000 then ([], false) else appU b (l.drop i)) := by
  intro d
  induction d with
  | zero =>
    intro i k b hd hi hb hk
    obtain ⟨k, rfl⟩ : ∃ j, k = j + 1 := ⟨k - 1, by omega⟩
    rw [waybillref7_Unit.l0, if_neg (by omega), List.drop_of_length_le (by omega)]
    by_cases h : b.length > 190000
    · rw [if_pos (by omega), if_pos h]
    · rw [if_neg (by omega), if_neg h]; rfl
  | succ d ih =>
    intro i k b hd hi hb hk
    obtain ⟨k, rfl⟩ : ∃ j, k = j + 1 + 1 := ⟨k - 2, by omega⟩
    have hil : i < l.length := by omega
    have hwA := Aside0.mk (show wrap64 ((i : Int) + 1) = ((i + 1 : Nat) : Int) by rw [w64_id _ (by omega) (by omega)]; omega)
    have hdr : l.drop i = l[i] :: l.drop (i + 1) := List.drop_eq_getElem_cons hil
    rw [waybillref7_Unit.l0, if_pos (by omega), if_pos (by omega), rd_U l i hil, hdr, appU]
    have hrec : ∀ b' : List Int, b'.length ≤ 210000 → waybillref7_Unit.l0 k l b' (wrap64 ((i : Int) + 1)) = some (if b'.length > 190000 then ([], false) else appU b' (l.drop (i + 1))) := by
      intro b' hb'
      rw [hwA.out]
      exact ih (i + 1) k b' (by omega) (by omega) hb' (by omega)
    generalize l[i] = x
    by_cases hg : goodU x = true
    · obtain ⟨g1, g2, g3, g4⟩ := of_decide_eq_true hg
      have hol := opOct_len x
      have hol2 : (opOct x).length ≤ 11200 := by generalize (opOct x).length = L at hol ⊢; split at hol <;> omega
      rw [if_pos hg, if_neg (by omega), if_neg (by omega), if_neg (by omega)]
      have key : waybillref7_Unit.j1 (k + 1) l b (i : Int) (decide ((b.length : Int) > 190000)) x.f0 x.f1 x.f2 = some (if b.length > 190000 then ([], false) else if (b ++ opOct x).length > 190000 then ([], false) else appU (b ++ opOct x) (l.drop (i + 1))) := by
        by_cases h : b.length > 190000
        · rw [decide_eq_true (by omega), RU_bad, if_pos h]
        · rw [decide_eq_false (by omega), RU_j1 k (by omega) l b _ x hg (by omega), if_neg h, hrec _ (by rw [List.length_append]; omega)]
      by_cases hf : x.f1 = true
      · have h0 := g4 hf
        rw [if_pos hf, if_neg (by omega)]
        exact key
      · rw [if_neg hf]; exact key
    · rw [if_neg hg]
      have hbad : (some (if b.length > 190000 then ([], false) else ([], false)) : Option (List Int × Bool)) = some ([], false) := by rw [ite_self]
      rw [hbad]
      by_cases h1 : (x.f0.size : Int) < 1
      · rw [if_pos h1, RU_bad]
      rw [if_neg h1]
      by_cases h2 : (x.f0.size : Int) > 130
      · rw [if_pos h2, RU_bad]
      rw [if_neg h2]
      by_cases h3 : (x.f2.length : Int) > 11000
      · rw [if_pos h3, RU_bad]
      rw [if_neg h3]
      by_cases hf : x.f1 = true
      · rw [if_pos hf]
        by_cases h4 : (x.f2.length : Int) > 0
        · rw [if_pos h4, RU_bad]
        · exact absurd (decide_eq_true ⟨by omega, by omega, by omega, fun _ => by omega⟩) hg
      · exact absurd (decide_eq_true ⟨by omega, by omega, by omega, fun h => absurd h hf⟩) hg
theorem RUnit (k : Nat) (l : List S38) (hl : l.length < 1000000000) (hk : 2 * l.length + 20 < k) : waybillref7_Unit.f k l = some (appU [] l) := by
  unfold waybillref7_Unit.f
  have := RUnit_l0 l hl l.length 0 k [] (by omega) (by omega) (by simp) hk
  simpa using this
/-! ### the document's reader -/
theorem good_false (name v : List Int) : goodU ⟨strOfNums name, false, v⟩ = true ↔ name.length ≠ 0 ∧ name.length ≤ 130 ∧ v.length ≤ 11000 := by
  unfold goodU
  rw [decide_eq_true_iff]
  show (strOfNums name).size ≠ 0 ∧ (strOfNums name).size ≤ 130 ∧ v.length ≤ 11000 ∧ (false = true → v.length = 0) ↔ _
  rw [size_str]
  constructor
  · rintro ⟨a, b, c, _⟩; exact ⟨a, b, c⟩
  · rintro ⟨a, b, c⟩; exact ⟨a, b, c, fun h => by cases h⟩
theorem good_true (name : List Int) : goodU ⟨strOfNums name, true, []⟩ = true ↔ name.length ≠ 0 ∧ name.length ≤ 130 := by
  unfold goodU
  rw [decide_eq_true_iff]
  show (strOfNums name).size ≠ 0 ∧ (strOfNums name).size ≤ 130 ∧ ([] : List Int).length ≤ 11000 ∧ (true = true → ([] : List Int).length = 0) ↔ _
  rw [size_str]
  constructor
  · rintro ⟨a, b, _, _⟩; exact ⟨a, b⟩
  · rintro ⟨a, b⟩; exact ⟨a, b, by simp, fun _ => rfl⟩
def endP (n : Nat) (acc : List S51) (a : Nat) (r : List Int) : List S51 × Bool := if (parseU n [] r).2 = true then (acc ++ plU (a : Int) (parseU n [] r).1, true) else ([], false)
theorem endP_none (n : Nat) (acc : List S51) (a : Nat) (r : List Int) (h0 : r.length ≠ 0) (h : readOp r = none) : endP (n + 1) acc a r = ([], false) := by
  unfold endP
  rw [parseU, if_neg h0, h]
  simp
theorem endP_some (n : Nat) (acc : List S51) (a : Nat) (r : List Int) (h0 : r.length ≠ 0) (x : S38) (r' : List Int) (h : readOp r = some (x, r')) :
    endP (n + 1) acc a r = endP n (acc ++ [⟨x.f0, x.f1, if x.f1 = true then 0 else (a : Int) + 2 + x.f0.size + 4, if x.f1 = true then 0 else x.f2.length⟩]) (a + (opOct x).length) r' := by
  unfold endP
  rw [parseU, if_neg h0, h]
  simp only []
  rw [parseU_acc n ([] ++ [x]) r']
  by_cases h2 : (parseU n [] r').2 = true
  · rw [if_pos h2, if_pos h2]
    show (acc ++ plU (a : Int) ([x] ++ (parseU n [] r').1), true) = _
    rw [List.singleton_append, plU, List.append_assoc, List.singleton_append, show (((a + (opOct x).length : Nat)) : Int) = (a : Int) + ((opOct x).length : Int) by omega]
  · rw [if_neg h2, if_neg h2]; simp
theorem w_nx (q : Nat) (h : q < 1000000000) : wrap64 ((q : Int) + 1) = ((q + 1 : Nat) : Int) := by rw [w64_id _ (by omega) (by omega)]; omega
theorem w_off (a n : Nat) (h : a + n < 1000000000) : wrap64 (((a + 2 + n : Nat) : Int) + 4) = (a : Int) + 2 + (n : Int) + 4 := by rw [w64_id _ (by omega) (by omega)]; omega
theorem RP_bad (k : Nat) (l : List Int) (acc : List S51) (kd : Int) (name : List Int) (at_ : Int) : waybillref7_Places.j1 (k + 1) l acc kd name at_ true = some ([], false) := by
  rw [waybillref7_Places.j1, if_pos rfl]
theorem RPl_l0 (l : List Int) (ho : Oct l) (hl : l.length ≤ 190000) : ∀ (n k : Nat) (acc : List S51) (a : Nat), a ≤ l.length → l.length - a < n → acc.length + (l.length - a) < 3000000 → 2 * n + 30 < k →
    waybillref7_Places.l0 k l acc (a : Int) = some (endP n acc a (l.drop a)) := by
  intro n
  induction n with
  | zero => intro k acc a _ h; omega
  | succ n ih =>
    intro k acc a ha hn hacc hk
    obtain ⟨k, rfl⟩ : ∃ j, k = j + 1 + 1 := ⟨k - 2, by omega⟩
    have hdl : (l.drop a).length = l.length - a := List.length_drop
    by_cases hal : a = l.length
    · have h0 : (l.drop a).length = 0 := by omega
      rw [waybillref7_Places.l0, if_neg (by omega)]
      unfold endP
      rw [parseU, if_pos h0]
      simp [plU]
    have h0 : (l.drop a).length ≠ 0 := by omega
    have hwA := Aside0.mk (w_nx a (by omega))
    have hT := Text_f (k + 1) (by omega) l (a + 1) 1 ho (by omega) (by omega) (by omega)
    rw [show ((1 : Nat) : Int) = 1 from rfl] at hT
    have hdd : (l.drop a).drop 1 = l.drop (a + 1) := List.drop_drop
    have hkd : (l.drop a).getD 0 0 = rd l (a : Int) := by rw [rd_at, List.getD_eq_getElem?_getD, List.getElem?_drop, ← List.getD_eq_getElem?_getD, Nat.add_zero]
    have hkr : 0 ≤ rd l (a : Int) ∧ rd l (a : Int) < 256 := by rw [rd_at]; exact getD_oct ho a
    rw [waybillref7_Places.l0, if_pos (by omega), if_pos (by omega), hwA.out, hT, Option.bind_some]
    clear hT hwA
    generalize hK : rd l (a : Int) = kd at hkd hkr ⊢
    clear hK
    cases ht : txt (l.drop (a + 1)) 1 with
    | none =>
      have hr : readOp (l.drop a) = none := by unfold readOp; rw [hdd, ht]
      rw [rtxt_no ht, if_neg (by simp), RP_bad, endP_none n acc a _ h0 hr]
    | some p =>
      obtain ⟨name, r⟩ := p
      obtain ⟨h1, h2, h3⟩ := txt_some ht
      rw [List.length_drop] at h1
      rw [List.drop_drop] at h3
      have hat : (((a + 1 : Nat) : Int) + ((1 : Nat) : Int) + (name.length : Int)) = ((a + 2 + name.length : Nat) : Int) := by omega
      have hr0 : r = l.drop (a + 2 + name.length) := by rw [h3]; congr 1; omega
      rw [rtxt_yes ht, if_pos rfl]
      show (if kd < 1 then waybillref7_Places.j1 (k + 1) l acc kd name (((a + 1 : Nat) : Int) + ((1 : Nat) : Int) + (name.length : Int)) true else if kd > 2 then waybillref7_Places.j1 (k + 1) l acc kd name (((a + 1 : Nat) : Int) + ((1 : Nat) : Int) + (name.length : Int)) true else if (name.length : Int) < 1 then waybillref7_Places.j1 (k + 1) l acc kd name (((a + 1 : Nat) : Int) + ((1 : Nat) : Int) + (name.length : Int)) true else waybillref7_Places.j1 (k + 1) l acc kd name (((a + 1 : Nat) : Int) + ((1 : Nat) : Int) + (name.length : Int)) (decide ((name.length : Int) > 130))) = _
      rw [hat]
      have hro : readOp (l.drop a) = (if kd = 1 then
          match txt r 4 with
          | none => none
          | some (v, s) => if goodU ⟨strOfNums name, false, v⟩ = true then some (⟨strOfNums name, false, v⟩, s) else none
        else if kd = 2 then (if goodU ⟨strOfNums name, true, []⟩ = true then some (⟨strOfNums name, true, []⟩, r) else none)
        else none) := by unfold readOp; rw [hdd, ht, hkd]; rfl
      by_cases k1 : kd < 1
      · rw [if_pos k1, RP_bad, endP_none n acc a _ h0 (by rw [hro, if_neg (by omega), if_neg (by omega)])]
      rw [if_neg k1]
      by_cases k2 : kd > 2
      · rw [if_pos k2, RP_bad, endP_none n acc a _ h0 (by rw [hro, if_neg (by omega), if_neg (by omega)])]
      rw [if_neg k2]
      by_cases hnm : name.length ≠ 0 ∧ name.length ≤ 130
      case neg =>
        have hno : readOp (l.drop a) = none := by
          rw [hro]
          split
          · cases txt r 4 with
            | none => rfl
            | some q => obtain ⟨v, s⟩ := q; exact if_neg (fun h => hnm ⟨((good_false _ _).1 h).1, ((good_false _ _).1 h).2.1⟩)
          · split
            · exact if_neg (fun h => hnm ((good_true _).1 h))
            · rfl
        rw [endP_none n acc a _ h0 hno]
        by_cases n1 : (name.length : Int) < 1
        · rw [if_pos n1, RP_bad]
        · rw [if_neg n1, decide_eq_true (by omega), RP_bad]
      rw [if_neg (by omega), decide_eq_false (by omega), waybillref7_Places.j1, if_neg (by simp)]
      have hacc2 : acc.length < 3518437208883 := by omega
      by_cases e1 : kd = 1
      · rw [if_pos e1] at hro ⊢
        have hT2 := Text_f k (by omega) l (a + 2 + name.length) 4 ho (by omega) (by omega) (by omega)
        rw [show ((4 : Nat) : Int) = 4 from rfl] at hT2
        rw [hT2, Option.bind_some]
        clear hT2
        rw [hr0] at hro
        cases ht2 : txt (l.drop (a + 2 + name.length)) 4 with
        | none =>
          rw [ht2] at hro
          rw [rtxt_no ht2, if_neg (by simp), endP_none n acc a _ h0 hro]
        | some q =>
          obtain ⟨v, s⟩ := q
          obtain ⟨f1, f2, f3⟩ := txt_some ht2
          rw [List.length_drop] at f1
          rw [List.drop_drop] at f3
          rw [ht2] at hro
          simp only [] at hro
          rw [rtxt_yes ht2, if_pos rfl]
          show (if (v.length : Int) > 11000 then some ([], false) else if acc.length < 3518437208883 then waybillref7_Places.l0 k l (acc ++ [⟨strOfNums name, kd == 2, wrap64 (((a + 2 + name.length : Nat) : Int) + 4), (v.length : Int)⟩]) (((a + 2 + name.length : Nat) : Int) + ((4 : Nat) : Int) + (v.length : Int)) else none) = _
          by_cases hv : (v.length : Int) > 11000
          · rw [if_pos hv, endP_none n acc a _ h0 (by rw [hro]; exact if_neg (fun h => by have := ((good_false _ _).1 h).2.2; omega))]
          · have hg : goodU ⟨strOfNums name, false, v⟩ = true := (good_false _ _).2 ⟨hnm.1, hnm.2, by omega⟩
            rw [if_pos hg] at hro
            have hol := opOct_len ⟨strOfNums name, false, v⟩
            simp only [size_str, Bool.false_eq_true, if_false] at hol
            have hs : s = l.drop (a + (opOct ⟨strOfNums name, false, v⟩).length) := by rw [f3, hol]; congr 1; omega
            have ewA := Aside0.mk (w_off a name.length (by omega))
            have eq1 : (kd == 2) = false := by rw [e1]; rfl
            rw [if_neg hv, if_pos hacc2, endP_some n acc a _ h0 _ _ hro, hs, ewA.out, eq1]
            generalize hL : (opOct ⟨strOfNums name, false, v⟩).length = L at hol ⊢
            clear hL hs hro hg ewA
            have ea : ((a + 2 + name.length : Nat) : Int) + ((4 : Nat) : Int) + (v.length : Int) = ((a + L : Nat) : Int) := by omega
            have := ih k (acc ++ [⟨strOfNums name, false, (a : Int) + 2 + (name.length : Int) + 4, (v.length : Int)⟩]) (a + L) (by omega) (by omega) (by rw [List.length_append, List.length_singleton]; omega) (by omega)
            simp only [size_str, Bool.false_eq_true, if_false]
            rw [← this, ea]
      · rw [if_neg e1] at hro ⊢
        have e2 : kd = 2 := by omega
        have hg : goodU ⟨strOfNums name, true, []⟩ = true := (good_true _).2 hnm
        rw [if_pos e2, if_pos hg] at hro
        have hol := opOct_len ⟨strOfNums name, true, []⟩
        simp only [size_str, if_true] at hol
        have hs : r = l.drop (a + (opOct ⟨strOfNums name, true, []⟩).length) := by rw [hr0, hol]; congr 1; omega
        have eq1 : (kd == 2) = true := by rw [e2]; rfl
        rw [if_pos hacc2, endP_some n acc a _ h0 _ _ hro, hs, eq1]
        generalize hL : (opOct ⟨strOfNums name, true, []⟩).length = L at hol ⊢
        clear hL hs hro hg
        have ea : ((a + 2 + name.length : Nat) : Int) = ((a + L : Nat) : Int) := by omega
        have := ih k (acc ++ [⟨strOfNums name, true, 0, 0⟩]) (a + L) (by omega) (by omega) (by rw [List.length_append, List.length_singleton]; omega) (by omega)
        simp only [if_true]
        rw [← this, ea]
def plsU (l : List Int) : List S51 × Bool := if (opsU l).2 = true then (plU 0 (opsU l).1, true) else ([], false)
theorem RPlaces (k : Nat) (l : List Int) (ho : Oct l) (hk : 400100 < k) : waybillref7_Places.f k l = some (plsU l) := by
  unfold waybillref7_Places.f plsU opsU
  by_cases h : l.length > 190000
  · rw [if_pos (by omega), if_pos h]; simp
  · rw [if_neg (by omega), if_neg h]
    have := RPl_l0 l ho (by omega) (l.length + 1) k [] 0 (by omega) (by omega) (by simp; omega) (by omega)
    rw [show ((0 : Nat) : Int) = 0 from rfl] at this
    rw [this]
    unfold endP
    rw [List.drop_zero, List.nil_append]
    rfl
theorem opsU_inv (l : List Int) (ho : Oct l) (h : (opsU l).2 = true) : l = flatU (opsU l).1 ∧ l.length ≤ 190000 := by
  unfold opsU at h ⊢
  by_cases h1 : l.length > 190000
  · rw [if_pos h1] at h; exact absurd h (by simp)
  · rw [if_neg h1] at h ⊢
    exact ⟨parseU_inv _ l ho (by omega) h, by omega⟩
theorem ROps_l0 (ops : List S38) (hg : ∀ x ∈ ops, goodU x = true) (b : List Int) (pl : List S51) (hn : ops.length ≤ 190001) (hb : b.length ≤ 190000) (hp : pl.length = ops.length) (hs : ∀ (i : Nat) (h : i < ops.length), saysOp b (pl[i]'(by omega)) ops[i]) :
    ∀ (d i k : Nat), ops.length - i = d → i ≤ ops.length → d + 2 < k → waybillref7_Ops.l0 k b pl (ops.take i) (i : Int) = some (ops, true) := by
  intro d
  induction d with
  | zero =>
    intro i k hd hi hk
    obtain ⟨k, rfl⟩ : ∃ j, k = j + 1 := ⟨k - 1, by omega⟩
    rw [waybillref7_Ops.l0, if_neg (by omega), List.take_of_length_le (by omega)]
  | succ d ih =>
    intro i k hd hi hk
    obtain ⟨k, rfl⟩ : ∃ j, k = j + 1 := ⟨k - 1, by omega⟩
    have hil : i < ops.length := by omega
    have hpl : i < pl.length := by omega
    have hw : wrap64 ((i : Int) + 1) = ((i + 1 : Nat) : Int) := (w64_id _ (by omega) (by omega)).trans (by omega)
    have hrec := ih (i + 1) k (by omega) (by omega) (by omega)
    have hsay : saysOp b (pl[i]'hpl) ops[i] := hs i hil
    have hgx := hg ops[i] (List.getElem_mem hil)
    have htk : (ops.take i).length < 2932031007402 := by rw [List.length_take]; omega
    rw [← List.take_append_getElem hil] at hrec
    rw [waybillref7_Ops.l0, if_pos (by omega), if_pos (by omega), rd_P pl i hpl, hw]
    clear hw ih hs
    generalize ops[i] = x at hsay hgx hrec ⊢
    generalize pl[i]'hpl = p at hsay ⊢
    obtain ⟨s1, s2, s3, s4, s5, s6⟩ := hsay
    obtain ⟨_, _, g3, g4⟩ := of_decide_eq_true hgx
    have w1 : wrap64 (p.f2 + p.f3) = p.f2 + p.f3 := w64_id _ (by omega) (by omega)
    rw [w1, s1, s2, s6]
    clear w1
    by_cases hf : x.f1 = true
    · have hv : x.f2 = [] := List.length_eq_zero_iff.1 (g4 hf)
      have hx : (⟨x.f0, x.f1, []⟩ : S38) = x := by rw [← hv]
      rw [if_pos hf, if_pos htk, hx]
      exact hrec
    · rw [if_neg hf, if_pos s4, if_pos (by omega), if_pos s5, if_pos htk]
      exact hrec
theorem ROps (k : Nat) (l : List Int) (ho : Oct l) (hk : 400100 < k) : waybillref7_Ops.f k l = some (if (opsU l).2 = true then ((opsU l).1, true) else ([], false)) := by
  unfold waybillref7_Ops.f
  rw [RPlaces k l ho hk, Option.bind_some]
  unfold plsU
  by_cases h : (opsU l).2 = true
  · rw [if_pos h, if_pos h]
    obtain ⟨hi, hl⟩ := opsU_inv l ho h
    obtain ⟨hg, hn⟩ := opsU_good l
    show (if true = true then waybillref7_Ops.l0 k l (plU 0 (opsU l).1) [] 0 else _) = _
    rw [if_pos rfl]
    have hs : ∀ (i : Nat) (h : i < (opsU l).1.length), saysOp l ((plU 0 (opsU l).1)[i]'(by rw [plU_len]; exact h)) (opsU l).1[i] := by
      intro i hlt
      have := plU_says (opsU l).1 [] i hlt hg
      rw [List.nil_append, ← hi] at this
      exact this
    exact ROps_l0 _ hg l (plU 0 (opsU l).1) hn hl (plU_len 0 _) hs _ 0 k rfl (by omega) (by omega)
  · rw [if_neg h, if_neg h]
    show (if false = true then _ else some ([], false)) = _
    rw [if_neg (by simp)]
theorem opsU_no (l : List Int) (h : (opsU l).2 ≠ true) : opsU l = ([], false) := by
  unfold opsU at h ⊢
  by_cases h1 : l.length > 190000
  · rw [if_pos h1]
  · rw [if_neg h1] at h ⊢
    have := parseU_acc (l.length + 1) [] l
    rw [if_neg h] at this
    exact this
theorem opsU_eta (l : List Int) : (if (opsU l).2 = true then ((opsU l).1, true) else ([], false)) = opsU l := by
  by_cases h : (opsU l).2 = true
  · rw [if_pos h]
    generalize opsU l = o at h
    obtain ⟨a, b⟩ := o
    simp only [] at h
    rw [h]
  · rw [if_neg h, opsU_no l h]
/-! ### ops and themselves -/
theorem Same_l0 (l : List S38) (hl : l.length < 1000000000) : ∀ (d i k : Nat), l.length - i = d → i ≤ l.length → d < k → waybillref16_SameOps.l0 k l l (i : Int) = some true := by
  intro d
  induction d with
  | zero =>
    intro i k hd hi hk
    obtain ⟨k, rfl⟩ : ∃ j, k = j + 1 := ⟨k - 1, by omega⟩
    rw [waybillref16_SameOps.l0, if_neg (by omega)]
  | succ d ih =>
    intro i k hd hi hk
    obtain ⟨k, rfl⟩ : ∃ j, k = j + 1 := ⟨k - 1, by omega⟩
    have hw : wrap64 ((i : Int) + 1) = ((i + 1 : Nat) : Int) := (w64_id _ (by omega) (by omega)).trans (by omega)
    rw [waybillref16_SameOps.l0, if_pos (by omega), if_pos (by omega), if_pos (by omega), if_pos rfl, if_neg (by simp), if_pos rfl, hw]
    exact ih (i + 1) k (by omega) (by omega) (by omega)
theorem SameOps_self (k : Nat) (l : List S38) (hl : l.length < 1000000000) (hk : l.length < k) : waybillref16_SameOps.f k l l = some true := by
  unfold waybillref16_SameOps.f
  rw [if_pos rfl]
  exact Same_l0 l hl _ 0 k rfl (by omega) (by omega)
end Go.Proofs.Ytpjkaodbcclecaa.Pure
