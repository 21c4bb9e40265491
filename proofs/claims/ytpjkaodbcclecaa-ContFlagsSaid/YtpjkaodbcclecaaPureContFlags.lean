/-
Just the two properties may be there; each is there just if its flag says so.
-/
import Derived.Test.YtpjkaodbcclecaaPAx10
import Derived.Test.YtpjkaodbcclecaaAContLib
import Derived.Test.YtpjkaodbcclecaaAOctsAwake5
import Derived.Test.YtpjkaodbcclecaaAOctsRefPut
import Derived.Test.YtpjkaodbcclecaaAOctsMask
namespace Go.Proofs.Ytpjkaodbcclecaa.Pure
open Go.RowKit Go.Proofs.Ytpjkaodbcclecaa.PA Go.Proofs.YtpjkaodbcclecaaW.PrintWords Go.Proofs.YtpjkaodbcclecaaW.PrintLast Go.Proofs.YtpjkaodbcclecaaW.PrintMore
set_option linter.unusedVariables false
set_option linter.unusedSimpArgs false
def errH : Int × Int × ByteArray × Int := (0, 0, (⟨#[]⟩ : ByteArray), 4)
theorem In_any (k : Nat) (l : List Int) (b : Bool) (hk : 9 ≤ k) (ho : Oct l) (hl : l.length < 140737488355328) : ∃ v l' b', octs_In_Int.f k l b 1 = some (v, l', b') := by
  cases b with
  | true => exact ⟨_, _, _, In_Int_bad k l 1 (by omega)⟩
  | false =>
    rw [In_Int k l 1 hk ho hl]
    split
    · exact ⟨_, _, _, rfl⟩
    · exact ⟨_, _, _, rfl⟩
theorem Short_any (k : Nat) (l : List Int) (hk : 9 ≤ k) (ho : Oct l) (hl : l.length < 140737488355328) : ∃ s l' b', octs_In_Short.f k l false = some (s, l', b') ∧ Oct l' ∧ l'.length < 140737488355328 := by
  rw [In_Short k l hk ho hl]
  refine ⟨_, _, _, rfl, ?_, ?_⟩
  · unfold txt
    (repeat' split) <;> first | exact oct_nil | exact oct_drop (oct_drop ho _) _
  · unfold txt
    (repeat' split) <;> simp [told] <;> omega
theorem P3_any (k : Nat) (hk : 1 ≤ k) (x : Bool) (l : List Int) (b : Bool) (z m : Int) (s : ByteArray) : ∃ r, cont_Parse.j3 k x l b z m s = some r ∧ (r = errH ∨ (x = true ∧ r = (z, m, s, 0))) := by
  obtain ⟨k, rfl⟩ : ∃ j, k = j + 1 := ⟨k - 1, by omega⟩
  rw [cont_Parse.j3]
  unfold octs_In_Ok.f octs_In_Left.f
  cases x with
  | false => exact ⟨_, rfl, .inl rfl⟩
  | true =>
    cases b with
    | true => exact ⟨_, rfl, .inl rfl⟩
    | false =>
      rw [if_pos rfl, Option.bind_some, if_pos (show (!false, l, false).1 = true from rfl), Option.bind_some]
      split
      · exact ⟨_, rfl, .inl rfl⟩
      · exact ⟨_, rfl, .inr ⟨rfl, rfl⟩⟩
theorem P2_any (k : Nat) (hk : 12 ≤ k) (x : Bool) (f : Int) (l : List Int) (b : Bool) (z : Int) (s : ByteArray) (ho : Oct l) (hl : l.length < 140737488355328) :
    ∃ r, cont_Parse.j2 k x f l b z 0 s = some r ∧ (r = errH ∨ (x = true ∧ ∃ m, r = (z, m, s, 0) ∧ (m = 0 ↔ Go.bits .and .u64 f 4096 = 0))) := by
  obtain ⟨k, rfl⟩ : ∃ j, k = j + 1 := ⟨k - 1, by omega⟩
  rw [cont_Parse.j2]
  by_cases h : Go.bits .and .u64 f 4096 = 0
  · rw [if_pos h]
    obtain ⟨r, h1, h2⟩ := P3_any k (by omega) x l b z 0 s
    exact ⟨r, h1, h2.imp id fun ⟨a, c⟩ => ⟨a, 0, c, by simp [h]⟩⟩
  · rw [if_neg h]
    obtain ⟨v, l', b', hi⟩ := In_any k l b (by omega) ho hl
    rw [hi, Option.bind_some]
    generalize hw : wrap64 v = w
    cases x with
    | false =>
      obtain ⟨r, h1, h2⟩ := P3_any k (by omega) false l' b' z w s
      refine ⟨r, ?_, h2.imp id fun ⟨a, c⟩ => by cases a⟩
      rw [if_neg (by simp)]
      simpa only [hw] using h1
    | true =>
      rw [if_pos rfl]
      by_cases h1 : w = 1
      · obtain ⟨r, h3, h4⟩ := P3_any k (by omega) true l' b' z w s
        refine ⟨r, ?_, h4.imp id fun ⟨a, c⟩ => ⟨rfl, w, c, by simp [h, h1]⟩⟩
        simp only [hw]
        rw [if_pos h1]
        exact h3
      · obtain ⟨r, h3, h4⟩ := P3_any k (by omega) (w == 2) l' b' z w s
        refine ⟨r, ?_, h4.imp id fun ⟨a, c⟩ => ⟨rfl, w, c, by have := beq_iff_eq.1 a; simp [h, this]⟩⟩
        simp only [hw]
        rw [if_neg h1]
        exact h3
theorem P1_any (k : Nat) (hk : 13 ≤ k) (x : Bool) (f : Int) (l : List Int) (z : Int) (ho : Oct l) (hl : l.length < 140737488355328) :
    ∃ r, cont_Parse.j1 k x f l false z 0 (⟨#[]⟩ : ByteArray) = some r ∧ (r = errH ∨ (x = true ∧ ∃ m s, r = (z, m, s, 0) ∧ (m = 0 ↔ Go.bits .and .u64 f 4096 = 0) ∧ (s.toList.isEmpty = true ↔ Go.bits .and .u64 f 32768 = 0))) := by
  obtain ⟨k, rfl⟩ : ∃ j, k = j + 1 := ⟨k - 1, by omega⟩
  rw [cont_Parse.j1]
  by_cases h : Go.bits .and .u64 f 32768 = 0
  · rw [if_pos h]
    obtain ⟨r, h1, h2⟩ := P2_any k (by omega) x f l false z (⟨#[]⟩ : ByteArray) ho hl
    exact ⟨r, h1, h2.imp id fun ⟨a, m, c, d⟩ => ⟨a, m, _, c, d, by simp [h, ByteArray.toList_eq]⟩⟩
  · rw [if_neg h]
    obtain ⟨s, l', b', hi, ho', hl'⟩ := Short_any k l (by omega) ho hl
    rw [hi, Option.bind_some]
    cases x with
    | false =>
      obtain ⟨r, h1, h2⟩ := P2_any k (by omega) false f l' b' z s ho' hl'
      exact ⟨r, h1, h2.imp id fun ⟨a, _⟩ => by cases a⟩
    | true =>
      obtain ⟨r, h1, h2⟩ := P2_any k (by omega) (!s.toList.isEmpty) f l' b' z s ho' hl'
      exact ⟨r, h1, h2.imp id fun ⟨a, m, c, d⟩ => ⟨rfl, m, s, c, d, by simp at a; simp [h, a]⟩⟩
theorem flags_nat (n : Nat) (hn : n < 65536) : n &&& 18446744073709514751 = n &&& 28671 := by
  have h := Nat.and_mod_two_pow (a := n) (b := 18446744073709514751) (n := 16)
  have hle : n &&& 18446744073709514751 ≤ n := Nat.and_le_left
  rw [Nat.mod_eq_of_lt (by omega), Nat.mod_eq_of_lt (by omega : n < 2 ^ 16)] at h
  exact h
theorem w64s (n : Int) (h0 : 0 ≤ n) (h1 : n < 2 ^ 62) : IntKind.i64.wrap n = n := by rw [IntKind.wrap_i64]; omega
theorem u64s (n : Int) (h0 : 0 ≤ n) (h1 : n < 2 ^ 62) : IntKind.u64.wrap n = n := u64_id n h0 (by omega)
theorem and_nat (n m : Nat) (hn : n < 65536) (hm : m < 65536) : Go.bits .and .u64 (n : Int) (m : Int) = ((n &&& m : Nat) : Int) ∧ Go.bits .and .i64 (n : Int) (m : Int) = ((n &&& m : Nat) : Int) :=
  ⟨(bits_nat .u64 62 (by decide) u64s n m (by omega) (by omega)).1, (bits_nat .i64 62 (by decide) w64s n m (by omega) (by omega)).1⟩
theorem andNot_nat (n : Nat) (hn : n < 65536) : Go.bits .andNot .u64 (n : Int) 36864 = ((n &&& 18446744073709514751 : Nat) : Int) := by
  unfold Go.bits
  have e : (BitVec.ofInt IntKind.u64.bits (n : Int) &&& ~~~ BitVec.ofInt IntKind.u64.bits 36864).toNat = n &&& 18446744073709514751 := by
    rw [BitVec.toNat_and]
    have e1 : (~~~ BitVec.ofInt IntKind.u64.bits 36864).toNat = 18446744073709514751 := by decide
    rw [e1, BitVec.ofInt_natCast, BitVec.toNat_ofNat, Nat.mod_eq_of_lt (by simp only [IntKind.bits]; omega)]
  simp only [e]
  exact u64_id _ (by omega) (by have : n &&& 18446744073709514751 ≤ n := Nat.and_le_left; omega)
theorem flags_same (n : Nat) (hn : n < 65536) : (Go.bits .andNot .u64 (n : Int) 36864 == 0) = decide (Go.bits .and .i64 (n : Int) 28671 = 0) := by
  have h2 := (and_nat n 28671 hn (by omega)).2
  rw [andNot_nat n hn, flags_nat n hn, show (28671 : Int) = ((28671 : Nat) : Int) from rfl, h2]
  rfl
theorem ContFlags : waybilllaw5_ContFlags.Pure := by
  intro a l z ha hl1 hl2 hl hz
  refine ⟨60, ?_⟩
  have hz' := wf_u64 hz
  have haw := awake5_ok 60 (by omega)
  unfold waybilllaw5_ContFlags.f
  by_cases hc : (l.length : Int) > 300
  · rw [if_pos hc, haw]; rfl
  rw [if_neg hc]
  have hm := and16 a
  generalize Go.bits .and .i64 a 65535 = fl at hm ⊢
  obtain ⟨n, rfl⟩ : ∃ n : Nat, fl = (n : Int) := ⟨fl.toNat, by omega⟩
  have hn : n < 65536 := by omega
  have hu : IntKind.u64.wrap (n : Int) = (n : Int) := u64_id _ (by omega) (by omega)
  have p1 : waybillref1_Put.f 60 [] 2 60 = some ([] ++ be 2 60) := Put_f 60 (by omega) [] 2 60 (by omega) (by simp)
  have p2 : waybillref1_Put.f 60 ([] ++ be 2 60) 2 0 = some (([] ++ be 2 60) ++ be 2 0) := Put_f 60 (by omega) _ 2 0 (by omega) (by simp [be_len])
  have p3 : waybillref1_Put.f 60 (([] ++ be 2 60) ++ be 2 0) 8 z = some ((([] ++ be 2 60) ++ be 2 0) ++ be 8 z) := Put_f 60 (by omega) _ 8 z (by omega) (by simp [be_len])
  have p4 : waybillref1_Put.f 60 ((([] ++ be 2 60) ++ be 2 0) ++ be 8 z) 2 (n : Int) = some (((([] ++ be 2 60) ++ be 2 0) ++ be 8 z) ++ be 2 (n : Int)) := Put_f 60 (by omega) _ 2 _ (by omega) (by simp [be_len])
  have hlen : (((([] ++ be 2 60) ++ be 2 0) ++ be 8 z) ++ be 2 (n : Int)).length = 14 := by simp [be_len]
  have hhd : (((([] ++ be 2 60) ++ be 2 0) ++ be 8 z) ++ be 2 (n : Int)) ++ l = hd z (n : Int) l := by unfold hd; simp only [List.append_assoc, List.nil_append]
  have ho := oct_wf hl
  obtain ⟨j, hj, hp⟩ := Parse_hd 60 (by omega) z (n : Int) l hz'.1 hz'.2 (by omega) (by omega) ho (by omega)
  obtain ⟨r, hr1, hr2⟩ := P1_any j (by omega) ((Go.bits .andNot .u64 (n : Int) 36864) == 0) (n : Int) l z ho (by omega)
  rw [hr1] at hp
  rw [hu, p1, Option.bind_some, p2, Option.bind_some, p3, Option.bind_some, p4, Option.bind_some, if_pos (by rw [hlen]; omega), hhd, hp, Option.bind_some]
  rw [flags_same n hn] at hr2
  have a1 := and_nat n 32768 hn (by omega)
  have a2 := and_nat n 4096 hn (by omega)
  have e1 : Go.bits .and .u64 (n : Int) 32768 = Go.bits .and .i64 (n : Int) 32768 := a1.1.trans a1.2.symm
  have e2 : Go.bits .and .u64 (n : Int) 4096 = Go.bits .and .i64 (n : Int) 4096 := a2.1.trans a2.2.symm
  rw [e1, e2] at hr2
  have hemp : ((⟨#[]⟩ : ByteArray).toList == ([] : List UInt8)) = true := by rw [ByteArray.toList_eq]; rfl
  have herr : (errH.1 == 0 && (errH.2.1 == 0 && (errH.2.2.1.toList == ([] : List UInt8)))) = true := by
    show (((0 : Int) == 0) && (((0 : Int) == 0) && ((⟨#[]⟩ : ByteArray).toList == ([] : List UInt8)))) = true
    rw [hemp]; rfl
  clear a1 a2 e1 e2 hp hr1 hhd hlen p1 p2 p3 p4
  generalize Go.bits .and .i64 (n : Int) 28671 = B1 at hr2 ⊢
  generalize Go.bits .and .i64 (n : Int) 32768 = B2 at hr2 ⊢
  generalize Go.bits .and .i64 (n : Int) 4096 = B3 at hr2 ⊢
  rcases hr2 with rfl | ⟨hx, m, s, rfl, h3, h4⟩
  · have g4 : errH.2.2.2 = 4 := rfl
    by_cases hb : B1 = 0
    · rw [if_pos hb, if_neg (show ¬ errH.2.2.2 = 0 by rw [g4]; omega), if_pos (show _ = true from herr), haw, Option.bind_some]
    · rw [if_neg hb, if_pos g4, if_pos (show _ = true from herr), haw, Option.bind_some]
  · have hb : B1 = 0 := of_decide_eq_true hx
    have q1 : ((!(z, m, s, (0 : Int)).2.2.1.toList.isEmpty) == (B2 != 0)) = true := by
      show ((!s.toList.isEmpty) == (B2 != 0)) = true
      rw [beq_iff_eq, Bool.eq_iff_iff]
      simp only [Bool.not_eq_true', bne_iff_ne, ne_eq]
      rw [← h4]
      simp
    have q2 : (((z, m, s, (0 : Int)).2.1 != 0) == (B3 != 0)) = true := by
      show ((m != 0) == (B3 != 0)) = true
      rw [beq_iff_eq, Bool.eq_iff_iff]
      simp only [bne_iff_ne, ne_eq]
      rw [h3]
    rw [if_pos hb, if_pos (show (z, m, s, (0 : Int)).2.2.2 = 0 from rfl), if_pos (show _ = true from q1), if_pos (show _ = true from q2), if_pos (show (z, m, s, (0 : Int)).1 = z from rfl), haw, Option.bind_some]
end Go.Proofs.Ytpjkaodbcclecaa.Pure
