/-
Ops that the statements make small: how few they are; where the bodies of ops lie in their octets.
-/
import Derived.Test.YtpjkaodbcclecaaPUx8
import Derived.Test.YtpjkaodbcclecaaPUx14
import Derived.Test.YtpjkaodbcclecaaUUnitRead
namespace Go.Proofs.Ytpjkaodbcclecaa.Pure
open Go.RowKit Go.Proofs.Ytpjkaodbcclecaa.PU Go.Proofs.YtpjkaodbcclecaaW.PrintWords Go.Proofs.YtpjkaodbcclecaaW.PrintLast Go.Proofs.YtpjkaodbcclecaaW.PrintMore
set_option linter.unusedVariables false
set_option linter.unusedSimpArgs false
theorem Small_l0 (l : List S38) (hl : l.length < 1000000000) : ∀ (d i k : Nat), l.length - i = d → i ≤ l.length → d < k → ∃ b, waybilllaw13_Small.l0 k l (i : Int) = some b := by
  intro d
  induction d with
  | zero =>
    intro i k hd hi hk
    obtain ⟨k, rfl⟩ : ∃ j, k = j + 1 := ⟨k - 1, by omega⟩
    rw [waybilllaw13_Small.l0, if_neg (by omega)]
    exact ⟨_, rfl⟩
  | succ d ih =>
    intro i k hd hi hk
    obtain ⟨k, rfl⟩ : ∃ j, k = j + 1 := ⟨k - 1, by omega⟩
    have hw : wrap64 ((i : Int) + 1) = ((i + 1 : Nat) : Int) := (w64_id _ (by omega) (by omega)).trans (by omega)
    rw [waybilllaw13_Small.l0, if_pos (by omega), if_pos (by omega), hw]
    have := ih (i + 1) k (by omega) (by omega) (by omega)
    split
    · exact ⟨_, rfl⟩
    · split
      · exact ⟨_, rfl⟩
      · exact this
theorem Small_f (k : Nat) (l : List S38) (hk : 100 ≤ k) : ∃ b, waybilllaw13_Small.f k l = some b ∧ (b = true → l.length ≤ 60) := by
  unfold waybilllaw13_Small.f
  by_cases h : (l.length : Int) > 60
  · rw [if_pos h]; exact ⟨_, rfl, fun h => by cases h⟩
  · rw [if_neg h]
    obtain ⟨b, hb⟩ := Small_l0 l (by omega) _ 0 k rfl (by omega) (by omega)
    exact ⟨b, hb, fun _ => by omega⟩
/-- An op that the tests make is small and good. -/
def tame (x : S38) : Prop := goodU x = true ∧ x.f0.size ≤ 101 ∧ x.f2.length ≤ 300 ∧ Oct x.f2
theorem mn_le (a b : Int) : mn a b ≤ a ∧ mn a b ≤ b ∧ (0 ≤ a → 0 ≤ b → 0 ≤ mn a b) := by
  unfold mn
  split <;> omega
theorem ba_size (s : ByteArray) (n : Nat) (h : n ≤ s.size) : (s.extract 0 n).size = n := by
  rw [ByteArray.size_extract]; omega
theorem ba_app (s t : ByteArray) : (s ++ t).size = s.size + t.size := ByteArray.size_append
theorem tame_of (x : S38) (n m : Nat) (hn : n ≤ x.f0.size) (hn2 : n ≤ 100) (hm2 : m ≤ 300) (ho : Oct x.f2) (f : Bool) (v : List Int) (hf : f = true → v = []) (hv : v = [] ∨ v = x.f2.take m) :
    tame ⟨(⟨#[107]⟩ : ByteArray) ++ x.f0.extract 0 n, f, v⟩ := by
  have hs : ((⟨#[107]⟩ : ByteArray) ++ x.f0.extract 0 n).size = 1 + n := by rw [ba_app, ba_size _ _ hn]; rfl
  have hvl : v.length ≤ 300 := by
    rcases hv with rfl | rfl
    · simp
    · rw [List.length_take]; omega
  have hvo : Oct v := by
    rcases hv with rfl | rfl
    · exact oct_nil
    · exact oct_take ho m
  refine ⟨decide_eq_true ⟨?_, ?_, ?_, ?_⟩, ?_, hvl, hvo⟩
  · show ¬ ((⟨#[107]⟩ : ByteArray) ++ x.f0.extract 0 n).size = 0
    rw [hs]; omega
  · show ((⟨#[107]⟩ : ByteArray) ++ x.f0.extract 0 n).size ≤ 130
    rw [hs]; omega
  · show v.length ≤ 11000
    omega
  · intro h; rw [hf h]; rfl
  · show ((⟨#[107]⟩ : ByteArray) ++ x.f0.extract 0 n).size ≤ 101
    rw [hs]; omega
theorem Tame_l0 (l : List S38) (hl : l.length ≤ 60) (ho : ∀ x ∈ l, Oct x.f2) : ∀ (d i k : Nat) (acc : List S38), l.length - i = d → i ≤ l.length → (∀ x ∈ acc, tame x) → acc.length ≤ i → acc.length ≤ 30 → 2 * d + 2 < k →
    ∃ o, waybilllaw13_Tame.l0 k l acc (i : Int) = some o ∧ (∀ x ∈ o, tame x) ∧ o.length ≤ 30 := by
  have hend : ∀ (k : Nat) (acc : List S38) (i : Int), waybilllaw13_Tame.j1 (k + 1) l acc i false = some acc := by
    intro k acc i; rw [waybilllaw13_Tame.j1, if_neg (by simp)]
  intro d
  induction d with
  | zero =>
    intro i k acc hd hi hc hc2 hc3 hk
    obtain ⟨k, rfl⟩ : ∃ j, k = j + 2 := ⟨k - 2, by omega⟩
    rw [waybilllaw13_Tame.l0, if_neg (by omega), hend]
    exact ⟨_, rfl, hc, hc3⟩
  | succ d ih =>
    intro i k acc hd hi hc hc2 hc3 hk
    obtain ⟨k, rfl⟩ : ∃ j, k = j + 2 := ⟨k - 2, by omega⟩
    have hil : i < l.length := by omega
    rw [waybilllaw13_Tame.l0, if_pos (by omega)]
    by_cases h30 : (i : Int) < 30
    · have hw : wrap64 ((i : Int) + 1) = ((i + 1 : Nat) : Int) := (w64_id _ (by omega) (by omega)).trans (by omega)
      have hox := ho l[i] (List.getElem_mem hil)
      rw [decide_eq_true h30, waybilllaw13_Tame.j1, if_pos rfl, if_pos (by omega), if_pos (by omega), rd_U l i hil, hw]
      clear hw
      generalize l[i] = x at hox ⊢
      obtain ⟨m1, m2, m3⟩ := mn_le (x.f0.size : Int) 100
      have m3 := m3 (by omega) (by omega)
      obtain ⟨n1, n2, n3⟩ := mn_le (x.f2.length : Int) 300
      have n3 := n3 (by omega) (by omega)
      generalize mn (x.f0.size : Int) 100 = N at m1 m2 m3 ⊢
      generalize mn (x.f2.length : Int) 300 = M at n1 n2 n3 ⊢
      have hsz : (x.f0.extract 0 N.toNat).size = N.toNat := ba_size _ _ (by omega)
      rw [if_pos m3, if_pos m1, hsz, if_pos (by omega)]
      have hrec : ∀ y, tame y → ∃ o, waybilllaw13_Tame.l0 k l (acc ++ [y]) ((i + 1 : Nat) : Int) = some o ∧ (∀ x ∈ o, tame x) ∧ o.length ≤ 30 := by
        intro y hy
        refine ih (i + 1) k (acc ++ [y]) (by omega) (by omega) ?_ (by rw [List.length_append, List.length_singleton]; omega) (by rw [List.length_append, List.length_singleton]; omega) (by omega)
        intro z hz
        rcases List.mem_append.1 hz with hz | hz
        · exact hc z hz
        · rw [List.mem_singleton] at hz; rw [hz]; exact hy
      by_cases hf : x.f1 = true
      · rw [if_pos hf, if_pos (by omega)]
        exact hrec _ (tame_of x N.toNat 0 (by omega) (by omega) (by omega) hox _ _ (fun _ => rfl) (Or.inl rfl))
      · rw [if_neg hf, if_pos n3, if_pos n1, if_pos (by omega)]
        exact hrec _ (tame_of x N.toNat M.toNat (by omega) (by omega) (by omega) hox _ _ (fun h => absurd h hf) (Or.inr rfl))
    · rw [decide_eq_false h30, hend]
      exact ⟨_, rfl, hc, hc3⟩
theorem Tame_f (k : Nat) (l : List S38) (hl : l.length ≤ 60) (ho : ∀ x ∈ l, Oct x.f2) (hk : 200 ≤ k) : ∃ o, waybilllaw13_Tame.f k l = some o ∧ (∀ x ∈ o, tame x) ∧ o.length ≤ 30 := by
  unfold waybilllaw13_Tame.f
  exact Tame_l0 l hl ho _ 0 k [] rfl (by omega) (fun x hx => by simp at hx) (by simp) (by simp) (by omega)
theorem flat_len : ∀ (l : List S38), (∀ x ∈ l, tame x) → (flatU l).length ≤ 407 * l.length
  | [], h => by simp [flatU]
  | x :: l, h => by
    have h1 := flat_len l (fun y hy => h y (by simp [hy]))
    obtain ⟨_, h2, h3, _⟩ := h x (by simp)
    have h4 := opOct_len x
    rw [flatU, List.length_append, List.length_cons]
    generalize (opOct x).length = L at h4 ⊢
    split at h4 <;> omega
theorem plU_len : ∀ (a : Int) (l : List S38), (plU a l).length = l.length
  | a, [] => rfl
  | a, x :: l => by rw [plU, List.length_cons, List.length_cons, plU_len]
/-- What a place says: the op's own name and mark, and a body that is cut out of the octets. -/
def saysOp (b : List Int) (p : S51) (x : S38) : Prop := p.f0 = x.f0 ∧ p.f1 = x.f1 ∧ p.f3 = (x.f2.length : Int) ∧ 0 ≤ p.f2 ∧ p.f2 + p.f3 ≤ (b.length : Int) ∧ (b.take (p.f2 + p.f3).toNat).drop p.f2.toNat = x.f2
theorem plU_says : ∀ (l : List S38) (pre : List Int) (i : Nat) (hi : i < l.length), (∀ x ∈ l, goodU x = true) →
    saysOp (pre ++ flatU l) ((plU (pre.length : Int) l)[i]'(by rw [plU_len]; exact hi)) l[i]
  | x :: l, pre, 0, hi, h => by
    obtain ⟨_, _, _, g4⟩ := of_decide_eq_true (h x (by simp))
    have hb := bytesOf_len x.f0
    have h4 := be_len 4 (x.f2.length : Int)
    refine ⟨rfl, rfl, ?_, ?_, ?_, ?_⟩
    · show (if x.f1 = true then (0 : Int) else x.f2.length) = (x.f2.length : Int)
      split
      · rename_i hf; rw [g4 hf]; rfl
      · rfl
    · show 0 ≤ (if x.f1 = true then (0 : Int) else (pre.length : Int) + 2 + x.f0.size + 4)
      split <;> omega
    · show (if x.f1 = true then (0 : Int) else (pre.length : Int) + 2 + x.f0.size + 4) + (if x.f1 = true then (0 : Int) else x.f2.length) ≤ _
      have hol := opOct_len x
      rw [flatU, List.length_append, List.length_append]
      generalize (opOct x).length = L at hol ⊢
      by_cases hf : x.f1 = true
      · rw [if_pos hf, if_pos hf]; omega
      · rw [if_neg hf] at hol; rw [if_neg hf, if_neg hf]; omega
    · show ((pre ++ flatU (x :: l)).take ((if x.f1 = true then (0 : Int) else (pre.length : Int) + 2 + x.f0.size + 4) + (if x.f1 = true then (0 : Int) else x.f2.length)).toNat).drop (if x.f1 = true then (0 : Int) else (pre.length : Int) + 2 + x.f0.size + 4).toNat = x.f2
      by_cases hf : x.f1 = true
      · rw [if_pos hf, if_pos hf]
        have : x.f2 = [] := List.length_eq_zero_iff.1 (g4 hf)
        rw [this]; rfl
      · rw [if_neg hf, if_neg hf]
        have e : pre ++ flatU (x :: l) = (pre ++ ([1, (x.f0.size : Int) % 256] ++ (bytesOf x.f0 ++ be 4 (x.f2.length : Int)))) ++ (x.f2 ++ flatU l) := by
          rw [flatU]; unfold opOct; rw [if_neg hf, if_neg hf]; simp only [List.append_assoc]
        have hl : (pre ++ ([1, (x.f0.size : Int) % 256] ++ (bytesOf x.f0 ++ be 4 (x.f2.length : Int)))).length = ((pre.length : Int) + 2 + x.f0.size + 4).toNat := by
          rw [List.length_append, List.length_append, List.length_append, hb, h4]
          show pre.length + (2 + _) = _
          omega
        rw [e, List.drop_take, List.drop_left' hl, show ((pre.length : Int) + 2 + x.f0.size + 4 + (x.f2.length : Int)).toNat - ((pre.length : Int) + 2 + x.f0.size + 4).toNat = x.f2.length by omega, List.take_left]
  | x :: l, pre, i + 1, hi, h => by
    have := plU_says l (pre ++ opOct x) i (by simpa using hi) (fun y hy => h y (by simp [hy]))
    rw [List.length_append, List.append_assoc] at this
    have e : ((pre.length + (opOct x).length : Nat) : Int) = (pre.length : Int) + ((opOct x).length : Int) := by omega
    simp only [e] at this
    exact this
theorem rd_P (l : List S51) (i : Nat) (h : i < l.length) : rd_T51 l (i : Int) = l[i] := by
  unfold rd_T51
  rw [Int.toNat_natCast, List.getD_eq_getElem?_getD, List.getElem?_eq_getElem h]
  rfl
end Go.Proofs.Ytpjkaodbcclecaa.Pure
