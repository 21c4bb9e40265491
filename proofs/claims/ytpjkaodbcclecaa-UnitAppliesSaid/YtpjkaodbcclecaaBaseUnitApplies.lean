/-
The plain laws that the statement rests on, behind each other.
-/
import Derived.Test.YtpjkaodbcclecaaPMx2
import Derived.Test.YtpjkaodbcclecaaPMx4
import Derived.Laws.BitsLemmas
import Derived.IntWalk
import Derived.Lib.Bytes
import Derived.Test.YtpjkaodbcclecaaPMx5
import Derived.Test.YtpjkaodbcclecaaPMx3
import Derived.Test.YtpjkaodbcclecaaPMx6
import Derived.Test.YtpjkaodbcclecaaPMx8
import Derived.Test.YtpjkaodbcclecaaPMx9
/-
What the printed functions of the package octs come to, in plain Lean: numbers as octets and back, texts behind their lengths.
Conditions: the bounds on lengths and numbers that each lemma names.
-/
namespace Go.Proofs.Ytpjkaodbcclecaa.Pure
open Go.RowKit Go.Proofs.Ytpjkaodbcclecaa.PM Go.Proofs.YtpjkaodbcclecaaW.PrintWords Go.Proofs.YtpjkaodbcclecaaW.PrintLast Go.Proofs.YtpjkaodbcclecaaW.PrintMore
set_option linter.unusedVariables false
set_option linter.unusedSimpArgs false

/-- All of them are octets. -/
def Oct (l : List Int) : Prop := ∀ x ∈ l, 0 ≤ x ∧ x < 256
theorem oct_nil : Oct [] := fun x hx => by simp at hx
theorem oct_take {a : List Int} (ha : Oct a) (n : Nat) : Oct (a.take n) := fun x hx => ha x (List.mem_of_mem_take hx)
theorem oct_wf {l : List Int} (h : ∀ x ∈ l, (Lit.int .u8 x).wf = true) : Oct l := by
  intro x hx
  have := h x hx
  simp [Lit.wf, IntKind.min, IntKind.max, IntKind.signed, IntKind.bits] at this
  omega

theorem w64_id (n : Int) (h0 : -9223372036854775808 ≤ n) (h1 : n < 9223372036854775808) : wrap64 n = n := by unfold wrap64; omega
/-! ### the reader -/

def goodU (x : S38) : Bool := decide (x.f0.size ≠ 0 ∧ x.f0.size ≤ 130 ∧ x.f2.length ≤ 11000 ∧ (x.f1 = true → x.f2.length = 0))
theorem rd_U (l : List S38) (i : Nat) (h : i < l.length) : rd_T38 l (i : Int) = l[i] := by
  unfold rd_T38
  rw [Int.toNat_natCast, List.getD_eq_getElem?_getD, List.getElem?_eq_getElem h]
  rfl
theorem Small_l0 (l : List S38) (hl : l.length < 1000000000) : ∀ (d i k : Nat), l.length - i = d → i ≤ l.length → d < k → ∃ b, waybilllaw13_Small.l0 k l (i : Int) = some b := by
  intro d
  induction d with
  | zero =>
    intro i k hd hi hk
    obtain ⟨k, rfl⟩ : ∃ j, k = j + 1 := ⟨k - 1, by omega⟩
    rw [waybilllaw13_Small.l0, if_neg (by omega)]
    exact ⟨_, rfl⟩
  | succ d ih =>
    intro i k hd hi hk
    obtain ⟨k, rfl⟩ : ∃ j, k = j + 1 := ⟨k - 1, by omega⟩
    have hw : wrap64 ((i : Int) + 1) = ((i + 1 : Nat) : Int) := (w64_id _ (by omega) (by omega)).trans (by omega)
    rw [waybilllaw13_Small.l0, if_pos (by omega), if_pos (by omega), hw]
    have := ih (i + 1) k (by omega) (by omega) (by omega)
    split
    · exact ⟨_, rfl⟩
    · split
      · exact ⟨_, rfl⟩
      · exact this
theorem Small_f (k : Nat) (l : List S38) (hk : 100 ≤ k) : ∃ b, waybilllaw13_Small.f k l = some b ∧ (b = true → l.length ≤ 60) := by
  unfold waybilllaw13_Small.f
  by_cases h : (l.length : Int) > 60
  · rw [if_pos h]; exact ⟨_, rfl, fun h => by cases h⟩
  · rw [if_neg h]
    obtain ⟨b, hb⟩ := Small_l0 l (by omega) _ 0 k rfl (by omega) (by omega)
    exact ⟨b, hb, fun _ => by omega⟩
/-- An op that the tests make is small and good. -/
def tame (x : S38) : Prop := goodU x = true ∧ x.f0.size ≤ 101 ∧ x.f2.length ≤ 300 ∧ Oct x.f2
theorem mn_le (a b : Int) : mn a b ≤ a ∧ mn a b ≤ b ∧ (0 ≤ a → 0 ≤ b → 0 ≤ mn a b) := by
  unfold mn
  split <;> omega
theorem ba_size (s : ByteArray) (n : Nat) (h : n ≤ s.size) : (s.extract 0 n).size = n := by
  rw [ByteArray.size_extract]; omega
theorem ba_app (s t : ByteArray) : (s ++ t).size = s.size + t.size := ByteArray.size_append
theorem tame_of (x : S38) (n m : Nat) (hn : n ≤ x.f0.size) (hn2 : n ≤ 100) (hm2 : m ≤ 300) (ho : Oct x.f2) (f : Bool) (v : List Int) (hf : f = true → v = []) (hv : v = [] ∨ v = x.f2.take m) :
    tame ⟨(⟨#[107]⟩ : ByteArray) ++ x.f0.extract 0 n, f, v⟩ := by
  have hs : ((⟨#[107]⟩ : ByteArray) ++ x.f0.extract 0 n).size = 1 + n := by rw [ba_app, ba_size _ _ hn]; rfl
  have hvl : v.length ≤ 300 := by
    rcases hv with rfl | rfl
    · simp
    · rw [List.length_take]; omega
  have hvo : Oct v := by
    rcases hv with rfl | rfl
    · exact oct_nil
    · exact oct_take ho m
  refine ⟨decide_eq_true ⟨?_, ?_, ?_, ?_⟩, ?_, hvl, hvo⟩
  · show ¬ ((⟨#[107]⟩ : ByteArray) ++ x.f0.extract 0 n).size = 0
    rw [hs]; omega
  · show ((⟨#[107]⟩ : ByteArray) ++ x.f0.extract 0 n).size ≤ 130
    rw [hs]; omega
  · show v.length ≤ 11000
    omega
  · intro h; rw [hf h]; rfl
  · show ((⟨#[107]⟩ : ByteArray) ++ x.f0.extract 0 n).size ≤ 101
    rw [hs]; omega
theorem Tame_l0 (l : List S38) (hl : l.length ≤ 60) (ho : ∀ x ∈ l, Oct x.f2) : ∀ (d i k : Nat) (acc : List S38), l.length - i = d → i ≤ l.length → (∀ x ∈ acc, tame x) → acc.length ≤ i → acc.length ≤ 30 → 2 * d + 2 < k →
    ∃ o, waybilllaw13_Tame.l0 k l acc (i : Int) = some o ∧ (∀ x ∈ o, tame x) ∧ o.length ≤ 30 := by
  have hend : ∀ (k : Nat) (acc : List S38) (i : Int), waybilllaw13_Tame.j1 (k + 1) l acc i false = some acc := by
    intro k acc i; rw [waybilllaw13_Tame.j1, if_neg (by simp)]
  intro d
  induction d with
  | zero =>
    intro i k acc hd hi hc hc2 hc3 hk
    obtain ⟨k, rfl⟩ : ∃ j, k = j + 2 := ⟨k - 2, by omega⟩
    rw [waybilllaw13_Tame.l0, if_neg (by omega), hend]
    exact ⟨_, rfl, hc, hc3⟩
  | succ d ih =>
    intro i k acc hd hi hc hc2 hc3 hk
    obtain ⟨k, rfl⟩ : ∃ j, k = j + 2 := ⟨k - 2, by omega⟩
    have hil : i < l.length := by omega
    rw [waybilllaw13_Tame.l0, if_pos (by omega)]
    by_cases h30 : (i : Int) < 30
    · have hw : wrap64 ((i : Int) + 1) = ((i + 1 : Nat) : Int) := (w64_id _ (by omega) (by omega)).trans (by omega)
      have hox := ho l[i] (List.getElem_mem hil)
      rw [decide_eq_true h30, waybilllaw13_Tame.j1, if_pos rfl, if_pos (by omega), if_pos (by omega), rd_U l i hil, hw]
      clear hw
      generalize l[i] = x at hox ⊢
      obtain ⟨m1, m2, m3⟩ := mn_le (x.f0.size : Int) 100
      have m3 := m3 (by omega) (by omega)
      obtain ⟨n1, n2, n3⟩ := mn_le (x.f2.length : Int) 300
      have n3 := n3 (by omega) (by omega)
      generalize mn (x.f0.size : Int) 100 = N at m1 m2 m3 ⊢
      generalize mn (x.f2.length : Int) 300 = M at n1 n2 n3 ⊢
      have hsz : (x.f0.extract 0 N.toNat).size = N.toNat := ba_size _ _ (by omega)
      rw [if_pos m3, if_pos m1, hsz, if_pos (by omega)]
      have hrec : ∀ y, tame y → ∃ o, waybilllaw13_Tame.l0 k l (acc ++ [y]) ((i + 1 : Nat) : Int) = some o ∧ (∀ x ∈ o, tame x) ∧ o.length ≤ 30 := by
        intro y hy
        refine ih (i + 1) k (acc ++ [y]) (by omega) (by omega) ?_ (by rw [List.length_append, List.length_singleton]; omega) (by rw [List.length_append, List.length_singleton]; omega) (by omega)
        intro z hz
        rcases List.mem_append.1 hz with hz | hz
        · exact hc z hz
        · rw [List.mem_singleton] at hz; rw [hz]; exact hy
      by_cases hf : x.f1 = true
      · rw [if_pos hf, if_pos (by omega)]
        exact hrec _ (tame_of x N.toNat 0 (by omega) (by omega) (by omega) hox _ _ (fun _ => rfl) (Or.inl rfl))
      · rw [if_neg hf, if_pos n3, if_pos n1, if_pos (by omega)]
        exact hrec _ (tame_of x N.toNat M.toNat (by omega) (by omega) (by omega) hox _ _ (fun h => absurd h hf) (Or.inr rfl))
    · rw [decide_eq_false h30, hend]
      exact ⟨_, rfl, hc, hc3⟩
theorem Tame_f (k : Nat) (l : List S38) (hl : l.length ≤ 60) (ho : ∀ x ∈ l, Oct x.f2) (hk : 200 ≤ k) : ∃ o, waybilllaw13_Tame.f k l = some o ∧ (∀ x ∈ o, tame x) ∧ o.length ≤ 30 := by
  unfold waybilllaw13_Tame.f
  exact Tame_l0 l hl ho _ 0 k [] rfl (by omega) (fun x hx => by simp at hx) (by simp) (by simp) (by omega)
theorem awake13_ok (k : Nat) (hk : 30 ≤ k) : waybilllaw13_awake.f k = some true :=
  at_rounds (g := fun k => waybilllaw13_awake.f k) (fun k => waybilllaw13_awake.mono k) hk (by decide +kernel)
end Go.Proofs.Ytpjkaodbcclecaa.Pure
