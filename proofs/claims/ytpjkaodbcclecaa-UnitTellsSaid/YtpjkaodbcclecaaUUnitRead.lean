/-
Ops' octets: what the reader of the given program comes to, and that it reads what the writer wrote.
-/
import Derived.Test.YtpjkaodbcclecaaPUx6
import Derived.Test.YtpjkaodbcclecaaUUnitLib
namespace Go.Proofs.Ytpjkaodbcclecaa.Pure
open Go.RowKit Go.Proofs.Ytpjkaodbcclecaa.PU Go.Proofs.YtpjkaodbcclecaaW.PrintWords Go.Proofs.YtpjkaodbcclecaaW.PrintLast Go.Proofs.YtpjkaodbcclecaaW.PrintMore
set_option linter.unusedVariables false
set_option linter.unusedSimpArgs false
theorem txt_part {l : List Int} {n : Nat} {x r : List Int} (h : txt l n = some (x, r)) : n + x.length ≤ l.length ∧ x = (l.drop n).take x.length ∧ r = l.drop (n + x.length) := by
  unfold txt at h
  by_cases h1 : l.length < n
  · rw [if_pos h1] at h; cases h
  rw [if_neg h1] at h
  by_cases h2 : (l.length : Int) - n < num (l.take n)
  · rw [if_pos h2] at h; cases h
  rw [if_neg h2] at h
  simp only [Option.some.injEq, Prod.mk.injEq] at h
  obtain ⟨rfl, rfl⟩ := h
  have hl : ((l.drop n).take (num (l.take n)).toNat).length = (num (l.take n)).toNat := by rw [List.length_take, List.length_drop]; omega
  rw [hl]
  exact ⟨by omega, rfl, by rw [List.drop_drop]⟩
/-- One op at the head of some octets, and what follows it. -/
def readOp (l : List Int) : Option (S38 × List Int) :=
  match txt (l.drop 1) 1 with
  | none => none
  | some (name, r) =>
    if l.getD 0 0 = 1 then
      match txt r 4 with
      | none => none
      | some (v, s) => if goodU ⟨strOfNums name, false, v⟩ = true then some (⟨strOfNums name, false, v⟩, s) else none
    else if l.getD 0 0 = 2 then (if goodU ⟨strOfNums name, true, []⟩ = true then some (⟨strOfNums name, true, []⟩, r) else none)
    else none
def parseU : Nat → List S38 → List Int → List S38 × Bool
  | 0, acc, _ => (acc, true)
  | n + 1, acc, l => if l.length = 0 then (acc, true) else match readOp l with
    | none => ([], false)
    | some (x, r) => parseU n (acc ++ [x]) r
theorem num_one {l : List Int} (h : 0 < l.length) : num (l.take 1) = l.getD 0 0 := by
  cases l with
  | nil => simp at h
  | cons a t => simp [num, numA]
theorem pj1_bad (k : Nat) (acc : List S38) (kd : Int) (l : List Int) (s : ByteArray) (f : Bool) (v : List Int) : unit_Parse.j1 (k + 1) acc kd l true s f v = some ([], false) := by
  rw [unit_Parse.j1]
  unfold octs_In_Ok.f
  rw [Option.bind_some]
  exact if_neg (by simp)
theorem pj1_one (k : Nat) (acc : List S38) (l : List Int) (s : ByteArray) (f : Bool) (v : List Int) (ha : acc.length < 2932031007402) :
    unit_Parse.j1 (k + 1) acc 1 l false s f v = if goodU ⟨s, f, v⟩ = true then unit_Parse.l0 k (acc ++ [⟨s, f, v⟩]) l false else some ([], false) := by
  have hg : unit_good.f s f v = some (goodU ⟨s, f, v⟩) := good_f ⟨s, f, v⟩
  rw [unit_Parse.j1]
  unfold octs_In_Ok.f
  rw [Option.bind_some, hg]
  simp [ha]
theorem pj1_two (k : Nat) (acc : List S38) (l : List Int) (s : ByteArray) (f : Bool) (v : List Int) (ha : acc.length < 2932031007402) :
    unit_Parse.j1 (k + 1) acc 2 l false s f v = if goodU ⟨s, f, v⟩ = true then unit_Parse.l0 k (acc ++ [⟨s, f, v⟩]) l false else some ([], false) := by
  have hg : unit_good.f s f v = some (goodU ⟨s, f, v⟩) := good_f ⟨s, f, v⟩
  rw [unit_Parse.j1]
  unfold octs_In_Ok.f
  rw [Option.bind_some, hg]
  simp [ha]
theorem pj1_other (k : Nat) (acc : List S38) (kd : Int) (l : List Int) (s : ByteArray) (f : Bool) (v : List Int) (h1 : kd ≠ 1) (h2 : kd ≠ 2) :
    unit_Parse.j1 (k + 1) acc kd l false s f v = some ([], false) := by
  rw [unit_Parse.j1]
  unfold octs_In_Ok.f
  rw [Option.bind_some]
  simp [h1, h2]
theorem Parse_step (k : Nat) (hk : 20 ≤ k) (acc : List S38) (l : List Int) (h : 0 < l.length) (ho : Oct l) (hl : l.length ≤ 190000) (ha : acc.length < 2932031007402) :
    unit_Parse.l0 (k + 2) acc l false = (readOp l).elim (some ([], false)) (fun p => unit_Parse.l0 k (acc ++ [p.1]) p.2 false) := by
  have hw : wd 1 = 1 := by decide
  rw [unit_Parse.l0]
  unfold octs_In_Left.f
  rw [Option.bind_some, if_pos (show (l.length : Int) > 0 by omega)]
  have hI := In_Int (k + 1) l 1 (by omega) ho (by omega)
  rw [hw, if_neg (by omega), num_one h] at hI
  rw [hI, Option.bind_some]
  have hS := In_Short (k + 1) (l.drop 1) (by omega) (oct_drop ho 1) (by rw [List.length_drop]; omega)
  rw [hS, Option.bind_some]
  unfold readOp
  cases ht : txt (l.drop 1) 1 with
  | none =>
    show (if l.getD 0 0 = 1 then (octs_In_Long.f (k + 1) [] true).bind _ else unit_Parse.j1 (k + 1) acc (l.getD 0 0) [] true _ _ _) = _
    rw [In_Long_bad, Option.bind_some, pj1_bad]
    exact ite_self _
  | some p =>
    obtain ⟨name, r⟩ := p
    obtain ⟨e1, e2, e3⟩ := txt_part ht
    rw [List.length_drop] at e1
    have hor : Oct r := by rw [e3]; exact oct_drop (oct_drop ho 1) _
    have hrl : r.length ≤ 190000 := by rw [e3, List.length_drop, List.length_drop]; omega
    show (if l.getD 0 0 = 1 then (octs_In_Long.f (k + 1) r false).bind _ else unit_Parse.j1 (k + 1) acc (l.getD 0 0) r false (strOfNums name) (l.getD 0 0 == 2) []) = (if l.getD 0 0 = 1 then (match txt r 4 with
      | none => none
      | some (v, s) => if goodU ⟨strOfNums name, false, v⟩ = true then some (⟨strOfNums name, false, v⟩, s) else none) else if l.getD 0 0 = 2 then (if goodU ⟨strOfNums name, true, []⟩ = true then some (⟨strOfNums name, true, []⟩, r) else none)
    else none : Option (S38 × List Int)).elim (some ([], false)) (fun p => unit_Parse.l0 k (acc ++ [p.1]) p.2 false)
    by_cases h1 : l.getD 0 0 = 1
    · rw [if_pos h1, if_pos h1, h1, In_Long (k + 1) r (by omega) hor (by omega), Option.bind_some]
      cases ht2 : txt r 4 with
      | none => exact pj1_bad k acc 1 [] _ _ _
      | some q =>
        obtain ⟨v, s⟩ := q
        show unit_Parse.j1 (k + 1) acc 1 s false (strOfNums name) false v = _
        rw [pj1_one k acc s _ _ _ ha]
        show _ = (if goodU ⟨strOfNums name, false, v⟩ = true then some ((⟨strOfNums name, false, v⟩ : S38), s) else none).elim _ _
        by_cases hg : goodU ⟨strOfNums name, false, v⟩ = true
        · rw [if_pos hg, if_pos hg]; rfl
        · rw [if_neg hg, if_neg hg]; rfl
    · rw [if_neg h1, if_neg h1]
      by_cases h2 : l.getD 0 0 = 2
      · rw [if_pos h2, h2]
        show unit_Parse.j1 (k + 1) acc 2 r false (strOfNums name) true [] = _
        rw [pj1_two k acc r _ _ _ ha]
        by_cases hg : goodU ⟨strOfNums name, true, []⟩ = true
        · rw [if_pos hg, if_pos hg]; rfl
        · rw [if_neg hg, if_neg hg]; rfl
      · rw [if_neg h2, pj1_other k acc _ r _ _ _ h1 h2]
        rfl
theorem readOp_some {l : List Int} {x : S38} {r : List Int} (h : readOp l = some (x, r)) : goodU x = true ∧ (∃ n, r = l.drop n ∧ 2 ≤ n ∧ n ≤ l.length) := by
  unfold readOp at h
  cases ht : txt (l.drop 1) 1 with
  | none => rw [ht] at h; exact absurd h (by simp)
  | some p =>
    obtain ⟨name, r0⟩ := p
    rw [ht] at h
    obtain ⟨e1, e2, e3⟩ := txt_part ht
    rw [List.length_drop] at e1
    rw [List.drop_drop] at e3
    simp only [] at h
    by_cases h1 : l.getD 0 0 = 1
    · rw [if_pos h1] at h
      cases ht2 : txt r0 4 with
      | none => rw [ht2] at h; exact absurd h (by simp)
      | some q =>
        obtain ⟨v, s⟩ := q
        obtain ⟨f1, f2, f3⟩ := txt_part ht2
        have f1' := f1
        rw [e3, List.length_drop] at f1'
        rw [e3, List.drop_drop] at f3
        rw [ht2] at h
        simp only [] at h
        by_cases hg : goodU ⟨strOfNums name, false, v⟩ = true
        · rw [if_pos hg] at h
          have h := Option.some.inj h
          rw [Prod.mk.injEq] at h
          obtain ⟨rfl, rfl⟩ := h
          exact ⟨hg, _, f3, by omega, by omega⟩
        · rw [if_neg hg] at h; exact absurd h (by simp)
    · rw [if_neg h1] at h
      by_cases h2 : l.getD 0 0 = 2
      · rw [if_pos h2] at h
        by_cases hg : goodU ⟨strOfNums name, true, []⟩ = true
        · rw [if_pos hg] at h
          have h := Option.some.inj h
          rw [Prod.mk.injEq] at h
          obtain ⟨rfl, rfl⟩ := h
          exact ⟨hg, _, e3, by omega, by omega⟩
        · rw [if_neg hg] at h; exact absurd h (by simp)
      · rw [if_neg h2] at h; exact absurd h (by simp)
theorem Parse_l0 : ∀ (n k : Nat) (acc : List S38) (l : List Int), l.length < n → Oct l → l.length ≤ 190000 → acc.length + l.length < 2932031007402 → 2 * n + 30 < k →
    unit_Parse.l0 k acc l false = some (parseU n acc l) := by
  intro n
  induction n with
  | zero => intro k acc l h; omega
  | succ n ih =>
    intro k acc l h ho hl ha hk
    obtain ⟨k, rfl⟩ : ∃ j, k = j + 2 := ⟨k - 2, by omega⟩
    rw [parseU]
    by_cases h0 : l.length = 0
    · rw [if_pos h0, unit_Parse.l0]
      unfold octs_In_Left.f
      rw [Option.bind_some, if_neg (show ¬ (l.length : Int) > 0 by omega)]
    · rw [if_neg h0, Parse_step k (by omega) acc l (by omega) ho hl (by omega)]
      cases hr : readOp l with
      | none => rfl
      | some p =>
        obtain ⟨x, r⟩ := p
        obtain ⟨_, m, rfl, h2, h3⟩ := readOp_some hr
        exact ih k (acc ++ [x]) _ (by rw [List.length_drop]; omega) (oct_drop ho _) (by rw [List.length_drop]; omega) (by rw [List.length_append, List.length_drop, List.length_singleton]; omega) (by omega)
/-- What the program's reader comes to at any octets. -/
def opsU (l : List Int) : List S38 × Bool := if l.length > 190000 then ([], false) else parseU (l.length + 1) [] l
theorem ParseU (k : Nat) (l : List Int) (ho : Oct l) (hk : 400100 < k) : unit_Parse.f k l = some (opsU l) := by
  unfold unit_Parse.f opsU octs_From.f
  by_cases h : l.length > 190000
  · rw [if_pos (by omega), if_pos h]
  · rw [if_neg (by omega), if_neg h, Option.bind_some]
    exact Parse_l0 _ k [] l (by omega) ho (by omega) (by simp; omega) (by omega)
theorem parseU_good : ∀ (n : Nat) (acc : List S38) (l : List Int), (∀ x ∈ acc, goodU x = true) → (∀ x ∈ (parseU n acc l).1, goodU x = true) ∧ (parseU n acc l).1.length ≤ acc.length + n := by
  intro n
  induction n with
  | zero => intro acc l h; exact ⟨h, Nat.le_refl _⟩
  | succ n ih =>
    intro acc l h
    rw [parseU]
    by_cases h0 : l.length = 0
    · rw [if_pos h0]; exact ⟨h, by show acc.length ≤ _; omega⟩
    · rw [if_neg h0]
      cases hr : readOp l with
      | none => exact ⟨fun x hx => by simp at hx, by simp⟩
      | some p =>
        obtain ⟨x, r⟩ := p
        obtain ⟨hg, _⟩ := readOp_some hr
        have := ih (acc ++ [x]) r (fun y hy => by
          rcases List.mem_append.1 hy with hy | hy
          · exact h y hy
          · rw [List.mem_singleton] at hy; rw [hy]; exact hg)
        exact ⟨this.1, by have h2 := this.2; rw [List.length_append, List.length_singleton] at h2; show (parseU n (acc ++ [x]) r).1.length ≤ _; omega⟩
theorem opsU_good (l : List Int) : (∀ x ∈ (opsU l).1, goodU x = true) ∧ (opsU l).1.length ≤ 190001 := by
  unfold opsU
  by_cases h : l.length > 190000
  · rw [if_pos h]; exact ⟨fun x hx => by simp at hx, by simp⟩
  · rw [if_neg h]
    have := parseU_good (l.length + 1) [] l (fun x hx => by simp at hx)
    exact ⟨this.1, by have h2 := this.2; rw [List.length_nil] at h2; omega⟩
/-- Where the ops lie. -/
def plU : Int → List S38 → List S51
  | _, [] => []
  | a, x :: l => ⟨x.f0, x.f1, if x.f1 = true then 0 else a + 2 + x.f0.size + 4, if x.f1 = true then 0 else x.f2.length⟩ :: plU (a + (opOct x).length) l
theorem w_pl (a S V : Int) (h0 : 0 ≤ a) (h1 : a ≤ 3000000000) (h2 : 0 ≤ S) (h3 : S ≤ 130) (h4 : 0 ≤ V) (h5 : V ≤ 11000) : wrap64 (2 + S) = 2 + S ∧ wrap64 (a + (2 + S)) = a + 2 + S ∧ wrap64 (a + 2 + S + 4) = a + 2 + S + 4 ∧ wrap64 (a + 2 + S + 4 + V) = a + 2 + S + 4 + V :=
  ⟨w64_id _ (by omega) (by omega), (w64_id _ (by omega) (by omega)).trans (by omega), w64_id _ (by omega) (by omega), w64_id _ (by omega) (by omega)⟩
theorem Places_l0 (ops : List S38) (hg : ∀ x ∈ ops, goodU x = true) (hn : ops.length ≤ 190001) : ∀ (d i k : Nat) (acc : List S51) (a : Int), ops.length - i = d → i ≤ ops.length → 0 ≤ a → a ≤ 12000 * i → acc.length ≤ i → d < k →
    unit_Places.l0 k acc a ops (ops.length : Int) (i : Int) = some (acc ++ plU a (ops.drop i), true) := by
  intro d
  induction d with
  | zero =>
    intro i k acc a hd hi h0 ha hc hk
    obtain ⟨k, rfl⟩ : ∃ j, k = j + 1 := ⟨k - 1, by omega⟩
    rw [unit_Places.l0, if_neg (by omega), List.drop_of_length_le (by omega), plU, List.append_nil]
  | succ d ih =>
    intro i k acc a hd hi h0 ha hc hk
    obtain ⟨k, rfl⟩ : ∃ j, k = j + 1 := ⟨k - 1, by omega⟩
    have hil : i < ops.length := by omega
    have hw : wrap64 ((i : Int) + 1) = ((i + 1 : Nat) : Int) := by rw [w64_id _ (by omega) (by omega)]; omega
    have hdr : ops.drop i = ops[i] :: ops.drop (i + 1) := List.drop_eq_getElem_cons hil
    have hgx := of_decide_eq_true (hg ops[i] (List.getElem_mem hil))
    have hol := opOct_len ops[i]
    rw [unit_Places.l0, if_pos (by omega), if_pos (by omega), if_pos (by omega), rd_U ops i hil, hdr, plU, hw]
    generalize ops[i] = x at hgx hol ⊢
    obtain ⟨g1, g2, g3, g4⟩ := hgx
    clear g4 g1 hdr hw
    generalize (opOct x).length = L at hol ⊢
    generalize x.f0.size = S at hol g2 ⊢
    generalize x.f2.length = V at hol g3 ⊢
    have ha2 : a ≤ 3000000000 := by omega
    obtain ⟨w1, w2, w3, w4⟩ := w_pl a (S : Int) (V : Int) h0 ha2 (by omega) (by omega) (by omega) (by omega)
    rw [w1, w2, w3, w4]
    clear w1 w2 w3 w4
    have hrec : ∀ (y : S51) (b : Int), b = a + (L : Int) → L ≤ 11200 → unit_Places.l0 k (acc ++ [y]) b ops (ops.length : Int) ((i + 1 : Nat) : Int) = some (acc ++ y :: plU (a + (L : Int)) (ops.drop (i + 1)), true) := by
      intro y b hb hL
      rw [hb, ih (i + 1) k (acc ++ [y]) (a + (L : Int)) (by omega) (by omega) (by omega) (by omega) (by rw [List.length_append, List.length_singleton]; omega) (by omega), List.append_assoc]
      rfl
    cases hf : x.f1 with
    | true =>
      rw [hf, if_pos rfl] at hol
      rw [if_pos rfl, if_pos (by omega), hrec _ _ (by omega) (by omega)]
      rfl
    | false =>
      rw [hf, if_neg (by simp)] at hol
      rw [if_neg (by simp), if_pos (by omega), hrec _ _ (by omega) (by omega)]
      rfl
theorem PlacesU (k : Nat) (l : List Int) (ho : Oct l) (hk : 400100 < k) : unit_Places.f k l = some (if (opsU l).2 = true then (plU 0 (opsU l).1, true) else ([], false)) := by
  unfold unit_Places.f
  rw [ParseU k l ho hk, Option.bind_some]
  by_cases h : (opsU l).2 = true
  · rw [if_pos h, if_pos h]
    obtain ⟨hg, hn⟩ := opsU_good l
    exact Places_l0 _ hg hn _ 0 k [] 0 rfl (by omega) (by omega) (by omega) (by simp) (by omega)
  · rw [if_neg h, if_neg h]
/-- What the writer wrote is read. -/
theorem readOp_op (x : S38) (hx : goodU x = true) (rest : List Int) : readOp (opOct x ++ rest) = some (x, rest) := by
  obtain ⟨g1, g2, g3, g4⟩ := of_decide_eq_true hx
  have hb := bytesOf_len x.f0
  have e1 : [(x.f0.size : Int) % 256] = be 1 (x.f0.size : Int) := by simp [be]
  obtain ⟨s, f, v⟩ := x
  simp only [] at g1 g2 g3 g4 hb e1
  cases f with
  | true =>
    have hv : v = [] := List.length_eq_zero_iff.1 (g4 rfl)
    subst hv
    have e : opOct ⟨s, true, []⟩ ++ rest = 2 :: (be 1 (s.size : Int) ++ (bytesOf s ++ rest)) := by
      unfold opOct; rw [← e1]; simp
    rw [e]
    unfold readOp
    rw [show (2 :: (be 1 (s.size : Int) ++ (bytesOf s ++ rest))).drop 1 = be 1 (s.size : Int) ++ (bytesOf s ++ rest) from rfl, txt_be 1 s.size _ _ hb (by omega)]
    simp only [str_bytesOf, List.getD_cons_zero]
    rw [if_neg (by decide), if_pos trivial, if_pos hx]
  | false =>
    have e : opOct ⟨s, false, v⟩ ++ rest = 1 :: (be 1 (s.size : Int) ++ (bytesOf s ++ (be 4 (v.length : Int) ++ (v ++ rest)))) := by
      unfold opOct; rw [← e1]; simp
    rw [e]
    unfold readOp
    rw [show (1 :: (be 1 (s.size : Int) ++ (bytesOf s ++ (be 4 (v.length : Int) ++ (v ++ rest))))).drop 1 = be 1 (s.size : Int) ++ (bytesOf s ++ (be 4 (v.length : Int) ++ (v ++ rest))) from rfl, txt_be 1 s.size _ _ hb (by omega)]
    simp only [str_bytesOf, List.getD_cons_zero]
    rw [if_pos trivial, txt_be 4 v.length v rest rfl (by omega)]
    simp only []
    rw [if_pos hx]
def flatU : List S38 → List Int
  | [] => []
  | x :: l => opOct x ++ flatU l
theorem parseU_flat : ∀ (l : List S38) (n : Nat) (acc : List S38), (∀ x ∈ l, goodU x = true) → (flatU l).length < n → parseU n acc (flatU l) = (acc ++ l, true)
  | [], n + 1, acc, h, hn => by rw [parseU, if_pos (by simp [flatU]), List.append_nil]
  | x :: l, n + 1, acc, h, hn => by
    have hx := h x (by simp)
    have hl := opOct_len x
    rw [flatU, List.length_append] at hn
    rw [parseU, flatU, if_neg (by rw [List.length_append]; omega), readOp_op x hx]
    have := parseU_flat l n (acc ++ [x]) (fun y hy => h y (by simp [hy])) (by omega)
    rw [List.append_assoc] at this
    exact this
theorem appU_flat : ∀ (l : List S38) (b : List Int), (∀ x ∈ l, goodU x = true) → b.length + (flatU l).length ≤ 190000 → appU b l = (b ++ flatU l, true)
  | [], b, h, hb => by rw [appU, flatU, List.append_nil]
  | x :: l, b, h, hb => by
    rw [flatU, List.length_append] at hb
    rw [appU, if_pos (h x (by simp)), if_neg (by rw [List.length_append]; omega), appU_flat l _ (fun y hy => h y (by simp [hy])) (by rw [List.length_append]; omega), flatU, List.append_assoc]
theorem opsU_flat (l : List S38) (h : ∀ x ∈ l, goodU x = true) (hb : (flatU l).length ≤ 190000) : opsU (flatU l) = (l, true) := by
  unfold opsU
  rw [if_neg (by omega)]
  exact parseU_flat l _ [] h (by omega)
theorem oct_op (x : S38) (hx : Oct x.f2) : Oct (opOct x) := by
  unfold opOct
  refine oct_app ?_ (oct_app (oct_bytesOf _) ?_)
  · intro y hy
    simp only [List.mem_cons, List.not_mem_nil, or_false] at hy
    rcases hy with rfl | rfl
    · split <;> omega
    · omega
  · split
    · exact oct_nil
    · exact oct_app (be_oct _ _) hx
theorem oct_flat : ∀ (l : List S38), (∀ x ∈ l, Oct x.f2) → Oct (flatU l)
  | [], h => oct_nil
  | x :: l, h => oct_app (oct_op x (h x (by simp))) (oct_flat l (fun y hy => h y (by simp [hy])))
end Go.Proofs.Ytpjkaodbcclecaa.Pure
