/-
Any octets are read as the document says, by any script of reads of numbers, texts and rests; what is not all there makes the rest unread for ever.
Conditions: none but those of the statement (up to 600 octets, 60 reads).
-/
import Derived.Test.YtlhcjgmdcnmnnaaPAx6
import Derived.Test.YtlhcjgmdcnmnnaaAOctsRefTxt
import Derived.Test.YtlhcjgmdcnmnnaaAOctsMask
import Derived.Test.YtlhcjgmdcnmnnaaAOctsAwake1
namespace Go.Proofs.Ytlhcjgmdcnmnnaa.Pure
open Go.RowKit Go.Proofs.Ytlhcjgmdcnmnnaa.PA Go.Proofs.YtlhcjgmdcnmnnaaW.PrintWords Go.Proofs.YtlhcjgmdcnmnnaaW.PrintLast Go.Proofs.YtlhcjgmdcnmnnaaW.PrintMore
set_option linter.unusedVariables false
set_option linter.unusedSimpArgs false
/-- What the reader still holds. -/
def rdr (l : List Int) (a : Nat) (bad : Bool) : List Int := if bad = true then [] else l.drop a
theorem R_j8 (K a : Nat) (l s : List Int) (i : Int) (bad : Bool) (ha : a ≤ l.length) (hl : l.length ≤ 600)
    (h : waybilllaw1_OctsReads.l0 K l s (a : Int) bad (wrap64 (i + 1)) (rdr l a bad) bad = some true) : waybilllaw1_OctsReads.j8 (K + 2) l s (a : Int) bad i (rdr l a bad) bad = some true := by
  rw [waybilllaw1_OctsReads.j8]
  cases bad with
  | true =>
    rw [if_pos rfl, waybilllaw1_OctsReads.j9]
    unfold octs_In_Ok.f octs_In_Left.f
    simp only [Option.bind_some, Bool.not_true]
    rw [if_neg (by decide), if_pos (by simp [rdr])]
    exact h
  | false =>
    rw [if_neg (by simp), waybilllaw1_OctsReads.j9]
    unfold octs_In_Ok.f octs_In_Left.f
    simp only [Option.bind_some, Bool.not_false]
    rw [if_neg (by decide), w64_id _ (by omega) (by omega), if_pos (by simp [rdr]; omega)]
    exact h
theorem same_self (x : List Int) : waybilllaw1_SameBytes.f x x = some true := by
  unfold waybilllaw1_SameBytes.f; simp
/-- Behind a text's read: the texts are the same, the reader stands where the document says. -/
theorem R_j6 (K a : Nat) (l s : List Int) (i : Int) (bad : Bool) (n : Nat) (hn : n = 1 ∨ n = 4) (y : List Int) (b : Nat) (bad2 : Bool) (hb : b ≤ l.length) (hl : l.length ≤ 600) (hK : 40 ≤ K)
    (hs : n = 1 → octs_In_Short.f (K + 2) (rdr l a bad) bad = some (strOfNums y, rdr l b bad2, bad2)) (hg : n = 4 → octs_In_Long.f (K + 2) (rdr l a bad) bad = some (y, rdr l b bad2, bad2))
    (h : waybilllaw1_OctsReads.l0 K l s (b : Int) bad2 (wrap64 (i + 1)) (rdr l b bad2) bad2 = some true) : waybilllaw1_OctsReads.j6 (K + 3) l s (b : Int) bad2 i (n : Int) y (rdr l a bad) bad = some true := by
  rw [waybilllaw1_OctsReads.j6]
  rcases hn with rfl | rfl
  · rw [if_pos (by rfl), hs rfl, Option.bind_some, if_pos rfl, if_neg (by decide)]
    exact R_j8 K b l s i bad2 hb hl h
  · rw [if_neg (by decide), if_pos (by rfl), hg rfl, Option.bind_some, same_self, Option.bind_some, if_pos rfl]
    exact R_j8 K b l s i bad2 hb hl h
theorem R_j4 (K a : Nat) (l s : List Int) (i : Int) (bad : Bool) (n : Nat) (hn : n = 1 ∨ n = 4) (ha : a ≤ l.length) (hl : l.length ≤ 600) (ho : Oct l) (hK : 40 ≤ K)
    (h : ∀ (b : Nat) (bad2 : Bool), b ≤ l.length → waybilllaw1_OctsReads.l0 K l s (b : Int) bad2 (wrap64 (i + 1)) (rdr l b bad2) bad2 = some true) : waybilllaw1_OctsReads.j4 (K + 5) l s (a : Int) bad i (n : Int) (rdr l a bad) bad = some true := by
  rw [waybilllaw1_OctsReads.j4, Text_f _ (by omega) l a n ho (by rcases hn with rfl | rfl <;> omega) (by omega) ha, Option.bind_some]
  cases bad with
  | true =>
    rw [if_pos rfl, waybilllaw1_OctsReads.j5, if_pos rfl]
    refine R_j6 K a l s i true n hn [] a true ha hl hK (fun _ => ?_) (fun _ => ?_) (h a true ha)
    · rw [In_Short_bad]; rfl
    · rw [In_Long_bad]; rfl
  | false =>
    rw [if_neg (by simp), waybilllaw1_OctsReads.j5]
    have hod : Oct (l.drop a) := oct_drop ho a
    have hld : (l.drop a).length ≤ 600 := by rw [List.length_drop]; omega
    unfold rtxt
    cases ht : txt (l.drop a) n with
    | none =>
      simp only [Bool.not_false, if_true]
      refine R_j6 K a l s i false n hn [] a true ha hl hK (fun e => ?_) (fun e => ?_) (h a true ha)
      · subst e
        show octs_In_Short.f _ (l.drop a) false = _
        rw [In_Short _ _ (by omega) hod (by omega), ht]; rfl
      · subst e
        show octs_In_Long.f _ (l.drop a) false = _
        rw [In_Long _ _ (by omega) hod (by omega), ht]; rfl
    | some p =>
      obtain ⟨x, r⟩ := p
      obtain ⟨h1, h2, h3⟩ := txt_some ht
      simp only [Bool.not_true, Bool.false_eq_true, if_false]
      have e : (a : Int) + n + x.length = ((a + (n + x.length) : Nat) : Int) := by omega
      have hr : r = l.drop (a + (n + x.length)) := by rw [h3, List.drop_drop]
      have hb : a + (n + x.length) ≤ l.length := by rw [List.length_drop] at h1; omega
      rw [e]
      refine R_j6 K a l s i false n hn x (a + (n + x.length)) false hb hl hK (fun e => ?_) (fun e => ?_) (h _ false hb)
      · subst e
        show octs_In_Short.f _ (l.drop a) false = _
        rw [In_Short _ _ (by omega) hod (by omega), ht]
        show some (strOfNums x, r, false) = _
        rw [hr]; rfl
      · subst e
        show octs_In_Long.f _ (l.drop a) false = _
        rw [In_Long _ _ (by omega) hod (by omega), ht]
        show some (x, r, false) = _
        rw [hr]; rfl
theorem R_num (K a : Nat) (l s : List Int) (i n : Int) (bad : Bool) (ha : a ≤ l.length) (hl : l.length ≤ 600) (ho : Oct l) (hK : 40 ≤ K)
    (h : ∀ (b : Nat) (bad2 : Bool), b ≤ l.length → waybilllaw1_OctsReads.l0 K l s (b : Int) bad2 (wrap64 (i + 1)) (rdr l b bad2) bad2 = some true) :
    ((waybillref1_Num.f (K + 3) l (a : Int) (mn (mx n 1) 8)).bind fun bt206 => (if bad = true then (waybilllaw1_OctsReads.j2 (K + 3) l s (a : Int) true i n (mn (mx n 1) 8) bt206.1 (rdr l a bad) bad) else (waybilllaw1_OctsReads.j2 (K + 3) l s (a : Int) (!bt206.2) i n (mn (mx n 1) 8) bt206.1 (rdr l a bad) bad))) = some true := by
  have h8 := wd_le n
  have h1 := wd_ge n
  rw [wd_cast, Num_f _ (by omega) l a (wd n) ho h8 (by omega) (by omega), Option.bind_some]
  cases bad with
  | true =>
    rw [if_pos rfl, waybilllaw1_OctsReads.j2, if_pos rfl]
    show (octs_In_Int.f (K + 2) [] true n).bind _ = _
    rw [In_Int_bad _ _ _ (by omega), Option.bind_some, if_pos rfl]
    exact R_j8 K a l s i true ha hl (h a true ha)
  | false =>
    rw [if_neg (by simp)]
    have hrd : rdr l a false = l.drop a := rfl
    by_cases hw : a + wd n ≤ l.length
    · rw [if_pos hw, waybilllaw1_OctsReads.j2, if_neg (by simp), hrd, In_Int _ _ n (by omega) (oct_drop ho a) (by rw [List.length_drop]; omega), if_neg (by rw [List.length_drop]; omega), Option.bind_some, if_pos rfl, w64_id _ (by omega) (by omega)]
      have e : (a : Int) + (wd n : Int) = ((a + wd n : Nat) : Int) := by omega
      have e2 : (l.drop a).drop (wd n) = rdr l (a + wd n) false := by rw [List.drop_drop]; rfl
      simp only [e, e2, Bool.not_true]
      exact R_j8 K (a + wd n) l s i false hw hl (h _ false hw)
    · rw [if_neg hw, waybilllaw1_OctsReads.j2, if_pos (by rfl), hrd, In_Int _ _ n (by omega) (oct_drop ho a) (by rw [List.length_drop]; omega), if_pos (by rw [List.length_drop]; omega), Option.bind_some, if_pos rfl]
      exact R_j8 K a l s i true ha hl (h a true ha)
theorem R_rest (K a : Nat) (l s : List Int) (i : Int) (bad : Bool) (ha : a ≤ l.length) (hl : l.length ≤ 600)
    (h : ∀ (b : Nat) (bad2 : Bool), b ≤ l.length → waybilllaw1_OctsReads.l0 K l s (b : Int) bad2 (wrap64 (i + 1)) (rdr l b bad2) bad2 = some true) :
    (if bad = true then (waybilllaw1_OctsReads.j7 (K + 3) l s (a : Int) bad i ([] : List Int) (rdr l a bad) bad) else (waybilllaw1_OctsReads.j7 (K + 3) l s (l.length : Int) bad i (l.drop ((a : Nat) : Int).toNat) (rdr l a bad) bad)) = some true := by
  cases bad with
  | true =>
    rw [if_pos rfl, waybilllaw1_OctsReads.j7]
    show (octs_In_Rest.f [] true).bind _ = _
    rw [In_Rest_bad, Option.bind_some, same_self, Option.bind_some, if_pos rfl]
    exact R_j8 K a l s i true ha hl (h a true ha)
  | false =>
    rw [if_neg (by simp), waybilllaw1_OctsReads.j7]
    show (octs_In_Rest.f (l.drop a) false).bind _ = _
    rw [In_Rest _ (by rw [List.length_drop]; omega), Option.bind_some, Int.toNat_natCast, same_self, Option.bind_some, if_pos rfl]
    have e : rdr l l.length false = [] := by show l.drop l.length = []; simp
    have := R_j8 K l.length l s i false (Nat.le_refl _) hl (h l.length false (Nat.le_refl _))
    rw [e] at this
    exact this
theorem R_l0 (l s : List Int) (hl : l.length ≤ 600) (ho : Oct l) (hs : s.length ≤ 140737488351232) : ∀ (d i K a : Nat) (bad : Bool), s.length - i = d → 20 * d + 60 < K → a ≤ l.length →
    waybilllaw1_OctsReads.l0 K l s (a : Int) bad (i : Int) (rdr l a bad) bad = some true := by
  intro d
  induction d with
  | zero =>
    intro i K a bad hd hK ha
    obtain ⟨K, rfl⟩ : ∃ j, K = j + 2 := ⟨K - 2, by omega⟩
    rw [waybilllaw1_OctsReads.l0, if_neg (by omega), waybilllaw1_OctsReads.j1, if_neg (by simp)]
  | succ d ih =>
    intro i K a bad hd hK ha
    obtain ⟨K, rfl⟩ : ∃ j, K = j + 8 := ⟨K - 8, by omega⟩
    have hw : wrap64 ((i : Int) + 1) = ((i + 1 : Nat) : Int) := by rw [w64_id _ (by omega) (by omega)]; omega
    have hrec : ∀ K', 20 * d + 60 < K' → ∀ (b : Nat) (bad2 : Bool), b ≤ l.length → waybilllaw1_OctsReads.l0 K' l s (b : Int) bad2 (wrap64 ((i : Int) + 1)) (rdr l b bad2) bad2 = some true := by
      intro K' hK' b bad2 hb
      rw [hw]
      exact ih (i + 1) K' b bad2 (by omega) hK' hb
    rw [waybilllaw1_OctsReads.l0, if_pos (by omega), waybilllaw1_OctsReads.j1]
    by_cases h60 : (i : Int) < 60
    · rw [decide_eq_true h60, if_pos rfl, if_pos (by omega), if_pos (by omega)]
      obtain ⟨c, hc⟩ : ∃ c, Go.bits .and .i64 (rd s (i : Int)) 3 = c := ⟨_, rfl⟩
      rw [hc]
      by_cases c0 : c = 0
      · rw [if_pos c0]
        exact R_num (K + 3) a l s i _ bad ha hl ho (by omega) (hrec _ (by omega))
      rw [if_neg c0]
      have key : ∀ f : Bool, (f = true → c = 1 ∨ c = 2) → waybilllaw1_OctsReads.j3 (K + 6) l s (a : Int) bad (i : Int) f (rdr l a bad) bad = some true := by
        intro f hf
        rw [waybilllaw1_OctsReads.j3]
        cases f with
        | true =>
          rw [if_pos rfl, if_pos (by omega), if_pos (by omega), hc]
          by_cases c2 : c = 2
          · rw [if_pos c2]
            exact R_j4 K a l s i bad 4 (.inr rfl) ha hl ho (by omega) (hrec _ (by omega))
          · rw [if_neg c2]
            exact R_j4 K a l s i bad 1 (.inl rfl) ha hl ho (by omega) (hrec _ (by omega))
        | false =>
          rw [if_neg (by simp), if_pos (by omega), if_pos (by omega)]
          by_cases c7 : Go.bits .and .i64 (rd s (i : Int) / 4) 7 = 0
          · rw [if_pos c7, if_pos (by omega), if_pos (by omega)]
            exact R_rest (K + 2) a l s i bad ha hl (hrec _ (by omega))
          · rw [if_neg c7]
            exact hrec _ (by omega) a bad ha
      by_cases c1 : c = 1
      · rw [if_pos c1]
        exact key _ (fun _ => .inl c1)
      · rw [if_neg c1]
        exact key _ (fun h => .inr (by simpa using h))
    · rw [decide_eq_false h60, if_neg (by simp)]
theorem OctsReads : waybilllaw1_OctsReads.Pure := by
  intro l s _ hl ho _ hs _
  have hoo := oct_wf ho
  refine ⟨20 * s.length + 100, ?_⟩
  unfold waybilllaw1_OctsReads.f octs_From.f
  have haw := awake1_ok (20 * s.length + 100) (by omega)
  by_cases h : (l.length : Int) > 600
  · rw [if_pos h, haw, Option.bind_some]
  · rw [if_neg h, Option.bind_some, haw, Option.bind_some, if_pos rfl]
    exact R_l0 l s (by omega) hoo (by omega) s.length 0 _ 0 false (by omega) (by omega) (by omega)
end Go.Proofs.Ytlhcjgmdcnmnnaa.Pure
