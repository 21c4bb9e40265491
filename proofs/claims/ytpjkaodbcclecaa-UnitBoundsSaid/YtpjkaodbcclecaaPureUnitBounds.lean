/-
Keys, values and units go up to their bounds; one more of anything is none.
-/
import Derived.Test.YtpjkaodbcclecaaPAx23
import Derived.Test.YtpjkaodbcclecaaAUnitLib
import Derived.Test.YtpjkaodbcclecaaAOctsMask
import Derived.Test.YtpjkaodbcclecaaAOctsAwake13
namespace Go.Proofs.Ytpjkaodbcclecaa.Pure
open Go.RowKit Go.Proofs.Ytpjkaodbcclecaa.PA Go.Proofs.YtpjkaodbcclecaaW.PrintWords Go.Proofs.YtpjkaodbcclecaaW.PrintLast Go.Proofs.YtpjkaodbcclecaaW.PrintMore
set_option linter.unusedVariables false
set_option linter.unusedSimpArgs false
theorem and_small (x : Int) (m : Nat) (hm : m < 65536) : 0 ≤ Go.bits .and .i64 x (m : Int) ∧ Go.bits .and .i64 x (m : Int) ≤ (m : Int) := by
  unfold Go.bits
  have h1 : (BitVec.ofInt (IntKind.i64.bits) x &&& BitVec.ofInt (IntKind.i64.bits) (m : Int)).toNat ≤ m := by
    rw [BitVec.toNat_and]
    have : (BitVec.ofInt (IntKind.i64.bits) (m : Int)).toNat = m := by
      rw [BitVec.ofInt_natCast, BitVec.toNat_ofNat, Nat.mod_eq_of_lt (by simp only [IntKind.bits]; omega)]
    rw [this]
    exact Nat.and_le_right
  simp only []
  rw [IntKind.wrap_i64]
  omega
def kOp (V : List Int) : S38 := ⟨(⟨#[107]⟩ : ByteArray), false, V⟩
theorem kOp_good {V : List Int} (h : V.length = 9993) : goodU (kOp V) = true := by
  unfold goodU kOp
  have : (⟨#[107]⟩ : ByteArray).size = 1 := rfl
  simp only [this, h]
  decide
theorem kOp_len {V : List Int} (h : V.length = 9993) : (opOct (kOp V)).length = 10000 := by
  rw [opOct_len]
  have : (kOp V).f0.size = 1 := rfl
  have h2 : (kOp V).f2 = V := rfl
  have h3 : (kOp V).f1 = false := rfl
  rw [this, h2, h3, h]
  rfl
theorem app_rep {V : List Int} (h : V.length = 9993) : ∀ (n m : Nat) (b : List Int), b.length = 10000 * m → m ≤ 19 →
    (m + n ≤ 19 → (appU b (List.replicate n (kOp V))).2 = true ∧ (appU b (List.replicate n (kOp V))).1.length = 10000 * (m + n)) ∧ (¬ m + n ≤ 19 → (appU b (List.replicate n (kOp V))).2 = false) := by
  intro n
  induction n with
  | zero =>
    intro m b hb hm
    exact ⟨fun _ => ⟨rfl, hb⟩, fun h2 => absurd hm (by omega)⟩
  | succ n ih =>
    intro m b hb hm
    have hl : (b ++ opOct (kOp V)).length = 10000 * (m + 1) := by rw [List.length_append, kOp_len h]; omega
    rw [List.replicate_succ, appU, if_pos (kOp_good h)]
    by_cases h19 : m = 19
    · rw [if_pos (by omega)]
      exact ⟨fun h2 => absurd h2 (by omega), fun _ => rfl⟩
    · rw [if_neg (by omega)]
      have := ih (m + 1) (b ++ opOct (kOp V)) hl (by omega)
      exact ⟨fun h2 => by have := this.1 (by omega); exact ⟨this.1, by rw [this.2]; omega⟩, fun h2 => this.2 (by omega)⟩
theorem rep_snoc {α : Type} (n : Nat) (x : α) : List.replicate n x ++ [x] = List.replicate (n + 1) x := by rw [List.replicate_succ', ]
/-- The end of the law, once all is counted. -/
theorem Bounds_end (K : Nat) (hK : 100 ≤ K) (x0 x1 : Int) (n : Nat) (hx0 : 127 ≤ x0 ∧ x0 ≤ 134) (hx1 : 10996 ≤ x1 ∧ x1 ≤ 11003) (hn : n ≤ 31) (b : List Int) (ok is no : Bool)
    (hok : ok = decide (x0 ≤ 130 ∧ x1 ≤ 11000)) (hb : ok = true → (b.length : Int) = 6 + x0 + x1) (his : is = false) (hno : no = false) (q : List Int × Bool) (V : List Int) (hV : V.length = 9993) (l : List S38) (hl : l = List.replicate n (kOp V)) (hq : unit_Append.f K l = some q) :
    waybilllaw13_UnitBounds.l1 (K + 1) x0 x1 (n : Int) b ok is no l (n : Int) = some true := by
  have haw := awake13_ok K (by omega)
  have hA : q = appU [] l := by
    have := AppendU K l (by rw [hl, List.length_replicate]; omega) (by rw [hl, List.length_replicate]; omega)
    exact Option.some.inj (hq.symm.trans this)
  have hr := app_rep hV n 0 [] rfl (by omega)
  rw [← hl, ← hA] at hr
  have hr1 : q.2 = decide ((n : Int) ≤ 19) := by
    by_cases h : n ≤ 19
    · rw [(hr.1 (by omega)).1, decide_eq_true (by omega)]
    · rw [hr.2 (by omega), decide_eq_false (by omega)]
  have hr2 : q.2 = true → (q.1.length : Int) = wrap64 (10000 * (n : Int)) := by
    intro h
    rw [hr1, decide_eq_true_iff] at h
    have := (hr.1 (by omega)).2
    rw [w64_id _ (by omega) (by omega)]
    omega
  have hw : wrap64 (wrap64 (6 + x0) + x1) = 6 + x0 + x1 := by rw [w64_id (6 + x0) (by omega) (by omega), w64_id _ (by omega) (by omega)]
  have e1 : (q.2 == decide ((n : Int) ≤ 19)) = true := by rw [hr1]; exact beq_self_eq_true _
  rw [waybilllaw13_UnitBounds.l1, if_neg (by omega), hq, Option.bind_some, hw, his, hno]
  clear hr hA hw hr1
  by_cases h0 : x0 ≤ 130
  · rw [if_pos h0]
    have e0 : (ok == decide (x1 ≤ 11000)) = true := by
      rw [hok, beq_iff_eq]
      by_cases h1 : x1 ≤ 11000
      · rw [decide_eq_true (by omega), decide_eq_true h1]
      · rw [decide_eq_false (by omega), decide_eq_false h1]
    rw [if_pos e0]
    by_cases h2 : ok = true
    · rw [if_pos h2, if_pos (hb h2), if_neg (by simp), if_neg (by simp), if_pos e1]
      by_cases h3 : q.2 = true
      · rw [if_pos h3, if_pos (hr2 h3), haw, Option.bind_some]
      · rw [if_neg h3, haw, Option.bind_some]
    · rw [if_neg h2, if_neg (by simp), if_neg (by simp), if_pos e1]
      by_cases h3 : q.2 = true
      · rw [if_pos h3, if_pos (hr2 h3), haw, Option.bind_some]
      · rw [if_neg h3, haw, Option.bind_some]
  · rw [if_neg h0]
    have e0 : ok = false := by rw [hok, decide_eq_false (by omega)]
    rw [e0, if_pos (by simp), if_neg (by simp), if_neg (by simp), if_neg (by simp), if_pos e1]
    by_cases h3 : q.2 = true
    · rw [if_pos h3, if_pos (hr2 h3), haw, Option.bind_some]
    · rw [if_neg h3, haw, Option.bind_some]
theorem Bounds_l1 (x0 x1 : Int) (n : Nat) (hx0 : 127 ≤ x0 ∧ x0 ≤ 134) (hx1 : 10996 ≤ x1 ∧ x1 ≤ 11003) (hn : n ≤ 31) (b : List Int) (ok is no : Bool)
    (hok : ok = decide (x0 ≤ 130 ∧ x1 ≤ 11000)) (hb : ok = true → (b.length : Int) = 6 + x0 + x1) (his : is = false) (hno : no = false) : ∀ (d i K : Nat) (l : List S38), n - i = d → i ≤ n → d + 110 < K → l = List.replicate i (kOp (List.replicate 9993 0)) →
    waybilllaw13_UnitBounds.l1 K x0 x1 (n : Int) b ok is no l (i : Int) = some true := by
  intro d
  induction d with
  | zero =>
    intro i K l hd hi hK hl
    obtain ⟨K, rfl⟩ : ∃ j, K = j + 1 := ⟨K - 1, by omega⟩
    have hin : i = n := by omega
    subst hin
    have hV : (List.replicate 9993 (0 : Int)).length = 9993 := List.length_replicate
    have := AppendU K l (by rw [hl, List.length_replicate]; omega) (by rw [hl, List.length_replicate]; omega)
    exact Bounds_end K (by omega) x0 x1 i hx0 hx1 hn b ok is no hok hb his hno _ _ hV l hl this
  | succ d ih =>
    intro i K l hd hi hK hl
    obtain ⟨K, rfl⟩ : ∃ j, K = j + 1 := ⟨K - 1, by omega⟩
    have hll : l.length = i := by rw [hl, List.length_replicate]
    have hw : wrap64 ((i : Int) + 1) = ((i + 1 : Nat) : Int) := by rw [w64_id _ (by omega) (by omega)]; omega
    rw [waybilllaw13_UnitBounds.l1, if_pos (by omega), if_pos (by omega), if_pos (by omega), hw]
    exact ih (i + 1) K _ (by omega) (by omega) (by omega) (by rw [hl]; exact rep_snoc i _)
theorem appU_one (x : S38) : appU [] [x] = if goodU x = true then (if (opOct x).length > 190000 then ([], false) else (opOct x, true)) else ([], false) := by
  rw [appU, List.nil_append, appU]
theorem Bounds_l0 (x1 : Int) (m n : Nat) (hx0 : 127 ≤ m ∧ m ≤ 134) (hx1 : 10996 ≤ x1 ∧ x1 ≤ 11003) (hn : n ≤ 31) : ∀ (d i K : Nat) (s : ByteArray), m - i = d → i ≤ m → d + 200 < K → s.size = i →
    waybilllaw13_UnitBounds.l0 K (m : Int) x1 (n : Int) s (i : Int) = some true := by
  intro d
  induction d with
  | zero =>
    intro i K s hd hi hK hs
    obtain ⟨K, rfl⟩ : ∃ j, K = j + 1 := ⟨K - 1, by omega⟩
    have him : i = m := by omega
    subst him
    obtain ⟨V, hV0, hV⟩ : ∃ V : List Int, V = List.replicate x1.toNat 0 ∧ V.length = x1.toNat := ⟨_, rfl, List.length_replicate⟩
    obtain ⟨x, hx⟩ : ∃ x : S38, x = ⟨s, false, V⟩ := ⟨_, rfl⟩
    have f0 : x.f0.size = i := by rw [hx]; exact hs
    have f1 : x.f1 = false := by rw [hx]
    have f2 : x.f2.length = x1.toNat := by rw [hx]; exact hV
    have hg : goodU x = decide ((i : Int) ≤ 130 ∧ x1 ≤ 11000) := by
      unfold goodU
      rw [f0, f1, f2, Bool.eq_iff_iff, decide_eq_true_iff, decide_eq_true_iff]
      constructor
      · intro h; exact ⟨by omega, by omega⟩
      · intro h; exact ⟨by omega, by omega, by omega, fun h => by cases h⟩
    have hol : (opOct x).length = 2 + i + (4 + x1.toNat) := by rw [opOct_len, f0, f1, f2]; rfl
    have a1 := AppendU K [x] (by simp) (by simp; omega)
    have a2 := AppendU K [(⟨(⟨#[107]⟩ : ByteArray), true, [120]⟩ : S38)] (by simp) (by simp; omega)
    have a3 := AppendU K [(⟨(⟨#[]⟩ : ByteArray), false, []⟩ : S38)] (by simp) (by simp; omega)
    have g2 : (appU [] [(⟨(⟨#[107]⟩ : ByteArray), true, [120]⟩ : S38)]).2 = false := by decide
    have g3 : (appU [] [(⟨(⟨#[]⟩ : ByteArray), false, []⟩ : S38)]).2 = false := by decide
    have g1 : (appU [] [x]).2 = decide ((i : Int) ≤ 130 ∧ x1 ≤ 11000) ∧ ((appU [] [x]).2 = true → ((appU [] [x]).1.length : Int) = 6 + (i : Int) + x1) := by
      rw [appU_one, ← hg]
      by_cases h : goodU x = true
      · rw [if_pos h, if_neg (by omega)]
        exact ⟨h.symm, fun _ => by show ((opOct x).length : Int) = _; omega⟩
      · rw [if_neg h]
        exact ⟨by simpa using h, fun h => by cases h⟩
    rw [waybilllaw13_UnitBounds.l0, if_neg (by omega), if_pos (by omega), if_pos (by omega), ← hV0, ← hx, a1, Option.bind_some, a2, Option.bind_some, a3, Option.bind_some]
    exact Bounds_l1 (i : Int) x1 n (by omega) hx1 hn _ _ _ _ g1.1 g1.2 g2 g3 n 0 K [] (by omega) (by omega) (by omega) rfl
  | succ d ih =>
    intro i K s hd hi hK hs
    obtain ⟨K, rfl⟩ : ∃ j, K = j + 1 := ⟨K - 1, by omega⟩
    have hw : wrap64 ((i : Int) + 1) = ((i + 1 : Nat) : Int) := by rw [w64_id _ (by omega) (by omega)]; omega
    rw [waybilllaw13_UnitBounds.l0, if_pos (by omega), if_pos (by omega), hw]
    exact ih (i + 1) K _ (by omega) (by omega) (by omega) (by rw [ByteArray.size_append, hs]; rfl)
theorem UnitBounds : waybilllaw13_UnitBounds.Pure := by
  intro a b c _ _ _
  refine ⟨400, ?_⟩
  unfold waybilllaw13_UnitBounds.f
  have ha := and_small a 7 (by omega)
  have hb := and_small b 7 (by omega)
  have hc := and_small c 31 (by omega)
  have e7 : ((7 : Nat) : Int) = 7 := rfl
  have e31 : ((31 : Nat) : Int) = 31 := rfl
  rw [e7] at ha hb
  rw [e31] at hc
  generalize Go.bits .and .i64 a 7 = x at ha ⊢
  generalize Go.bits .and .i64 b 7 = y at hb ⊢
  generalize Go.bits .and .i64 c 31 = z at hc ⊢
  rw [w64_id (127 + x) (by omega) (by omega), w64_id (10996 + y) (by omega) (by omega)]
  obtain ⟨m, hm⟩ : ∃ m : Nat, 127 + x = (m : Int) := ⟨(127 + x).toNat, by omega⟩
  obtain ⟨n, rfl⟩ : ∃ n : Nat, z = (n : Int) := ⟨z.toNat, by omega⟩
  rw [hm]
  exact Bounds_l0 (10996 + y) m n (by omega) (by omega) (by omega) m 0 400 (⟨#[]⟩ : ByteArray) (by omega) (by omega) (by omega) rfl
end Go.Proofs.Ytpjkaodbcclecaa.Pure
