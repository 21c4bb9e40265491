/-
Frames behind each other are told one by one, to the last octet.
-/
import Derived.Test.YtlhcjgmdcnmnnaaPAStFramRows
import Derived.Test.YtlhcjgmdcnmnnaaAFramTxt
import Derived.Test.YtlhcjgmdcnmnnaaAOctsAwake3
namespace Go.Proofs.Ytlhcjgmdcnmnnaa.Pure
open Go.RowKit Go.Proofs.Ytlhcjgmdcnmnnaa.PA Go.Proofs.YtlhcjgmdcnmnnaaW.PrintWords Go.Proofs.YtlhcjgmdcnmnnaaW.PrintLast Go.Proofs.YtlhcjgmdcnmnnaaW.PrintMore
set_option linter.unusedVariables false
set_option linter.unusedSimpArgs false
def rowsF : List S68 → List Int
  | [] => []
  | x :: l => frame x.f0 x.f1 x.f2 ++ rowsF l
theorem rowsF_app (a : List S68) (x : S68) : rowsF (a ++ [x]) = rowsF a ++ frame x.f0 x.f1 x.f2 := by
  induction a with
  | nil => simp [rowsF]
  | cons y a ih => simp [rowsF, ih, List.append_assoc]
def good (x : S68) : Prop := frameOk x.f0 x.f1 x.f2 = true ∧ Oct x.f2
theorem rowsF_oct (l : List S68) (h : ∀ x ∈ l, good x) : Oct (rowsF l) := by
  induction l with
  | nil => exact oct_nil
  | cons x l ih => exact oct_app (frame_oct _ _ (h x (by simp)).2) (ih fun y hy => h y (by simp [hy]))
theorem rowsF_len (l : List S68) (h : ∀ x ∈ l, good x) : (rowsF l).length ≤ l.length * 4096 := by
  induction l with
  | nil => simp [rowsF]
  | cons x l ih =>
    have h1 := ih fun y hy => h y (by simp [hy])
    have h2 := (ok_of (h x (by simp)).1).2.2.2
    have h3 := frame_len x.f0 x.f1 x.f2
    simp only [rowsF, List.length_append, List.length_cons]
    omega
theorem rd_S (l : List S68) (i : Nat) (h : i < l.length) : rd_T68 l (i : Int) = l[i] := by
  unfold rd_T68
  rw [Int.toNat_natCast, List.getD_eq_getElem?_getD, List.getElem?_eq_getElem h]
  rfl
theorem Rows_step (k : Nat) (hk : 20 ≤ k) (l : List S68) (j : Nat) (hj : j < l.length) (hl : l.length ≤ 8) (x : S68) (hx : rd_T68 l (j : Int) = x) (F r : List Int) (n : Nat) (hn : n = 8 + x.f2.length) (hb : x.f2.length ≤ 4088)
    (hp : fram_Parse.f k F = some (x.f0, x.f1, x.f2, (n : Int), 0)) (hF : n ≤ F.length) (hr : F.drop n = r) :
    waybilllaw3_FramRows.l1 (k + 1) F l (j : Int) = waybilllaw3_FramRows.l1 k r l ((j + 1 : Nat) : Int) := by
  have e8 : wrap64 (8 + (x.f2.length : Int)) = (n : Int) := by rw [w64_id _ (by omega) (by omega)]; omega
  have e1 : wrap64 ((j : Int) + 1) = ((j + 1 : Nat) : Int) := by rw [w64_id _ (by omega) (by omega)]; omega
  generalize ht : (x.f0, x.f1, x.f2, (n : Int), (0 : Int)) = t at hp
  have t4 : t.2.2.2.2 = 0 := by rw [← ht]
  have t3 : t.2.2.2.1 = (n : Int) := by rw [← ht]
  have t2 : t.2.2.1 = x.f2 := by rw [← ht]
  have t1 : t.2.1 = x.f1 := by rw [← ht]
  have t0 : t.1 = x.f0 := by rw [← ht]
  clear ht
  rw [waybilllaw3_FramRows.l1, if_pos (by omega), hx, hp, Option.bind_some, if_pos t4, if_pos (by omega), t3, e8, e1, if_pos rfl, if_neg (by omega), t2, t1, t0, same_f, Option.bind_some, if_pos rfl, if_pos (by omega), if_pos (by omega), Int.toNat_natCast, hr]
theorem Rows_l1 (l : List S68) (h : ∀ x ∈ l, good x) (hl : l.length ≤ 8) : ∀ (d j k : Nat), l.length - j = d → j ≤ l.length → d + 40 < k →
    waybilllaw3_FramRows.l1 k (rowsF (l.drop j)) l (j : Int) = some true := by
  intro d
  induction d with
  | zero =>
    intro j k hd hj hk
    obtain ⟨k, rfl⟩ : ∃ i, k = i + 1 := ⟨k - 1, by omega⟩
    rw [waybilllaw3_FramRows.l1, if_neg (by omega), List.drop_of_length_le (by omega), awake3_ok k (by omega)]
    rfl
  | succ d ih =>
    intro j k hd hj hk
    obtain ⟨k, rfl⟩ : ∃ i, k = i + 1 := ⟨k - 1, by omega⟩
    have hjl : j < l.length := by omega
    have hx := h _ (List.getElem_mem hjl)
    have hb := (ok_of hx.1).2.2.2
    have hd1 : rowsF (l.drop j) = frame l[j].f0 l[j].f1 l[j].f2 ++ rowsF (l.drop (j + 1)) := by rw [List.drop_eq_getElem_cons hjl]; rfl
    have hall : ∀ y ∈ l.drop j, good y := fun y hy => h y (List.mem_of_mem_drop hy)
    have hlen := rowsF_len _ hall
    rw [List.length_drop] at hlen
    have ho := rowsF_oct _ hall
    have hfl := frame_len l[j].f0 l[j].f1 l[j].f2
    have hlen2 : (rowsF (l.drop j)).length = 8 + l[j].f2.length + (rowsF (l.drop (j + 1))).length := by rw [hd1, List.length_append, hfl]
    have hp : fram_Parse.f k (rowsF (l.drop j)) = some (l[j].f0, l[j].f1, l[j].f2, ((8 + l[j].f2.length : Nat) : Int), 0) := by
      rw [Parse_f k (by omega) _ ho (by omega), hd1, parse_frame _ _ _ _ hx.1]
      rfl
    rw [Rows_step k (by omega) l j hjl hl l[j] (rd_S l j hjl) (rowsF (l.drop j)) (rowsF (l.drop (j + 1))) (8 + l[j].f2.length) rfl hb hp (by omega) (by rw [hd1, ← hfl, List.drop_left])]
    exact ih (j + 1) k (by omega) (by omega) (by omega)
theorem Rows_l0 (x0 : List S68) (hx : ∀ x ∈ x0, Oct x.f2) (hx0 : x0.length ≤ maxLen) : ∀ (d i k : Nat) (l : List S68), 8 - i = d → i ≤ 8 → i ≤ x0.length → l.length ≤ i → (∀ x ∈ l, good x) → 2 * d + 80 < k →
    waybilllaw3_FramRows.l0 k x0 (rowsF l) l (i : Int) = some true := by
  intro d
  induction d with
  | zero =>
    intro i k l hd hi hix hl h hk
    obtain ⟨k, rfl⟩ : ∃ j, k = j + 1 + 1 := ⟨k - 2, by omega⟩
    have : waybilllaw3_FramRows.j1 (k + 1) x0 (rowsF l) l (i : Int) false = some true := by
      rw [waybilllaw3_FramRows.j1, if_neg (by simp)]
      have := Rows_l1 l h (by omega) l.length 0 k (by omega) (by omega) (by omega)
      simpa using this
    rw [waybilllaw3_FramRows.l0]
    by_cases h1 : (i : Int) < (x0.length : Int)
    · rw [if_pos h1, decide_eq_false (by omega), this]
    · rw [if_neg h1, this]
  | succ d ih =>
    intro i k l hd hi hix hl h hk
    obtain ⟨k, rfl⟩ : ∃ j, k = j + 1 + 1 := ⟨k - 2, by omega⟩
    rw [waybilllaw3_FramRows.l0]
    by_cases h1 : (i : Int) < (x0.length : Int)
    · have hil : i < x0.length := by omega
      have hlen := rowsF_len l h
      rw [if_pos h1, decide_eq_true (by omega), waybilllaw3_FramRows.j1, if_pos rfl, if_pos (by omega), if_pos h1, rd_S x0 i hil]
      by_cases h2 : (x0[i].f2.length : Int) > 4200
      · rw [if_pos h2, awake3_ok k (by omega)]
        rfl
      · rw [if_neg h2, Append_f k (by omega) _ _ _ _ (by omega)]
        simp only [Option.bind_some]
        have hi1 : (i : Int) + 1 = ((i + 1 : Nat) : Int) := by omega
        have hfl := frame_len x0[i].f0 x0[i].f1 x0[i].f2
        rw [w64_id _ (by omega) (by omega), hi1]
        by_cases h3 : frameOk x0[i].f0 x0[i].f1 x0[i].f2 = true
        · rw [if_pos h3]
          simp only []
          rw [decide_eq_true (by rw [List.length_append]; omega), if_neg (by decide), if_pos trivial, if_pos (by omega), ← rowsF_app l x0[i]]
          exact ih (i + 1) k (l ++ [x0[i]]) (by omega) (by omega) (by omega) (by simp; omega) (fun y hy => by
            rcases List.mem_append.1 hy with hy | hy
            · exact h y hy
            · rw [List.mem_singleton.1 hy]; exact ⟨h3, hx _ (List.getElem_mem hil)⟩) (by omega)
        · rw [if_neg h3]
          simp only []
          rw [decide_eq_false (by omega), if_neg (by decide), if_neg (by decide)]
          exact ih (i + 1) k l (by omega) (by omega) (by omega) (by omega) h (by omega)
    · rw [if_neg h1, waybilllaw3_FramRows.j1, if_neg (by simp)]
      have := Rows_l1 l h (by omega) l.length 0 k (by omega) (by omega) (by omega)
      simpa using this
theorem FramRows : waybilllaw3_FramRows.Pure := by
  intro l h
  refine ⟨400, ?_⟩
  unfold waybilllaw3_FramRows.f
  exact Rows_l0 l (fun x hx => oct_wf (h.2 x hx).2.2.2) h.1 8 0 400 [] (by omega) (by omega) (by omega) (by simp) (by simp) (by omega)
end Go.Proofs.Ytlhcjgmdcnmnnaa.Pure
