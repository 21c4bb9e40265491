/-
TablTells: any fields may be a table, or not, as the document says, and have the octets that it says; any octets are a table, or none.
Conditions: the fields' bulk is bounded.
-/
import Derived.Test.YtfhaffpegncdiaaBaseTablTells
import Derived.Test.YtfhaffpegncdiaaPTx16
namespace Go.Proofs.Ytfhaffpegncdiaa.Pure
open Go.RowKit Go.Proofs.Ytfhaffpegncdiaa.PT Go.Proofs.YtfhaffpegncdiaaW.PrintWords Go.Proofs.YtfhaffpegncdiaaW.PrintLast Go.Proofs.YtfhaffpegncdiaaW.PrintMore
set_option linter.unusedVariables false
set_option linter.unusedSimpArgs false
namespace Tl
open Tb
theorem xor_oct (a b : Int) : 0 ≤ Go.bits .xor .u8 a b ∧ Go.bits .xor .u8 a b < 256 := by
  unfold Go.bits
  simp only [IntKind.bits]
  have := (BitVec.ofInt 8 a ^^^ BitVec.ofInt 8 b).isLt
  rw [IntWalk.u8_in _ (by omega)]
  omega
theorem oct_set {l : List Int} (h : Oct l) (i : Nat) (v : Int) (hv : 0 ≤ v ∧ v < 256) : Oct (l.set i v) := by
  intro x hx
  rcases List.mem_or_eq_of_mem_set hx with hx | rfl
  · exact h x hx
  · exact hv
theorem oct_pick (a b c : List Int) (ha : Oct a ∧ a.length ≤ 100000) (hb : Oct b ∧ b.length ≤ 100000) (hc : Oct c ∧ c.length ≤ 100000) (i : Nat) : Oct (([a, b, c] : List (List Int)).getD i []) ∧ (([a, b, c] : List (List Int)).getD i []).length ≤ 100000 := by
  match i with
  | 0 => exact ha
  | 1 => exact hb
  | 2 => exact hc
  | n + 3 => exact ⟨oct_nil, by show 0 ≤ 100000; omega⟩
theorem cut_in (cut : Int) (n : Nat) (hn : 1 ≤ n) : ∃ c : Int, Int.tmod (Go.bits .and .i64 cut 65535) (n : Int) = c ∧ 0 ≤ c ∧ c < (n : Int) := by
  have hm := and16 cut
  have ht := tmod_in (Go.bits .and .i64 cut 65535) (n : Int) hm.1 (by omega)
  exact ⟨_, rfl, ht.1, ht.2⟩
theorem short_Sm : ∀ (m n : Nat) (l : List S24), Sm n l → short m l
  | 0, _, _, _ => trivial
  | m + 1, 0, _, h => h.elim
  | m + 1, n + 1, l, h => ⟨by have := h.1; omega, fun x hx => by
    obtain ⟨h1, h2, h3⟩ := h.2 x hx
    exact ⟨⟨by omega, by omega⟩, short_Sm m n x.f4 h3⟩⟩
theorem awake_bind : (waybilllaw2_awake.f).bind (fun t => some t) = some true := by rw [awake_ok]; rfl
theorem j0_true (k : Nat) (x0 : List Int) (x1 : List S24) (x2 x3 x4 : Int) : zfT.j0 (k + 1) x0 x1 x2 x3 x4 true = some true := by
  rw [zfT.j0.eq_2, if_pos rfl]
  exact awake_bind
theorem loop (x0 w x : List Int) (x4 : Int) (h0 : Oct x0 ∧ x0.length ≤ 100000) (hw : Oct w ∧ w.length ≤ 100000) (hx : Oct x ∧ x.length ≤ 100000) :
    ∀ (d i : Nat), i + d = 3 → ∃ k, zfT.l0 k x0 x4 w x (i : Int) = some true := by
  intro d
  induction d with
  | zero =>
    intro i hi
    refine ⟨1, ?_⟩
    rw [zfT.l0.eq_2, if_neg (by omega)]
    exact awake_bind
  | succ d ih =>
    intro i hi
    obtain ⟨k1, h1⟩ := ih (i + 1) (by omega)
    obtain ⟨c, hc, hc0, hc1⟩ := cut_in x4 (w.length + 1) (by omega)
    have hwl : wrap64 ((w.length : Int) + 1) = ((w.length + 1 : Nat) : Int) := by have := hw.2; unfold wrap64; omega
    obtain ⟨y, hy⟩ : ∃ y, (([x0, x, w.take c.toNat] : List (List Int)).getD i []) = y := ⟨_, rfl⟩
    have hyo := oct_pick x0 x (w.take c.toNat) h0 hx ⟨oct_take hw.1 _, by rw [List.length_take]; have := hw.2; omega⟩ i
    rw [hy] at hyo
    obtain ⟨k2, h2⟩ := readTable_f y hyo.1 hyo.2
    have hp := parse_f y hyo.1
    have hp : tabl_Parse.f y = some (PA y) := hp
    have hw2 : wrap64 ((i : Int) + 1) = ((i + 1 : Nat) : Int) := by unfold wrap64; omega
    have e1 := up (fun k => (zfT.mono_l k).2.2.2 x0 x4 w x ((i + 1 : Nat) : Int)) h1 k2
    have e2 := up (fun k => zfD.mono _ k) h2 k1
    refine ⟨k1 + k2 + 1, ?_⟩
    rw [zfT.l0.eq_2, if_pos (by omega), hwl, hc, if_neg (by omega), if_pos hc0, if_pos (by omega), if_pos (by omega), Int.toNat_natCast, hy, Option.bind_some, hp, Option.bind_some, show k1 + k2 = k2 + k1 by omega, e2, Option.bind_some, if_neg (by simp)]
    have hs : zfm.f (PA y).1 (PA y).1 = some true := by
      unfold zfm.f
      rw [(Tb.sameL_iff _ _).2 rfl]
    rw [hs, Option.bind_some, if_pos rfl, hw2, show k2 + k1 = k1 + k2 by omega]
    exact e1
theorem j0_false (x0 : List Int) (x1 : List S24) (x2 x3 x4 : Int) (h0 : Oct x0 ∧ x0.length ≤ 100000) (hs : Sm 12 x1) (hb : (refP 8 x1).length ≤ 1000000000) : ∃ k, zfT.j0 k x0 x1 x2 x3 x4 false = some true := by
  have ht := tame_Sm 8 12 x1 hs
  obtain ⟨k1, h1⟩ := table_f x1 (short_Sm 8 12 x1 hs) (fun _ => hb)
  obtain ⟨w, is, hr⟩ : ∃ w is, rowsP 8 x1 = (w, is) := ⟨_, _, rfl⟩
  have how : Oct w := by have h := rowsP_oct 8 x1; rw [hr] at h; exact h
  have hlw : w.length ≤ 2000 := by have h := rowsP_len 8 x1; rw [hr] at h; exact h
  have ha := append_f [7] x1 ht (by simp)
  have hk := ok_f x1 ht
  rw [hr] at h1 ha hk
  have hx : ∃ x : List Int, (Oct x ∧ x.length ≤ 100000) ∧ ∀ k, zfT.j1 (k + 2) x0 x2 x3 x4 w false = zfT.l0 k x0 x4 w x 0 := by
    have hd : ∀ k, zfT.j1 (k + 2) x0 x2 x3 x4 w false = (if (w.length : Int) > 0 then (if (w.length : Int) = 0 then (none) else (if 0 ≤ (Int.tmod (Go.bits .and .i64 x2 65535) (w.length : Int)) then (if (Int.tmod (Go.bits .and .i64 x2 65535) (w.length : Int)) < (w.length : Int) then (zfT.j2 (k + 1) x0 x4 w (w.set ((Int.tmod (Go.bits .and .i64 x2 65535) (w.length : Int)) : Int).toNat (Go.bits .xor .u8 (rd w (Int.tmod (Go.bits .and .i64 x2 65535) (w.length : Int))) x3))) else (none)) else (none))) else (zfT.j2 (k + 1) x0 x4 w w)) := fun k => by
      rw [zfT.j1.eq_2, if_neg (by simp), Option.bind_some, if_pos (by simp; omega), Option.bind_some, List.nil_append]
    by_cases hl : 0 < w.length
    · obtain ⟨c, hc, hc0, hc1⟩ := cut_in x2 w.length hl
      refine ⟨w.set c.toNat (Go.bits .xor .u8 (rd w c) x3), ⟨oct_set how _ _ (xor_oct _ _), by rw [List.length_set]; omega⟩, fun k => ?_⟩
      rw [hd, if_pos (by omega), if_neg (by omega), hc, if_pos hc0, if_pos hc1, zfT.j2.eq_2]
    · refine ⟨w, ⟨how, by omega⟩, fun k => ?_⟩
      rw [hd, if_neg (by omega), zfT.j2.eq_2]
  obtain ⟨x, hxo, hj⟩ := hx
  obtain ⟨k2, h2⟩ := loop x0 w x x4 h0 ⟨how, by omega⟩ hxo 3 0 (by omega)
  have e1 := up (fun k => waybillref1_Table.mono _ k) h1 (k2 + 2)
  have e2 := up (fun k => (zfT.mono_l k).2.2.2 x0 x4 w x ((0 : Nat) : Int)) h2 k1
  refine ⟨k1 + (k2 + 2) + 1, ?_⟩
  have hstr : ((strOfNums ([7] ++ w)).toList != ((⟨#[7]⟩ : ByteArray) ++ strOfNums w).toList) = false := by
    have : (strOfNums ([7] ++ w)).toList = ((⟨#[7]⟩ : ByteArray) ++ strOfNums w).toList := by
      rw [ByteArray.toList_eq ((⟨#[7]⟩ : ByteArray) ++ strOfNums w), ByteArray.data_append, Array.toList_append, ← ByteArray.toList_eq (strOfNums w), str_toList, str_toList]
      rfl
    rw [this]; simp
  have hn1 : ∀ b : Bool, ¬ ((b != b) = true) := fun b => by simp
  rw [zfT.j0.eq_2, if_neg (by simp), ha, Option.bind_some, e1, Option.bind_some, if_neg (hn1 _), hk, Option.bind_some, if_neg (hn1 _), if_pos (by rw [str_size]; simp only; omega)]
  simp only [hstr]
  rw [show k1 + (k2 + 2) = (k2 + k1) + 2 by omega, hj]
  exact e2
end Tl
theorem TablTells (l0 : List Int) (l1 : List S24) (a2 a3 a4 : Int) (h0 : ∀ x_ ∈ l0, (Lit.int .u8 x_).wf = true) (hb : (l1.map (Tb.bkF 8)).sum ≤ 1048576) : ∃ k, zfT.f k l0 l1 a2 a3 a4 = some true := by
  by_cases hl : (l0.length : Int) > 2100
  · refine ⟨1, ?_⟩
    unfold zfT.f
    rw [if_pos hl]
    exact Tl.j0_true 0 _ _ _ _ _
  · obtain ⟨k1, b, h1, g1⟩ := Tb.small_f 12 l1 1 (by omega) (by omega)
    cases b with
    | false =>
      have e1 := Tb.up (fun k => zfS.mono _ _ k) h1 1
      refine ⟨k1 + 1, ?_⟩
      unfold zfT.f
      rw [if_neg hl, e1, Option.bind_some]
      exact Tl.j0_true k1 _ _ _ _ _
    | true =>
      obtain ⟨k2, h2⟩ := Tl.j0_false l0 l1 a2 a3 a4 ⟨oct_wf h0, by omega⟩ (g1 rfl) (by have := Tb.ref_bulk 8 l1; omega)
      have e1 := Tb.up (fun k => zfS.mono _ _ k) h1 k2
      have e2 := Tb.up (fun k => (zfT.mono_l k).1 l0 l1 a2 a3 a4 false) h2 k1
      refine ⟨k1 + k2, ?_⟩
      unfold zfT.f
      rw [if_neg hl, e1, Option.bind_some, show k1 + k2 = k2 + k1 by omega]
      exact e2
end Go.Proofs.Ytfhaffpegncdiaa.Pure
