/-
Any ops have the octets that the document says, or are none; any octets are ops, with their places, or none.
Conditions: none but those of the statement.
-/
import Derived.Test.YtpjkaodbcclecaaPUStUnitTells
import Derived.Test.YtpjkaodbcclecaaUUnitRef
import Derived.Test.YtpjkaodbcclecaaUOctsMask
import Derived.Test.YtpjkaodbcclecaaUOctsAwake13
namespace Go.Proofs.Ytpjkaodbcclecaa.Pure
open Go.RowKit Go.Proofs.Ytpjkaodbcclecaa.PU Go.Proofs.YtpjkaodbcclecaaW.PrintWords Go.Proofs.YtpjkaodbcclecaaW.PrintLast Go.Proofs.YtpjkaodbcclecaaW.PrintMore
set_option linter.unusedVariables false
set_option linter.unusedSimpArgs false
theorem xor_oct (a b : Int) : 0 ≤ Go.bits .xor .u8 a b ∧ Go.bits .xor .u8 a b < 256 := by
  unfold Go.bits
  simp only [IntKind.bits]
  have := (BitVec.ofInt 8 a ^^^ BitVec.ofInt 8 b).isLt
  rw [IntWalk.u8_in _ (by omega)]
  omega
theorem oct_set {l : List Int} (h : Oct l) (i : Nat) (v : Int) (hv : 0 ≤ v ∧ v < 256) : Oct (l.set i v) := by
  intro x hx
  rcases List.mem_or_eq_of_mem_set hx with hx | rfl
  · exact h x hx
  · exact hv
theorem oct_pick (a b c d : List Int) (ha : Oct a) (hb : Oct b) (hc : Oct c) (hd : Oct d) (i : Nat) : Oct (([a, b, c, d] : List (List Int)).getD i []) := by
  match i with
  | 0 => exact ha
  | 1 => exact hb
  | 2 => exact hc
  | 3 => exact hd
  | n + 4 => exact oct_nil
theorem cut_in (cut : Int) (n : Nat) (hn : 1 ≤ n) : ∃ c : Int, Int.tmod (Go.bits .and .i64 cut 65535) (n : Int) = c ∧ 0 ≤ c ∧ c < (n : Int) := by
  have hm := and16 cut
  have ht := tmod_in (Go.bits .and .i64 cut 65535) (n : Int) hm.1 (by omega)
  exact ⟨_, rfl, ht.1, ht.2⟩
theorem w_next (q : Nat) (h : q < 1000000000) : wrap64 ((q : Int) + 1) = ((q + 1 : Nat) : Int) := by rw [w64_id _ (by omega) (by omega)]; omega
theorem T_l2 (x0 : List S38) (x1 : List Int) (x2 x3 x4 x11 : Int) (x14 x16 : List Int) (x17 : Int) (pl : List S51) (hn : pl.length ≤ 190001) : ∀ (d i K : Nat), pl.length - i = d → i ≤ pl.length →
    waybilllaw13_UnitTells.l2 (K + d + 1) x0 x1 x2 x3 x4 x11 x14 x16 x17 pl pl (i : Int) = waybilllaw13_UnitTells.l1 K x0 x1 x2 x3 x4 x11 x14 x16 (wrap64 (x17 + 1)) := by
  intro d
  induction d with
  | zero =>
    intro i K hd hi
    rw [waybilllaw13_UnitTells.l2, if_neg (by omega)]
  | succ d ih =>
    intro i K hd hi
    rw [show K + (d + 1) + 1 = (K + d + 1) + 1 by omega, waybilllaw13_UnitTells.l2, if_pos (by omega), if_pos (by omega), if_pos (by omega), if_neg (by simp), w_next i (by omega)]
    exact ih (i + 1) K (by omega) (by omega)
theorem plsU_len (y : List Int) : (plsU y).1.length ≤ 190001 := by
  unfold plsU
  split
  · rw [plU_len]; exact (opsU_good y).2
  · simp
theorem T_step (x0 : List S38) (raw w x : List Int) (at_ by_ cut i : Int) (hw : w.length ≤ 190000) (horaw : Oct raw) (how : Oct w) (hox : Oct x) (q : Nat) (hq : q < 4) :
    ∃ c, ∀ K, 500000 ≤ K → waybilllaw13_UnitTells.l1 (K + c) x0 raw at_ by_ cut i w x (q : Int) = waybilllaw13_UnitTells.l1 K x0 raw at_ by_ cut i w x ((q + 1 : Nat) : Int) := by
  obtain ⟨c, hc, hc0, hc1⟩ := cut_in cut (w.length + 1) (by omega)
  have hcA := Aside0.mk hc
  clear hc
  have hwl : wrap64 ((w.length : Int) + 1) = ((w.length + 1 : Nat) : Int) := w_next _ (by omega)
  have hwlA := Aside0.mk hwl
  clear hwl
  obtain ⟨y, hy⟩ : ∃ y, ([raw, x, w.take (c : Int).toNat, w] : List (List Int)).getD (q : Int).toNat [] = y := ⟨_, rfl⟩
  have hoy : Oct y := by rw [← hy]; exact oct_pick _ _ _ _ horaw hox (oct_take how _) how _
  have hpl := plsU_len y
  have hos := (opsU_good y).2
  refine ⟨(plsU y).1.length + 3, fun K hK => ?_⟩
  have q0 : (q : Int) < 4 := by omega
  have q1 : ¬ ((w.length + 1 : Nat) : Int) = 0 := by omega
  have q3 : c ≤ (w.length : Int) := by omega
  have q4 : (0 : Int) ≤ (q : Int) := by omega
  have hP := PlacesU (K + ((plsU y).1.length + 2)) y hoy (by omega)
  rw [show (if (opsU y).2 = true then (plU 0 (opsU y).1, true) else ([], false)) = plsU y from rfl] at hP
  have hO := ROps (K + ((plsU y).1.length + 2)) y hoy (by omega)
  rw [opsU_eta] at hO
  rw [show K + ((plsU y).1.length + 3) = K + ((plsU y).1.length + 2) + 1 by omega, waybilllaw13_UnitTells.l1, if_pos q0, hwlA.out, if_neg q1, hcA.out, if_pos hc0, if_pos q3, if_pos q4, Option.bind_some, hy,
    ParseU _ y hoy (by omega), Option.bind_some, hO, Option.bind_some, hP, Option.bind_some, RPlaces _ y hoy (by omega), Option.bind_some, if_neg (by simp), if_neg (by simp), SameOps_self _ _ (by omega) (by omega), Option.bind_some, if_pos rfl,
    show K + ((plsU y).1.length + 2) = (K + (plsU y).1.length + 1) + 1 by omega, waybilllaw13_UnitTells.j5, if_neg (by simp)]
  have := T_l2 x0 raw at_ by_ cut i w x (q : Int) (plsU y).1 hpl _ 0 K rfl (by omega)
  rw [show ((0 : Nat) : Int) = 0 from rfl, Nat.sub_zero] at this
  rw [this, w_next q (by omega)]
theorem T_all (x0 : List S38) (raw w x : List Int) (at_ by_ cut i : Int) (hw : w.length ≤ 190000) (horaw : Oct raw) (how : Oct w) (hox : Oct x) :
    ∃ c, ∀ K, 500000 ≤ K → waybilllaw13_UnitTells.l1 (K + c) x0 raw at_ by_ cut i w x 0 = waybilllaw13_UnitTells.l1 K x0 raw at_ by_ cut i w x 4 := by
  obtain ⟨c0, h0⟩ := T_step x0 raw w x at_ by_ cut i hw horaw how hox 0 (by omega)
  obtain ⟨c1, h1⟩ := T_step x0 raw w x at_ by_ cut i hw horaw how hox 1 (by omega)
  obtain ⟨c2, h2⟩ := T_step x0 raw w x at_ by_ cut i hw horaw how hox 2 (by omega)
  obtain ⟨c3, h3⟩ := T_step x0 raw w x at_ by_ cut i hw horaw how hox 3 (by omega)
  refine ⟨c3 + c2 + c1 + c0, fun K hK => ?_⟩
  have e0 := h0 (K + c3 + c2 + c1) (by omega)
  have e1 := h1 (K + c3 + c2) (by omega)
  have e2 := h2 (K + c3) (by omega)
  have e3 := h3 K hK
  rw [show K + (c3 + c2 + c1 + c0) = K + c3 + c2 + c1 + c0 by omega]
  exact e0.trans (e1.trans (e2.trans e3))
theorem appU_len : ∀ (l : List S38) (b : List Int), b.length ≤ 190000 → (appU b l).1.length ≤ 190000
  | [], b, h => h
  | x :: l, b, h => by
    rw [appU]
    split
    · split
      · simp
      · exact appU_len l _ (by omega)
    · simp
theorem appU_oct : ∀ (l : List S38) (b : List Int), Oct b → (∀ x ∈ l, Oct x.f2) → Oct (appU b l).1
  | [], b, h, _ => h
  | x :: l, b, h, hl => by
    rw [appU]
    split
    · split
      · exact oct_nil
      · exact appU_oct l _ (oct_app h (oct_op x (hl x (by simp)))) (fun y hy => hl y (by simp [hy]))
    · exact oct_nil
theorem T_round (x0 : List S38) (raw : List Int) (at_ by_ cut : Int) (i : Nat) (hi : i < 2) (h0 : x0.length ≤ 60) (ho : ∀ x ∈ x0, Oct x.f2) (horaw : Oct raw) :
    ∃ (c : Nat) (t : List S38), t.length ≤ 60 ∧ (∀ x ∈ t, Oct x.f2) ∧ ∀ K, 500000 ≤ K → waybilllaw13_UnitTells.l0 (K + c) x0 raw at_ by_ cut (i : Int) = waybilllaw13_UnitTells.l0 K t raw at_ by_ cut ((i + 1 : Nat) : Int) := by
  obtain ⟨w, hwd⟩ : ∃ w, (appU [] x0).1 = w := ⟨_, rfl⟩
  have hwl : w.length ≤ 190000 := by rw [← hwd]; exact appU_len x0 [] (by simp)
  have how : Oct w := by rw [← hwd]; exact appU_oct x0 [] oct_nil ho
  have hx : ∃ x : List Int, Oct x ∧ ∀ K, waybilllaw13_UnitTells.j2 (K + 2) x0 raw at_ by_ cut (i : Int) w false = waybilllaw13_UnitTells.l1 K x0 raw at_ by_ cut (i : Int) w x 0 := by
    by_cases hp : (w.length : Int) > 0
    · obtain ⟨c, hc, hc0, hc1⟩ := cut_in at_ w.length (by omega)
      refine ⟨w.set c.toNat (Go.bits .xor .u8 (rd w c) by_), oct_set how _ _ (xor_oct _ _), fun K => ?_⟩
      rw [waybilllaw13_UnitTells.j2, if_neg (by simp), Option.bind_some, if_pos (by simp; omega), Option.bind_some, List.nil_append, if_pos hp, if_neg (by omega), hc, if_pos hc0, if_pos hc1, waybilllaw13_UnitTells.j3]
    · refine ⟨w, how, fun K => ?_⟩
      rw [waybilllaw13_UnitTells.j2, if_neg (by simp), Option.bind_some, if_pos (by simp; omega), Option.bind_some, List.nil_append, if_neg hp, waybilllaw13_UnitTells.j3]
  obtain ⟨x, hox, hx⟩ := hx
  obtain ⟨c, hc⟩ := T_all x0 raw w x at_ by_ cut (i : Int) hwl horaw how hox
  obtain ⟨t, _, ht2, ht3⟩ := Tame_f 500000 x0 h0 ho (by omega)
  have htame : ∀ K, 500000 ≤ K → waybilllaw13_Tame.f K x0 = some t := fun K hK => at_rounds (g := fun k => waybilllaw13_Tame.f k x0) (fun k => waybilllaw13_Tame.mono x0 k) hK (by assumption)
  refine ⟨c + 4, t, by omega, fun z hz => (ht2 z hz).2.2.2, fun K hK => ?_⟩
  have hA := AppendU (K + c + 3) x0 (by omega) (by omega)
  have hU := RUnit (K + c + 3) x0 (by omega) (by omega)
  rw [show K + (c + 4) = (K + c + 3) + 1 by omega, waybilllaw13_UnitTells.l0, if_pos (by omega), hA, Option.bind_some, hU, Option.bind_some, if_neg (by simp), hwd, show ((strOfNums w).toList != (strOfNums w).toList) = false by simp,
    show K + c + 3 = (K + 1 + c) + 2 by omega, hx, hc (K + 1) (by omega), waybilllaw13_UnitTells.l1, if_neg (by omega), htame K hK, Option.bind_some, w_next i (by omega)]
theorem UnitTells : waybilllaw13_UnitTells.Pure := by
  intro l raw at_ by_ cut hl hraw _ _ _
  have horaw := oct_wf hraw.2
  have ho : ∀ x ∈ l, Oct x.f2 := fun x hx => oct_wf (hl.2 x hx).2.2.2
  obtain ⟨b, hb, hb2⟩ := Small_f 500000 l (by omega)
  have hsm : ∀ K, 500000 ≤ K → waybilllaw13_Small.f K l = some b := fun K hK => at_rounds (g := fun k => waybilllaw13_Small.f k l) (fun k => waybilllaw13_Small.mono l k) hK hb
  have haw : ∀ K : Nat, 500000 ≤ K → waybilllaw13_UnitTells.j0 (K + 1) l raw at_ by_ cut true = some true := by
    intro K hK
    rw [waybilllaw13_UnitTells.j0, if_pos rfl, awake13_ok K (by omega), Option.bind_some]
  cases b with
  | false =>
    refine ⟨500001, ?_⟩
    unfold waybilllaw13_UnitTells.f
    rw [hsm 500001 (by omega), Option.bind_some, if_neg (by simp)]
    exact haw 500000 (by omega)
  | true =>
    by_cases hr : (raw.length : Int) > 600
    · refine ⟨500001, ?_⟩
      unfold waybilllaw13_UnitTells.f
      rw [hsm 500001 (by omega), Option.bind_some, if_pos rfl, decide_eq_true hr]
      exact haw 500000 (by omega)
    · obtain ⟨c1, t1, h1, ho1, e1⟩ := T_round l raw at_ by_ cut 0 (by omega) (hb2 rfl) ho horaw
      obtain ⟨c2, t2, h2, ho2, e2⟩ := T_round t1 raw at_ by_ cut 1 (by omega) h1 ho1 horaw
      refine ⟨500001 + c2 + c1 + 1, ?_⟩
      unfold waybilllaw13_UnitTells.f
      rw [hsm _ (by omega), Option.bind_some, if_pos rfl, decide_eq_false hr, waybilllaw13_UnitTells.j0, if_neg (by simp)]
      have e1' := e1 (500001 + c2) (by omega)
      have e2' := e2 500001 (by omega)
      rw [show ((0 : Nat) : Int) = 0 from rfl] at e1'
      refine e1'.trans (e2'.trans ?_)
      rw [waybilllaw13_UnitTells.l0, if_neg (by omega), awake13_ok _ (by omega), Option.bind_some]
end Go.Proofs.Ytpjkaodbcclecaa.Pure
