/-
unit.Apply: ops done to a map from texts to texts.
-/
import Derived.Test.YtpjkaodbcclecaaPMx0
import Derived.Test.YtpjkaodbcclecaaMapWords
import Derived.WalkSpells
namespace Go.Proofs.Ytpjkaodbcclecaa.PM
open Go.RowKit Go.Proofs.YtpjkaodbcclecaaW.PrintWords Go.Proofs.YtpjkaodbcclecaaW.PrintLast Go.Proofs.YtpjkaodbcclecaaW.PrintMore
set_option linter.unusedVariables false
set_option linter.unusedSimpArgs false
def unit_Apply.ap (E : List (Lit × DataW Unit)) (x : S38) : List (Lit × DataW Unit) :=
  if x.f1 = true then ChangeMaps.delKey (Ma.key x.f0) E else ChangeMaps.putKey (Ma.key x.f0) (Ma.val (strOfNums x.f2)) E
def unit_Apply.all (E : List (Lit × DataW Unit)) (l : List S38) : List (Lit × DataW Unit) := l.foldl unit_Apply.ap E
theorem unit_Apply.ap_len (E : List (Lit × DataW Unit)) (x : S38) : (unit_Apply.ap E x).length ≤ E.length + 1 := by
  unfold unit_Apply.ap ChangeMaps.delKey ChangeMaps.putKey
  split
  · have := List.length_filter_le (ChangeMaps.notKey (Ma.key x.f0)) E; omega
  · rw [length_insert]
    have := List.length_filter_le (ChangeMaps.notKey (Ma.key x.f0)) E; omega
theorem unit_Apply.all_len (l : List S38) : ∀ E : List (Lit × DataW Unit), (unit_Apply.all E l).length ≤ E.length + l.length := by
  induction l with
  | nil => intro E; exact Nat.le_refl _
  | cons x l ih =>
    intro E
    have h1 := ih (unit_Apply.ap E x)
    have h2 := unit_Apply.ap_len E x
    show (unit_Apply.all (unit_Apply.ap E x) l).length ≤ _
    rw [List.length_cons]
    omega
theorem C_cells_to {w w' : World} {A : Option Addr} {n : Nat} {xs : List Int} (h : (Kd.int .u8).C w A n xs) (hc : ∀ a v, w.cell? a = some v → w'.cell? a = some v) : (Kd.int .u8).C w' A n xs := by
  obtain ⟨h1, h2, h3⟩ := h
  refine ⟨h1, h2, fun hn => ?_⟩
  obtain ⟨ad, e, hj⟩ := h3 hn
  refine ⟨ad, e, fun j p hp => ?_⟩
  obtain ⟨cs, q1, q2, q3⟩ := hj j p hp
  exact ⟨cs, q1, q2, fun i v hi => hc _ _ (q3 i v hi)⟩
theorem grown_set {w w1 : World} {row : Option Nat} (h : w.grownBy w1 row) {g : Nat} (hg : w.heap.size ≤ g) (j : Nat) (u : Value) : w.grownBy (w1.setCell ⟨g, j, none⟩ u) row :=
  ⟨h.os, h.tape, h.output, by rw [show (w1.setCell ⟨g, j, none⟩ u).heap.size = w1.heap.size by simp]; exact h.size, fun k hk hne => (Below.heap_setCell w1 ⟨g, j, none⟩ u k (by show k ≠ g; omega)).trans (h.block k hk hne)⟩
theorem grown_below {w w1 : World} (hb : Below w.heap.size w w1) (row : Option Nat) (hs : w.heap.size ≤ w1.heap.size) : w.grownBy w1 row := ⟨hb.os, hb.tape, hb.output, hs, fun k hk _ => hb.block k hk⟩
theorem unit_Apply.take_next (E : List (Lit × DataW Unit)) (l : List S38) (i : Nat) (h : i < l.length) : unit_Apply.all E (l.take (i + 1)) = unit_Apply.ap (unit_Apply.all E (l.take i)) (rd_T38 l (i : Int)) := by
  have e : rd_T38 l (i : Int) = l[i] := by
    unfold rd_T38
    rw [Int.toNat_natCast, List.getD_eq_getElem?_getD, List.getElem?_eq_getElem h]
    rfl
  unfold unit_Apply.all
  rw [List.take_add_one, List.getElem?_eq_getElem h, e, List.foldl_append]
  rfl
set_option maxHeartbeats 8000000 in
set_option maxRecDepth 100000 in
theorem unit_Apply.calls (A : Option Addr) (c : Nat) (l : List S38) (b : Nat) (E : List (Lit × DataW Unit)) (w : World) (hr : Kd.C k38 w A l.length l) (hc : l.length ≤ c) (hm : Ma.Is Try.prog w b E) (hE : E.length + l.length < maxLen) (hk : ∀ x ∈ l, x.f0.size ≤ maxLen ∧ x.f2.length ≤ maxLen) :
    Calls Try.prog 35 #[.map (some b), .slice A l.length c] w fun e w' => e = .returned (.tuple #[]) ∧ Ma.Is Try.prog w' b (unit_Apply.all E l) ∧ w.grownBy w' (some b) := by
  have hu38 := Try.underlying38
  have HR := Aside0.mk hr
  have HC := Aside0.mk hc
  have HM := Aside0.mk hm
  have HK := Aside0.mk hk
  have HE := Aside0.mk hE
  have HL := Aside0.mk (Kd.C_max hr)
  clear hr hc hm hk hE
  have heq := run_eql_map_nil (P := Try.prog) w 61 9 9 (some b) Try.underlying61
  have HG := Aside0.mk (show w.grownBy w (some b) from ⟨rfl, rfl, rfl, Nat.le_refl _, fun _ _ _ => rfl⟩)
  go_enter Try.func35, Try.ntmps35
  go_wp2
  go_loopg [10] (l.length + 1) (fun kq v10 w' => ∃ j : Int, v10 = .int .i64 j ∧ Aside0 (0 ≤ j) ∧ Aside0 (j ≤ (l.length : Int)) ∧ Aside0 (kq + j.toNat = l.length + 1) ∧ Aside0 (Ma.Is Try.prog w' b (unit_Apply.all E (l.take j.toNat))) ∧ Aside0 (w.grownBy w' (some b)))
  case atStart => exact ⟨0, rfl, ⟨by omega⟩, ⟨by omega⟩, ⟨rfl⟩, ⟨HM.out⟩, HG⟩
  case round =>
    have HM0 := HM
    clear HM HG
    obtain ⟨j, rfl, HP, HJ, HI, HM, HG⟩ := hrel
    have hp := HP.out
    have hj := HJ.out
    by_cases c1 : j < (l.length : Int)
    · obtain ⟨k1, rfl⟩ : ∃ k1, gk = k1 + 1 := ⟨gk - 1, by have := HI.out; omega⟩
      have c1b : decide (j < (l.length : Int)) = true := decide_eq_true c1
      obtain ⟨ad, A2, c2, e, hx0, hx1, hx2, hl2, hC2⟩ := at_T38 HR.out j hp c1
      cases e
      have toWr : ∀ a v, w.cell? a = some v → wr.cell? a = some v := fun a v h => HG.out.cell h (Ma.apart HM0.out h)
      replace hx0 := toWr _ _ hx0
      replace hx1 := toWr _ _ hx1
      replace hx2 := toWr _ _ hx2
      have HC2 := Aside0.mk hC2
      have HL2 := Aside0.mk hl2
      have hjn : j.toNat < l.length := by omega
      have hmem : rd_T38 l j ∈ l := by
        unfold rd_T38
        rw [List.getD_eq_getElem?_getD, List.getElem?_eq_getElem hjn]
        exact List.getElem_mem hjn
      have HKj := Aside0.mk (HK.out _ hmem)
      have HLen := Aside0.mk (show (unit_Apply.all E (l.take j.toNat)).length < maxLen from by
        have h1 := unit_Apply.all_len (l.take j.toNat) E
        have h2 := HE.out
        rw [List.length_take] at h1
        omega)
      have HSz := Aside0.mk (show (strOfNums (rd_T38 l j).f2).size ≤ maxLen from by
        have h1 := HKj.out.2
        have h2 : (strOfNums (rd_T38 l j).f2).size = (rd_T38 l j).f2.length := by
          show (strOfNums (rd_T38 l j).f2).data.size = _
          rw [← Array.length_toList, strOfNums_data, List.length_map]
        omega)
      have HW := Aside0.mk (show wrap64 (j + 1) = j + 1 from by have := HL.out; unfold wrap64; omega)
      have p0 : (0 ≤ j) = True := eq_true hp
      have q0 : (j < (l.length : Int)) = True := eq_true c1
      clear toWr hC2 hl2 hmem
      cases hf1 : (rd_T38 l j).f1
      · rw [hf1] at hx1
        have f1A := Aside0.mk hf1
        clear hf1
        go_wp2_with (first | ((with_reducible refine gate_dst (N := 5) rfl ?_); refine box_event ?hg (N := 5) ?hd (cs := #[.string (⟨#[]⟩ : ByteArray), .bool false, .slice none 0 0]) (t := 38) ?hr ?_; (case hd => rfl); (case hg => rfl); (case hr => first | (go_simp; done) | (go_simp; rfl)); intro gb hg w1 hbox hb; have BK := Aside0.mk hbox; have HM1 := Aside0.mk (Ma.below HM.out hb); have HG1 := Aside0.mk (HG.out.trans (grown_below hb (some b) (by have := blk_lt hbox; omega))); have NE := Aside0.mk (show b ≠ gb from by have := Ma.lt HM.out; omega); have GE := Aside0.mk (show w.heap.size ≤ gb from by have := HG.out.size; omega); clear hbox hb hg; have hcz0 : w1.cell? ⟨gb, 0, none⟩ = some (.string (⟨#[]⟩ : ByteArray)) := (blk_cell BK.out 0).trans rfl; have hcz1 : w1.cell? ⟨gb, 1, none⟩ = some (.bool false) := (blk_cell BK.out 1).trans rfl; have hcz2 : w1.cell? ⟨gb, 2, none⟩ = some (.slice none 0 0) := (blk_cell BK.out 2).trans rfl; have hfz0 := blk_frozen BK.out 0; have hfz1 := blk_frozen BK.out 1; have hfz2 := blk_frozen BK.out 2) | ((with_reducible refine gate_store (t := 38) (p := 5) rfl ?_); refine store_event (t := 38) (p := 5) (v := ?vo_w2) (w1 := (((w1.setCell ⟨gb, 0, none⟩ (.string (rd_T38 l j).f0)).setCell ⟨gb, 1, none⟩ (.bool false)).setCell ⟨gb, 2, none⟩ (.slice A2 (rd_T38 l j).f2.length c2))) ?hg ?ho ?hn ?hr ?_; (case ho => rfl); (case hg => rfl); (case hn => rfl); (case hr => first | (go_simp; done) | (go_simp; rfl)); intro w2 hw; have BK2 : Aside0 (w2.heap[gb]? = some (.cells #[.string (rd_T38 l j).f0, .bool false, .slice A2 (rd_T38 l j).f2.length c2] 38 (0, 0))) := ⟨by rw [hw]; refine blk_put (cs := #[.string (rd_T38 l j).f0, .bool false, .slice none 0 0]) ?_ 2 _ rfl; refine blk_put (cs := #[.string (rd_T38 l j).f0, .bool false, .slice none 0 0]) ?_ 1 _ rfl; refine blk_put (cs := #[.string (⟨#[]⟩ : ByteArray), .bool false, .slice none 0 0]) ?_ 0 _ rfl; exact BK.out⟩; have HM2 := Aside0.mk (show Ma.Is Try.prog w2 b (unit_Apply.all E (l.take j.toNat)) from by rw [hw]; exact Ma.far (Ma.far (Ma.far HM1.out (p := ⟨gb, 0, none⟩) NE.out _) (p := ⟨gb, 1, none⟩) NE.out _) (p := ⟨gb, 2, none⟩) NE.out _); have HG2 := Aside0.mk (show w.grownBy w2 (some b) from by rw [hw]; exact grown_set (grown_set (grown_set HG1.out GE.out _ _) GE.out _ _) GE.out _ _); clear hw; have hcy0 : w2.cell? ⟨gb, 0, none⟩ = some (.string (rd_T38 l j).f0) := (blk_cell BK2.out 0).trans rfl; have hcy1 : w2.cell? ⟨gb, 1, none⟩ = some (.bool false) := (blk_cell BK2.out 1).trans rfl; have hcy2 : w2.cell? ⟨gb, 2, none⟩ = some (.slice A2 (rd_T38 l j).f2.length c2) := (blk_cell BK2.out 2).trans rfl; have hfy0 := blk_frozen BK2.out 0; have hfy1 := blk_frozen BK2.out 1; have hfy2 := blk_frozen BK2.out 2; have hcv := Kd.C_string (P := Try.prog) (A := A2) (c := c2) Try.underlying26 Try.underlying5 Try.underlying9 (C_cells_to HC2.out (fun a v h => HG2.out.cell h (Ma.apart HM0.out h))); obtain ⟨w3, hrun, HM3, HG3⟩ := Ma.update (P := Try.prog) Try.underlying61 Try.underlying9 HM2.out (HLen.out) (rd_T38 l j).f0 (strOfNums (rd_T38 l j).f2) (HKj.out).1 (HSz.out); have HM3A := Aside0.mk HM3; have HG3A := Aside0.mk HG3; clear HM3 HG3))
        go_roundg k1
        case measure => omega
        case rel =>
          refine ⟨j + 1, by rw [HW.out], ⟨by omega⟩, ⟨by omega⟩, ⟨by have := HI.out; omega⟩, ⟨?_⟩, ⟨HG2.out.trans HG3A.out⟩⟩
          have e1 : (j + 1).toNat = j.toNat + 1 := by omega
          have e2 := unit_Apply.take_next E l j.toNat (by omega)
          rw [e1, e2, show ((j.toNat : Nat) : Int) = j by omega]
          unfold unit_Apply.ap
          rw [f1A.out]
          exact HM3A.out
      · rw [hf1] at hx1
        have f1A := Aside0.mk hf1
        clear hf1
        go_wp2_with (first | ((with_reducible refine gate_dst (N := 5) rfl ?_); refine box_event ?hg (N := 5) ?hd (cs := #[.string (⟨#[]⟩ : ByteArray), .bool false, .slice none 0 0]) (t := 38) ?hr ?_; (case hd => rfl); (case hg => rfl); (case hr => first | (go_simp; done) | (go_simp; rfl)); intro gb hg w1 hbox hb; have BK := Aside0.mk hbox; have HM1 := Aside0.mk (Ma.below HM.out hb); have HG1 := Aside0.mk (HG.out.trans (grown_below hb (some b) (by have := blk_lt hbox; omega))); have NE := Aside0.mk (show b ≠ gb from by have := Ma.lt HM.out; omega); have GE := Aside0.mk (show w.heap.size ≤ gb from by have := HG.out.size; omega); clear hbox hb hg; have hcz0 : w1.cell? ⟨gb, 0, none⟩ = some (.string (⟨#[]⟩ : ByteArray)) := (blk_cell BK.out 0).trans rfl; have hcz1 : w1.cell? ⟨gb, 1, none⟩ = some (.bool false) := (blk_cell BK.out 1).trans rfl; have hcz2 : w1.cell? ⟨gb, 2, none⟩ = some (.slice none 0 0) := (blk_cell BK.out 2).trans rfl; have hfz0 := blk_frozen BK.out 0; have hfz1 := blk_frozen BK.out 1; have hfz2 := blk_frozen BK.out 2) | ((with_reducible refine gate_store (t := 38) (p := 5) rfl ?_); refine store_event (t := 38) (p := 5) (v := ?vo_w2) (w1 := (((w1.setCell ⟨gb, 0, none⟩ (.string (rd_T38 l j).f0)).setCell ⟨gb, 1, none⟩ (.bool true)).setCell ⟨gb, 2, none⟩ (.slice A2 (rd_T38 l j).f2.length c2))) ?hg ?ho ?hn ?hr ?_; (case ho => rfl); (case hg => rfl); (case hn => rfl); (case hr => first | (go_simp; done) | (go_simp; rfl)); intro w2 hw; have BK2 : Aside0 (w2.heap[gb]? = some (.cells #[.string (rd_T38 l j).f0, .bool true, .slice A2 (rd_T38 l j).f2.length c2] 38 (0, 0))) := ⟨by rw [hw]; refine blk_put (cs := #[.string (rd_T38 l j).f0, .bool true, .slice none 0 0]) ?_ 2 _ rfl; refine blk_put (cs := #[.string (rd_T38 l j).f0, .bool false, .slice none 0 0]) ?_ 1 _ rfl; refine blk_put (cs := #[.string (⟨#[]⟩ : ByteArray), .bool false, .slice none 0 0]) ?_ 0 _ rfl; exact BK.out⟩; have HM2 := Aside0.mk (show Ma.Is Try.prog w2 b (unit_Apply.all E (l.take j.toNat)) from by rw [hw]; exact Ma.far (Ma.far (Ma.far HM1.out (p := ⟨gb, 0, none⟩) NE.out _) (p := ⟨gb, 1, none⟩) NE.out _) (p := ⟨gb, 2, none⟩) NE.out _); have HG2 := Aside0.mk (show w.grownBy w2 (some b) from by rw [hw]; exact grown_set (grown_set (grown_set HG1.out GE.out _ _) GE.out _ _) GE.out _ _); clear hw; have hcy0 : w2.cell? ⟨gb, 0, none⟩ = some (.string (rd_T38 l j).f0) := (blk_cell BK2.out 0).trans rfl; have hcy1 : w2.cell? ⟨gb, 1, none⟩ = some (.bool true) := (blk_cell BK2.out 1).trans rfl; have hcy2 : w2.cell? ⟨gb, 2, none⟩ = some (.slice A2 (rd_T38 l j).f2.length c2) := (blk_cell BK2.out 2).trans rfl; have hfy0 := blk_frozen BK2.out 0; have hfy1 := blk_frozen BK2.out 1; have hfy2 := blk_frozen BK2.out 2; obtain ⟨w3, hrun, HM3, HG3⟩ := Ma.delete (P := Try.prog) Try.underlying61 Try.underlying9 HM2.out (rd_T38 l j).f0 (HKj.out).1 0; have HM3A := Aside0.mk HM3; have HG3A := Aside0.mk HG3; clear HM3 HG3))
        go_roundg k1
        case measure => omega
        case rel =>
          refine ⟨j + 1, by rw [HW.out], ⟨by omega⟩, ⟨by omega⟩, ⟨by have := HI.out; omega⟩, ⟨?_⟩, ⟨HG2.out.trans HG3A.out⟩⟩
          have e1 : (j + 1).toNat = j.toNat + 1 := by omega
          have e2 := unit_Apply.take_next E l j.toNat (by omega)
          rw [e1, e2, show ((j.toNat : Nat) : Int) = j by omega]
          unfold unit_Apply.ap
          rw [f1A.out]
          exact HM3A.out
    · have c1b : decide (j < (l.length : Int)) = false := decide_eq_false c1
      have ej : j.toNat = l.length := by omega
      have HM' := Aside0.mk (show Ma.Is Try.prog wr b (unit_Apply.all E l) from by have h := HM.out; rw [ej, List.take_length] at h; exact h)
      go_wp2
      refine bodyPost_end (v := .tuple #[]) (results_none rfl _ _ _) rfl ?_
      exact ⟨rfl, HM'.out, HG.out⟩
end Go.Proofs.Ytpjkaodbcclecaa.PM
