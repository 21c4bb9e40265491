/-
Ops done to a row of keys and values, and ops done to a map: the row tells the map's entries, in the order of their keys.
-/
import Derived.Test.YtpjkaodbcclecaaMUnitMapDo
import Derived.WideAt
import Derived.WideShapes
namespace Go.Proofs.Ytpjkaodbcclecaa.PM
open Go.RowKit Go.WideAt Go.WideElems Go.WideShapes Go.ChangeMaps Go.Proofs.YtpjkaodbcclecaaW.PrintWords Go.Proofs.YtpjkaodbcclecaaW.PrintLast Go.Proofs.YtpjkaodbcclecaaW.PrintMore
set_option linter.unusedVariables false
set_option linter.unusedSimpArgs false
namespace UA
abbrev bs (s : ByteArray) : List UInt8 := s.data.toList
theorem less_before : ∀ a b : List UInt8, Op.bytesLess a b = bytesBefore a b
  | [], [] => rfl
  | [], _ :: _ => rfl
  | _ :: _, [] => rfl
  | a :: x, b :: y => by rw [Op.bytesLess, bytesBefore, less_before x y]
def ent (x : S70) : Lit × DataW Unit := (Ma.key x.f0, Ma.val x.f1)
def mk (x : S38) : S70 := ⟨x.f0, strOfNums x.f2⟩
def lt (a b : S70) : Prop := bytesBefore (bs a.f0) (bs b.f0) = true
def Up (L : List S70) : Prop := L.Pairwise lt
def one' : List S70 → S38 → List S70
  | [], x => if x.f1 = true then [] else [mk x]
  | y :: L, x => if bytesBefore (bs y.f0) (bs x.f0) = true then y :: one' L x
    else if bs y.f0 = bs x.f0 then (if x.f1 = true then L else mk x :: L)
    else (if x.f1 = true then y :: L else mk x :: y :: L)
theorem rd_succ (y : S70) (L : List S70) (n : Nat) : rd_T70 (y :: L) ((n + 1 : Nat) : Int) = rd_T70 L (n : Int) := by
  unfold rd_T70
  rw [Int.toNat_natCast, Int.toNat_natCast]
  rfl
theorem rd_zero (y : S70) (L : List S70) : rd_T70 (y :: L) ((0 : Nat) : Int) = y := rfl
theorem one_eq : ∀ (L : List S70) (x : S38), Map_Do.one L x = one' L x
  | [], x => by
    unfold Map_Do.one one' Map_Do.nx Map_Do.pos
    cases x.f1 <;> simp [mk]
  | y :: L, x => by
    have ih := one_eq L x
    unfold Map_Do.one at ih ⊢
    rw [one']
    by_cases h1 : bytesBefore (bs y.f0) (bs x.f0) = true
    · have hp : Map_Do.pos (y :: L) x.f0 = Map_Do.pos L x.f0 + 1 := by
        rw [Map_Do.pos, if_pos (by rw [less_before, ByteArray.toList_eq, ByteArray.toList_eq]; exact h1)]
      have hn : Map_Do.nx (y :: L) x = Map_Do.nx L x + 1 := by
        unfold Map_Do.nx
        rw [hp, rd_succ, List.length_cons]
        by_cases q : Map_Do.pos L x.f0 < L.length ∧ (rd_T70 L (Map_Do.pos L x.f0 : Nat)).f0.toList = x.f0.toList
        · rw [if_pos q, if_pos ⟨by omega, q.2⟩]
        · rw [if_neg q, if_neg (fun h => q ⟨by omega, h.2⟩)]
      rw [if_pos h1, hp, hn, List.take_succ_cons, List.drop_succ_cons, List.cons_append, List.cons_append, ih]
    · have hp : Map_Do.pos (y :: L) x.f0 = 0 := by
        rw [Map_Do.pos, if_neg (by rw [less_before, ByteArray.toList_eq, ByteArray.toList_eq]; exact h1)]
      have hn : Map_Do.nx (y :: L) x = if bs y.f0 = bs x.f0 then 1 else 0 := by
        unfold Map_Do.nx
        rw [hp, rd_zero, ByteArray.toList_eq, ByteArray.toList_eq]
        by_cases q : bs y.f0 = bs x.f0
        · rw [if_pos ⟨by simp, q⟩, if_pos q]
        · rw [if_neg (fun h => q h.2), if_neg q]
      rw [if_neg h1, hp, hn]
      by_cases q : bs y.f0 = bs x.f0
      · rw [if_pos q, if_pos q]
        cases x.f1 <;> simp [mk]
      · rw [if_neg q, if_neg q]
        cases x.f1 <;> simp [mk]
theorem one_mem {x : S38} : ∀ {L : List S70} {z : S70}, z ∈ one' L x → z ∈ L ∨ z = mk x
  | [], z, h => by
    rw [one'] at h
    split at h
    · simp at h
    · right; simpa using h
  | y :: L, z, h => by
    rw [one'] at h
    split at h
    · rcases List.mem_cons.1 h with h | h
      · left; rw [h]; exact List.mem_cons_self
      · rcases one_mem h with h | h
        · left; exact List.mem_cons_of_mem _ h
        · right; exact h
    · split at h
      · split at h
        · left; exact List.mem_cons_of_mem _ h
        · rcases List.mem_cons.1 h with h | h
          · right; exact h
          · left; exact List.mem_cons_of_mem _ h
      · split at h
        · left; exact h
        · rcases List.mem_cons.1 h with h | h
          · right; exact h
          · left; exact h
theorem one_up {x : S38} : ∀ {L : List S70}, Up L → Up (one' L x)
  | [], _ => by
    rw [one']
    split
    · exact List.Pairwise.nil
    · exact List.pairwise_singleton _ _
  | y :: L, h => by
    obtain ⟨h1, h2⟩ := List.pairwise_cons.1 h
    rw [one']
    split
    · rename_i hlt
      refine List.pairwise_cons.2 ⟨fun z hz => ?_, one_up h2⟩
      rcases one_mem hz with hz | hz
      · exact h1 z hz
      · rw [hz]; exact hlt
    · rename_i hnl
      split
      · rename_i he
        split
        · exact h2
        · refine List.pairwise_cons.2 ⟨fun z hz => ?_, h2⟩
          have := h1 z hz
          unfold lt at this ⊢
          rw [he] at this
          exact this
      · rename_i hne
        split
        · exact h
        · have hxy : bytesBefore (bs x.f0) (bs y.f0) = true := (bytes_total _ _ hne).resolve_left hnl
          refine List.pairwise_cons.2 ⟨fun z hz => ?_, h⟩
          rcases List.mem_cons.1 hz with hz | hz
          · rw [hz]; exact hxy
          · exact bytes_trans _ _ _ hxy (h1 z hz)
theorem same_key (a b : ByteArray) : (Ma.key a).sameKey (Ma.key b) = (bs a == bs b) := rfl
theorem filt_id {s : ByteArray} : ∀ {L : List S70}, (∀ y ∈ L, bs y.f0 ≠ bs s) → (L.map ent).filter (notKey (Ma.key s)) = L.map ent
  | [], _ => rfl
  | y :: L, h => by
    have h1 : notKey (Ma.key s) (ent y) = true := by
      show (!(Ma.key y.f0).sameKey (Ma.key s)) = true
      rw [same_key]
      have := h y List.mem_cons_self
      simpa using this
    rw [List.map_cons, List.filter_cons, if_pos h1, filt_id (fun z hz => h z (List.mem_cons_of_mem _ hz))]
theorem ins_front {x : S38} {L : List S70} (h : ∀ y ∈ L, bytesBefore (bs x.f0) (bs y.f0) = true) : DataW.insert (Ma.key x.f0, Ma.val (strOfNums x.f2)) (L.map ent) = (mk x :: L).map ent := by
  cases L with
  | nil => rfl
  | cons y L =>
    rw [List.map_cons, DataW.insert, if_pos (show (Ma.key x.f0).before (ent y).1 = true from h y List.mem_cons_self)]
    rfl
theorem ne_of_before {a b : List UInt8} (h : bytesBefore a b = true) : b ≠ a := fun e => by rw [e, bytes_irrefl] at h; cases h
theorem ap_one {x : S38} : ∀ {L : List S70}, Up L → unit_Apply.ap (L.map ent) x = (one' L x).map ent
  | [], _ => by
    unfold unit_Apply.ap
    rw [one']
    split <;> rfl
  | y :: L, h => by
    obtain ⟨h1, h2⟩ := List.pairwise_cons.1 h
    have ih := ap_one (x := x) h2
    unfold unit_Apply.ap delKey putKey at ih ⊢
    rw [one']
    by_cases hlt : bytesBefore (bs y.f0) (bs x.f0) = true
    · rw [if_pos hlt]
      have hk : notKey (Ma.key x.f0) (ent y) = true := by
        show (!(Ma.key y.f0).sameKey (Ma.key x.f0)) = true
        rw [same_key]
        have := (ne_of_before hlt).symm
        simpa using this
      have hnb : (Ma.key x.f0).before (ent y).1 = false := by
        show bytesBefore (bs x.f0) (bs y.f0) = false
        cases hb : bytesBefore (bs x.f0) (bs y.f0) with
        | false => rfl
        | true => have := bytes_trans _ _ _ hb hlt; rw [bytes_irrefl] at this; cases this
      rw [List.map_cons, List.filter_cons, if_pos hk]
      by_cases hd : x.f1 = true
      · rw [if_pos hd] at ih ⊢
        rw [ih]
        rfl
      · rw [if_neg hd] at ih ⊢
        rw [DataW.insert, if_neg (by rw [hnb]; decide), ih]
        rfl
    · rw [if_neg hlt]
      by_cases he : bs y.f0 = bs x.f0
      · rw [if_pos he]
        have hk : notKey (Ma.key x.f0) (ent y) = false := by
          show (!(Ma.key y.f0).sameKey (Ma.key x.f0)) = false
          rw [same_key]
          simpa using he
        have hab : ∀ z ∈ L, bytesBefore (bs x.f0) (bs z.f0) = true := fun z hz => by
          have := h1 z hz
          unfold lt at this
          rw [he] at this
          exact this
        rw [List.map_cons, List.filter_cons, hk, if_neg (show ¬ (false = true) by decide), filt_id (fun z hz => ne_of_before (hab z hz)), ins_front hab]
        split <;> rfl
      · rw [if_neg he]
        have hxy : bytesBefore (bs x.f0) (bs y.f0) = true := (bytes_total _ _ he).resolve_left hlt
        have hab : ∀ z ∈ y :: L, bytesBefore (bs x.f0) (bs z.f0) = true := fun z hz => by
          rcases List.mem_cons.1 hz with hz | hz
          · rw [hz]; exact hxy
          · exact bytes_trans _ _ _ hxy (h1 z hz)
        rw [filt_id (fun z hz => ne_of_before (hab z hz)), ins_front hab]
        split <;> rfl
theorem all_eq : ∀ (l : List S38) {L : List S70}, Up L → unit_Apply.all (L.map ent) l = (Map_Do.all L l).map ent ∧ Up (Map_Do.all L l)
  | [], L, h => ⟨rfl, h⟩
  | x :: l, L, h => by
    have h1 := all_eq l (L := one' L x) (one_up h)
    have e1 : unit_Apply.all (L.map ent) (x :: l) = unit_Apply.all (unit_Apply.ap (L.map ent) x) l := rfl
    have e2 : Map_Do.all L (x :: l) = Map_Do.all (Map_Do.one L x) l := rfl
    rw [e1, e2, one_eq, ap_one h]
    exact h1
/-- THE LAW: the row tells the map's entries. -/
theorem tells (l : List S38) : unit_Apply.all [] l = (Map_Do.all [] l).map ent ∧ Up (Map_Do.all [] l) := all_eq l List.Pairwise.nil
theorem parts (l : List S38) (k : Nat) : unit_Apply.all (unit_Apply.all [] (l.take k)) (l.drop k) = unit_Apply.all [] l := by
  unfold unit_Apply.all
  rw [← List.foldl_append, List.take_append_drop]
theorem apart_ent {L : List S70} (h : Up L) : (L.map ent).Pairwise (fun p q => p.1 ≠ q.1) := by
  rw [List.pairwise_map]
  refine h.imp ?_
  intro a b hab e
  have e : Ma.key a.f0 = Ma.key b.f0 := e
  unfold Ma.key at e
  injection e with e
  exact ne_of_before hab e.symm
theorem val_inj {a b : ByteArray} (h : Ma.val a = Ma.val b) : a = b := by
  unfold Ma.val at h
  injection h with h
  injection h with h
  have h2 : a.data = b.data := by
    apply Array.toList_inj.1 h
  cases a; cases b
  simp only at h2
  rw [h2]
/-- What a look-up tells of a key that the row has. -/
theorem told {L : List S70} (h : Up L) (i : Nat) (hi : i < L.length) {v : ByteArray} {ok : Bool} (hl : ∀ zd : DataW Unit, (DataW.map (L.map ent)).atKey (Ma.key L[i].f0) zd = if ok = true then Ma.val v else zd) : ok = true ∧ v = L[i].f1 := by
  have hm : (Ma.key L[i].f0, Ma.val L[i].f1) ∈ L.map ent := List.mem_map.2 ⟨L[i], List.getElem_mem hi, rfl⟩
  have hat := fun zd : DataW Unit => atKey_mem zd (k := Ma.key L[i].f0) trivial (apart_ent h) hm
  cases ok with
  | false =>
    have h1 := (hat (DataW.nil)).symm.trans (hl DataW.nil)
    rw [if_neg (by decide)] at h1
    unfold Ma.val at h1
    cases h1
  | true =>
    have h1 := (hat (DataW.nil)).symm.trans (hl DataW.nil)
    rw [if_pos rfl] at h1
    exact ⟨rfl, (val_inj h1).symm⟩
end UA
end Go.Proofs.Ytpjkaodbcclecaa.PM
