/-
A step that the printed words lack: a string turned into octets makes a row that is only read.
Conditions: the row's types as the program's tables have them; the string no longer than an int tells.
-/
import Derived.Test.YtpjkaodbcclecaaWMore
import Derived.Test.YtpjkaodbcclecaaWFootNe
import Derived.Lib.ConvBytes
import Derived.WalkKit
import Derived.Lib.AppendStr
import Derived.Lib.SlBytesConst
set_option linter.unusedVariables false
set_option linter.unusedSimpArgs false
namespace Go.Proofs.YtpjkaodbcclecaaW.PrintWords
open Go.RowKit
namespace Kd
section
variable {P : Program} {ops : Array Oper} {rest : List Oper} {o : Oper} {a : Act} {Q : Exit → Act → World → Prop}
/-- '[]byte("..")' of a constant: a literal, and behind it the conversion to its own type: a row that is only read. -/
theorem V_const {w0 W : World} (base e t : Nat) (hgd : o.guard = none) {N : Tmp} (hd : o.dst = some N) {xs : List Int} {inner : List Value} {o2 : Oper} {N2 : Tmp} (hg2 : o2.guard = none) (hd2 : o2.dst = some N2) (ho2 : o2.op = .convert t t (.tmp N))
    (hi : inner = xs.map fun x => Value.int .u8 x)
    (hrun : (execOp a.eval o).run P W = .ok (.value (.slice (some ⟨W.heap.size, 0, none⟩) xs.length xs.length)) (W.alloc (.cells inner.toArray e)))
    (hp : ∀ v, (a.put o.dst v).eval (.tmp N) = v) (ht : P.underlying t = some (.slice e)) (he : P.underlying e = some (.int .u8)) (HB : Below base w0 W) (hbase : base ≤ W.heap.size) (hm : xs.length ≤ 9223372036854775807)
    (h : ∀ v1 w1, Kd.V (Kd.int .u8) e w1 base (fun k_ => W.heap.size ≤ k_) v1 xs → Below base w0 w1 → W.grownBy w1 none → (∃ b, v1.ownBlock = some b ∧ W.heap.size ≤ b) → wpList P ops Q rest ((a.put o.dst v1).put o2.dst v1) w1) :
    wpList P ops Q (o :: o2 :: rest) a W := by
  subst hi
  refine event_run hgd hrun ?_
  have hrun2 : (execOp (a.put o.dst (.slice (some ⟨W.heap.size, 0, none⟩) xs.length xs.length)).eval o2).run P (W.alloc (.cells (xs.map fun x => Value.int .u8 x).toArray e)) =
      .ok (.value (.slice (some ⟨W.heap.size, 0, none⟩) xs.length xs.length)) (W.alloc (.cells (xs.map fun x => Value.int .u8 x).toArray e ((xs.map fun x => Value.int .u8 x).toArray.size, (xs.map fun x => Value.int .u8 x).toArray.size + 1))) := by
    unfold execOp
    simp only [ho2, hp]
    simp [Lib.run_convert_bytes_const W t e (xs.map fun x => Value.int .u8 x).toArray xs.length xs.length ht he]
  generalize ((xs.map fun x => Value.int .u8 x).toArray.size, (xs.map fun x => Value.int .u8 x).toArray.size + 1) = fr at hrun2
  have hnew : (W.alloc (.cells (xs.map fun x => Value.int .u8 x).toArray e fr)).heap[W.heap.size]? = some (.cells (xs.map fun x => Value.int .u8 x).toArray e fr) := heap_alloc_new W _
  refine event_run hg2 hrun2 (h _ _ ⟨some ⟨W.heap.size, 0, none⟩, xs.length, rfl, Nat.le_refl _, ?_⟩ (HB.alloc hbase _) (World.grownBy_alloc W _ none) ⟨W.heap.size, by simp [Value.ownBlock], Nat.le_refl _⟩)
  intro W' hW
  refine ⟨rfl, hm, fun hn => ⟨⟨W.heap.size, 0, none⟩, rfl, fun j p hj => ⟨[.int .u8 p], rfl, rfl, fun i v hi => ?_⟩⟩⟩
  have hi0 : i = 0 := by
    have := (List.getElem?_eq_some_iff.1 hi).1
    simpa using this
  subst hi0
  have hv : v = .int .u8 p := by simpa using hi.symm
  subst hv
  have hadd : (⟨W.heap.size, 0, none⟩ : Addr).add (j * (Kd.int .u8).sz + 0) = ⟨W.heap.size, j, none⟩ := by
    show (⟨W.heap.size, 0, none⟩ : Addr).add (j * 1 + 0) = _
    unfold Addr.add
    by_cases hj0 : j = 0
    · subst hj0; rfl
    · simp [hj0]
  rw [hadd]
  have h2 := (hW W.heap.size (Nat.le_refl _) (by simp)).trans hnew
  simp only [World.cell?, h2]
  simp only [List.getElem?_toArray, List.getElem?_map, hj, Option.map_some]
  rfl
/-- append(b, s...): a string's octets behind a row of the call's own; the row is told apart from others as ever. -/
theorem R_append_str {w0 W : World} (base : Nat) (hgd : o.guard = none) (sl x : Operand) (t u e : TypeId)
    (ho : o.op = .call { callee := .builtin .append, args := #[sl, x], argTypes := #[t, u] })
    (ht : P.underlying t = some (.slice e)) (hu : P.underlying u = some .string) (hinfo : (P.info? e).map (fun i => (i.zero, i.size, i.bytes)) = some (some (.int .u8 0), 1, 1))
    (v : Value) (xs : List Int) (y : ByteArray) (ok : Nat → Prop) (hs : a.eval sl = v) (hx : a.eval x = .string y)
    (HO : (Kd.int .u8).R e W base ok v xs) (hfresh : ∀ k, W.heap.size ≤ k → ok k) (HB : Below base w0 W) (hbase : base ≤ W.heap.size) (hl : xs.length + y.size ≤ 140737488355328)
    (h : ∀ v1 w1, (Kd.int .u8).R e w1 base ok v1 (xs ++ bytesOf y) → Below base w0 w1 → W.grownBy w1 v.ownBlock → (v1.ownBlock = v.ownBlock ∨ ∃ b, v1.ownBlock = some b ∧ W.heap.size ≤ b) → wpList P ops Q rest (a.put o.dst v1) w1) :
    wpList P ops Q (o :: rest) a W := by
  obtain ⟨i0, hi, hzz⟩ := Option.map_eq_some_iff.1 hinfo
  simp only [Prod.mk.injEq] at hzz
  obtain ⟨hz0, hz1, hz2⟩ := hzz
  have hown := Kd.own_of_R HO
  have hm : xs.length + y.size ≤ maxLen := by simp only [maxLen]; omega
  obtain ⟨v1, w1, hr, h2, h3, _⟩ := Lib.run_append_own_string (P := P) W base t u o.type e i0 ht hu hi hz0 hz1 hz2 v xs.length _ hown y hm hl hbase
  have hat : v1.ownBlock = v.ownBlock ∨ ∃ b, v1.ownBlock = some b ∧ W.heap.size ≤ b := by
    have hown' := hown
    rcases hown.2 with ⟨rfl, h0⟩ | ⟨g, cap, cur, rfl, hbg, hg, hnc, hcm, hcs, htake⟩
    · have hn : W.ownsRow W.heap.size e 1 (.slice none 0 0) xs.length (encs (Value.int .u8) xs) := ⟨hown.1, .inl ⟨rfl, h0⟩⟩
      obtain ⟨v2, w2, hr2, h22, _, _⟩ := Lib.run_append_own_string (P := P) W W.heap.size t u o.type e i0 ht hu hi hz0 hz1 hz2 (.slice none 0 0) xs.length _ hn y hm hl (Nat.le_refl _)
      rw [hr] at hr2
      injection hr2 with e1 e2
      subst e1
      rcases h22.2 with ⟨rfl, _⟩ | ⟨g, cap, cur, rfl, hbg, _⟩
      · exact .inl rfl
      · exact .inr ⟨g, rfl, hbg⟩
    · by_cases hroom : xs.length + y.size ≤ cap
      · have hr2 := Lib.run_append_room_string (P := P) W t u o.type e i0 ht hu hi hz1 g xs.length cap cur hg y hroom (by omega)
        rw [hr] at hr2
        injection hr2 with e1 e2
        subst e1
        exact .inl rfl
      · have holds := hown.cells (g := g) rfl
        have hr2 := Lib.run_append_grow_string (P := P) W t u o.type e i0 (.int .u8 0) ht hu hi hz0 ⟨g, 0, none⟩ xs.length cap _ (by rw [hz1]; simpa using hown.1) holds y (by omega) (by omega) (by rw [hz2]; exact growslice_fits (by omega) (by omega))
        rw [hr] at hr2
        injection hr2 with e1 e2
        subst e1
        exact .inr ⟨W.heap.size, rfl, Nat.le_refl _⟩
  refine wpList_plain hgd fun K hK => ?_
  unfold Oper.wp execOp
  simp only [ho, resolve, invoke, builtin, Sem.run_bind, Sem.run_pure, Result.andThen_ok, List.map_toArray, List.map_cons, List.map_nil, hs, hx, hr]
  refine hK _ _ (h v1 w1 ?_ (HB.grown h3 hbase (own_base hown)) h3 hat)
  have hl2 : (xs ++ bytesOf y).length = xs.length + y.size := by rw [List.length_append, bytesOf_length]
  have hc : encs (Value.int .u8) (xs ++ bytesOf y) = encs (Value.int .u8) xs ++ Lib.strCells y := by
    unfold encs
    rw [List.map_append]
    congr 1
    unfold bytesOf Lib.strCells
    rw [List.map_map]
    rfl
  refine Kd.R_of_own (by rw [hl2, hc]; exact h2) (fun k hk => ?_)
  rcases hat with hat | ⟨b, hb, hlt⟩
  · exact HO.1 k (by rw [← hat]; exact hk)
  · rw [hb] at hk
    injection hk with hk
    exact hfresh k (by omega)
/-- What is only read and not empty lies in its blocks: none of these is another one. -/
theorem V_away {α : Type} {d : Kd α} {e base n c g : Nat} {ok : Nat → Prop} {W : World} {ad : Addr} {xs : List α} (h : Kd.V d e W base ok (.slice (some ad) n c) xs) (hok : ∀ k, ok k → k ≠ g) (hn : 0 < n := by omega) (hs : 0 < d.sz := by decide) : some g ≠ (Value.slice (some ad) n c).ownBlock := fun he => by
  injection he with he
  exact hok _ (Kd.F_in (Kd.V_F h) rfl hn hs) he.symm
end
end Kd
namespace Kd
end Kd
end Go.Proofs.YtpjkaodbcclecaaW.PrintWords
