/-
The calls of a script, as they came in; the state of a script's play: the Tx and the row of what is wanted.
-/
import Derived.Test.YtlhcjgmdcnmnnaaTTxnsOwnOps
import Derived.Test.YtlhcjgmdcnmnnaaTTxnsAwake
import Derived.Test.YtlhcjgmdcnmnnaaRWords
import Derived.KernelRfl
namespace Go.Proofs.Ytlhcjgmdcnmnnaa.PT
open Go.RowKit Go.Proofs.YtlhcjgmdcnmnnaaW.PrintWords Go.Proofs.YtlhcjgmdcnmnnaaW.PrintLast Go.Proofs.YtlhcjgmdcnmnnaaW.PrintMore
set_option linter.unusedVariables false
set_option linter.unusedSimpArgs false
structure S41 where
  f0 : Int
  f1 : S30
  f2 : (List Int)
  f3 : Bool
def z41 : S41 := ⟨(0 : Int), z30, ([] : List Int), false⟩
def k41 : Kd S41 := Kd.iso (Kd.pair (Kd.int .i64) (Kd.pair k30 (Kd.pair (Kd.slice 32 (Kd.int .u64)) Kd.bool))) (fun x : S41 => (x.f0, x.f1, x.f2, x.f3))
theorem k28_heap : Kd.Heap k28 := Kd.heap_iso _ (Kd.heap_pair Kd.heap_string (Kd.heap_pair Kd.heap_string (Kd.heap_pair Kd.heap_string (Kd.heap_pair (Kd.heap_int _) (Kd.heap_slice 5 (Kd.heap_int .u8))))))
theorem k30_heap : Kd.Heap k30 := Kd.heap_iso _ (Kd.heap_pair Kd.heap_string (Kd.heap_pair k28_heap Kd.heap_bool))
theorem k41_heap : Kd.Heap k41 := Kd.heap_iso _ (Kd.heap_pair (Kd.heap_int _) (Kd.heap_pair k30_heap (Kd.heap_pair (Kd.heap_slice 32 (Kd.heap_int .u64)) Kd.heap_bool)))
theorem k41_open {w : World} {x : S41} {cs : List Value} (h : k41.K w x cs) : ∃ A6 c6 A8 c8, cs = [.int .i64 x.f0, .string x.f1.f0, .string x.f1.f1.f0, .string x.f1.f1.f1, .string x.f1.f1.f2, .int .i64 x.f1.f1.f3, .slice A6 x.f1.f1.f4.length c6, .bool x.f1.f2, .slice A8 x.f2.length c8, .bool x.f3] ∧ x.f1.f1.f4.length ≤ c6 ∧ (Kd.int .u8).C w A6 x.f1.f1.f4.length x.f1.f1.f4 ∧ x.f2.length ≤ c8 ∧ (Kd.int .u64).C w A8 x.f2.length x.f2 := by
  obtain ⟨_, _, rfl, rfl, ⟨_, _, rfl, s1, ⟨_, _, rfl, ⟨A8, c8, rfl, l8, g8⟩, rfl⟩⟩⟩ := h
  obtain ⟨A6, c6, rfl, l6, g6⟩ := k30_open s1
  exact ⟨A6, c6, A8, c8, rfl, l6, g6, l8, g8⟩
theorem k41_openF {W : World} {ok : Nat → Prop} {x : S41} {cs : List Value} (h : Kd.FK k41 W ok x cs) : ∃ A6 c6 A8 c8, cs = [.int .i64 x.f0, .string x.f1.f0, .string x.f1.f1.f0, .string x.f1.f1.f1, .string x.f1.f1.f2, .int .i64 x.f1.f1.f3, .slice A6 x.f1.f1.f4.length c6, .bool x.f1.f2, .slice A8 x.f2.length c8, .bool x.f3] ∧ x.f1.f1.f4.length ≤ c6 ∧ Kd.F (Kd.int .u8) W ok A6 x.f1.f1.f4.length x.f1.f1.f4 ∧ x.f2.length ≤ c8 ∧ Kd.F (Kd.int .u64) W ok A8 x.f2.length x.f2 := by
  obtain ⟨A6, c6, A8, c8, rfl, l6, _, l8, _⟩ := k41_open (Kd.FK_now h)
  refine ⟨A6, c6, A8, c8, rfl, l6, fun W' hW => ?_, l8, fun W' hW => ?_⟩
  · obtain ⟨B6, d6, B8, d8, he, _, g6, _, _⟩ := k41_open (h W' hW)
    injection (Option.some.inj (show some (Value.slice A6 x.f1.f1.f4.length c6) = some (Value.slice B6 x.f1.f1.f4.length d6) from congrArg (fun l => l[6]?) he)) with ha _ _
    rw [ha]; exact g6
  · obtain ⟨B6, d6, B8, d8, he, _, _, _, g8⟩ := k41_open (h W' hW)
    injection (Option.some.inj (show some (Value.slice A8 x.f2.length c8) = some (Value.slice B8 x.f2.length d8) from congrArg (fun l => l[8]?) he)) with ha _ _
    rw [ha]; exact g8
def rd_T41 (xs : List S41) (i : Int) : S41 := xs.getD i.toNat z41
theorem at_F41 {w : World} {ok : Nat → Prop} {A : Option Addr} {n : Nat} {xs : List S41} (h : Kd.F k41 w ok A n xs) (i : Int) (h0 : 0 ≤ i) (h1 : i < n) : ∃ ad A6 c6 A8 c8, A = some ad ∧ w.cell? (ad.add (i.toNat * 10)) = some (.int .i64 (rd_T41 xs i).f0) ∧ w.cell? ⟨(ad.add (i.toNat * 10)).block, (ad.add (i.toNat * 10)).off + 1, none⟩ = some (.string (rd_T41 xs i).f1.f0) ∧ w.cell? ⟨(ad.add (i.toNat * 10)).block, (ad.add (i.toNat * 10)).off + 2, none⟩ = some (.string (rd_T41 xs i).f1.f1.f0) ∧ w.cell? ⟨(ad.add (i.toNat * 10)).block, (ad.add (i.toNat * 10)).off + 3, none⟩ = some (.string (rd_T41 xs i).f1.f1.f1) ∧ w.cell? ⟨(ad.add (i.toNat * 10)).block, (ad.add (i.toNat * 10)).off + 4, none⟩ = some (.string (rd_T41 xs i).f1.f1.f2) ∧ w.cell? ⟨(ad.add (i.toNat * 10)).block, (ad.add (i.toNat * 10)).off + 5, none⟩ = some (.int .i64 (rd_T41 xs i).f1.f1.f3) ∧ w.cell? ⟨(ad.add (i.toNat * 10)).block, (ad.add (i.toNat * 10)).off + 6, none⟩ = some (.slice A6 (rd_T41 xs i).f1.f1.f4.length c6) ∧ w.cell? ⟨(ad.add (i.toNat * 10)).block, (ad.add (i.toNat * 10)).off + 7, none⟩ = some (.bool (rd_T41 xs i).f1.f2) ∧ w.cell? ⟨(ad.add (i.toNat * 10)).block, (ad.add (i.toNat * 10)).off + 8, none⟩ = some (.slice A8 (rd_T41 xs i).f2.length c8) ∧ w.cell? ⟨(ad.add (i.toNat * 10)).block, (ad.add (i.toNat * 10)).off + 9, none⟩ = some (.bool (rd_T41 xs i).f3) ∧ (rd_T41 xs i).f1.f1.f4.length ≤ c6 ∧ Kd.F (Kd.int .u8) w ok A6 (rd_T41 xs i).f1.f1.f4.length (rd_T41 xs i).f1.f1.f4 ∧ (rd_T41 xs i).f2.length ≤ c8 ∧ Kd.F (Kd.int .u64) w ok A8 (rd_T41 xs i).f2.length (rd_T41 xs i).f2 := by
  obtain ⟨ad, c, e, _, hK, hc0, _⟩ := Kd.F_get h z41 i h0 h1
  have hc : ∀ j u, c[j]? = some u → w.cell? (ad.add (i.toNat * 10 + j)) = some u := hc0
  obtain ⟨A6, c6, A8, c8, rfl, l6, g6, l8, g8⟩ := k41_openF hK
  exact ⟨ad, A6, c6, A8, c8, e, hc 0 _ rfl, by rw [← add_field _ _ 1 (by omega)]; exact hc 1 _ rfl, by rw [← add_field _ _ 2 (by omega)]; exact hc 2 _ rfl, by rw [← add_field _ _ 3 (by omega)]; exact hc 3 _ rfl, by rw [← add_field _ _ 4 (by omega)]; exact hc 4 _ rfl, by rw [← add_field _ _ 5 (by omega)]; exact hc 5 _ rfl, by rw [← add_field _ _ 6 (by omega)]; exact hc 6 _ rfl, by rw [← add_field _ _ 7 (by omega)]; exact hc 7 _ rfl, by rw [← add_field _ _ 8 (by omega)]; exact hc 8 _ rfl, by rw [← add_field _ _ 9 (by omega)]; exact hc 9 _ rfl, l6, g6, l8, g8⟩
/-- What is known of a value of the struct types 28, 30, 41 that came in. -/
def ok28 (x : S28) : Prop := x.f0.size ≤ maxLen ∧ (x.f1.size ≤ maxLen ∧ (x.f2.size ≤ maxLen ∧ ((Lit.int .i64 x.f3).wf = true ∧ (x.f4.length ≤ maxLen ∧ ∀ x_ ∈ x.f4, (Lit.int .u8 x_).wf = true))))
theorem opens28 : Opens Try.prog k28 28 ok28 :=
  Opens.struct Try.underlying28 (by kernel_rfl) (Opens.cons (Opens.string Try.underlying9 (by kernel_rfl)) rfl rfl rfl (Opens.cons (Opens.string Try.underlying9 (by kernel_rfl)) rfl rfl rfl (Opens.cons (Opens.string Try.underlying9 (by kernel_rfl)) rfl rfl rfl (Opens.cons (Opens.int Try.underlying3 (by kernel_rfl)) rfl rfl rfl (Opens.last (Opens.slice Try.underlying26 (by kernel_rfl) (Opens.int Try.underlying5 (by kernel_rfl))) rfl rfl))))) (fun x : S28 => (x.f0, x.f1, x.f2, x.f3, x.f4)) (fun y => ⟨y.1, y.2.1, y.2.2.1, y.2.2.2.1, y.2.2.2.2⟩) (fun _ => rfl)
def ok30 (x : S30) : Prop := x.f0.size ≤ maxLen ∧ (ok28 x.f1 ∧ True)
theorem opens30 : Opens Try.prog k30 30 ok30 :=
  Opens.struct Try.underlying30 (by kernel_rfl) (Opens.cons (Opens.string Try.underlying9 (by kernel_rfl)) rfl rfl rfl (Opens.cons opens28 rfl rfl rfl (Opens.last (Opens.bool Try.underlying4 (by kernel_rfl)) rfl rfl))) (fun x : S30 => (x.f0, x.f1, x.f2)) (fun y => ⟨y.1, y.2.1, y.2.2⟩) (fun _ => rfl)
def ok41 (x : S41) : Prop := (Lit.int .i64 x.f0).wf = true ∧ (ok30 x.f1 ∧ ((x.f2.length ≤ maxLen ∧ ∀ x_ ∈ x.f2, (Lit.int .u64 x_).wf = true) ∧ True))
theorem opens41 : Opens Try.prog k41 41 ok41 :=
  Opens.struct Try.underlying41 (by kernel_rfl) (Opens.cons (Opens.int Try.underlying3 (by kernel_rfl)) rfl rfl rfl (Opens.cons opens30 rfl rfl rfl (Opens.cons (Opens.slice Try.underlying33 (by kernel_rfl) (Opens.int Try.underlying32 (by kernel_rfl))) rfl rfl rfl (Opens.last (Opens.bool Try.underlying4 (by kernel_rfl)) rfl rfl)))) (fun x : S41 => (x.f0, x.f1, x.f2, x.f3)) (fun y => ⟨y.1, y.2.1, y.2.2.1, y.2.2.2⟩) (fun _ => rfl)
theorem k37_mkF (W : World) (ok : Nat → Prop) (x : S37) {A6 : Option Addr} {c6 : Nat} (l6 : x.f1.f1.f4.length ≤ c6) (g6 : Kd.F (Kd.int .u8) W ok A6 x.f1.f1.f4.length x.f1.f1.f4) {A8 : Option Addr} {c8 : Nat} (l8 : x.f2.length ≤ c8) (g8 : Kd.F (Kd.int .u64) W ok A8 x.f2.length x.f2) : Kd.FK k37 W ok x [.int .i64 x.f0, .string x.f1.f0, .string x.f1.f1.f0, .string x.f1.f1.f1, .string x.f1.f1.f2, .int .i64 x.f1.f1.f3, .slice A6 x.f1.f1.f4.length c6, .bool x.f1.f2, .slice A8 x.f2.length c8] := fun W2 hW => k37_mk W2 x l6 (g6 W2 hW) l8 (g8 W2 hW)
theorem same_msg (a0 a1 a2 : ByteArray) (a3 : Int) (l : List Int) : waybillref7_SameMsg.f a0 a1 a2 a3 l a0 a1 a2 a3 l = some true := by
  unfold waybillref7_SameMsg.f
  rw [if_pos rfl, if_pos rfl, if_pos rfl, if_pos rfl]
  simp
theorem tag_cell {w : World} {A : Option Addr} {n : Nat} {xs : List Int} (h : (Kd.int .u64).C w A n xs) (i : Int) (h0 : 0 ≤ i) (h1 : i < n) : ∃ ad, A = some ad ∧ w.cell? (ad.add i.toNat) = some (.int .u64 (xs.getD i.toNat 0)) := by
  obtain ⟨ad, c, e, _, hK, hc0⟩ := Kd.C_get h (0 : Int) i h0 h1
  have hK : c = [.int .u64 (xs.getD i.toNat 0)] := hK
  subst hK
  have hc := hc0 0 _ rfl
  have hc : w.cell? (ad.add (i.toNat * 1 + 0)) = _ := hc
  rw [Nat.mul_one, Nat.add_zero] at hc
  exact ⟨ad, e, hc⟩
namespace Tx
def small (x : S37) : Prop := x.f1.f1.f4.length ≤ 11000 ∧ x.f2.length ≤ 60
/-- The Tx at g with the steps xs (row v), and the wanted steps ys (row u), behind what came in by w0. -/
structure Inv (w0 w : World) (g : Nat) (on : Bool) (v u : Value) (xs ys : List S37) : Prop where
  base : w0.heap.size ≤ g
  own : Own w g on v (fun k => g < k ∧ some k ≠ u.ownBlock) xs
  want : Kd.N k37 37 w w0.heap.size (fun k => k ≠ g ∧ some k ≠ v.ownBlock) u ys
  bel : Below w0.heap.size w0 w
section
variable {w0 w w1 : World} {g : Nat} {on : Bool} {v u : Value} {xs ys : List S37}
theorem Inv.below (h : Inv w0 w g on v u xs ys) (hb : Below w.heap.size w w1) : Inv w0 w1 g on v u xs ys :=
  ⟨h.base, h.own.below hb, Kd.N_below h.want hb, below_step h.bel hb⟩
theorem Inv.is_alloc (h : Inv w0 w g on v u xs ys) (o : Obj) : Inv w0 (w.alloc o) g on v u xs ys := h.below (below_alloc (Below.refl _ _) o)
theorem Inv.is_drewN (h : Inv w0 w g on v u xs ys) (m : Nat) : Inv w0 (w.drewN m) g on v u xs ys := h.below (pw_below_drewN (Below.refl _ _) m)
theorem Inv.is_drew (h : Inv w0 w g on v u xs ys) : Inv w0 w.drew g on v u xs ys := h.below (below_drew1 (Below.refl _ _))
theorem Inv.ok (h : Inv w0 w g on v u xs ys) : ∀ k, (g < k ∧ some k ≠ u.ownBlock) → k ≠ g := fun k hk he => by have := hk.1; omega
theorem Inv.old (h : Inv w0 w g on v u xs ys) : ∀ k, k < w0.heap.size → (k ≠ g ∧ some k ≠ v.ownBlock) ∧ some k ≠ u.ownBlock := fun k hk => by
  have hb := h.base
  refine ⟨⟨by omega, fun he => ?_⟩, fun he => Nat.not_lt.2 (Kd.N_base h.want _ he.symm) hk⟩
  have := Kd.N_base h.own.2 _ he.symm
  omega
theorem Inv.fresh2 (h : Inv w0 w g on v u xs ys) : ∀ k, w.heap.size ≤ k → k ≠ g ∧ some k ≠ v.ownBlock := fun k hk =>
  ⟨fun he => by have := h.own.lt; omega, fun he => Nat.not_lt.2 hk (Kd.N_lt h.own.2 _ he.symm)⟩
theorem Inv.fresh (h : Inv w0 w g on v u xs ys) : ∀ k, w.heap.size ≤ k → g < k ∧ some k ≠ u.ownBlock := fun k hk =>
  ⟨Nat.lt_of_lt_of_le h.own.lt hk, fun he => Nat.not_lt.2 hk (Kd.N_lt h.want _ he.symm)⟩
/-- Behind a change of the Tx. -/
theorem Inv.op (h : Inv w0 w g on v u xs ys) {on2 : Bool} {v2 : Value} {xs2 : List S37} (hi : Own w1 g on2 v2 (fun k => g < k ∧ some k ≠ u.ownBlock) xs2) (hb : Below g w w1) (hk : Kept w w1 (S g v)) (hat : ∀ k, k < w.heap.size → some k ≠ v.ownBlock → some k ≠ v2.ownBlock) : Inv w0 w1 g on2 v2 u xs2 ys :=
  ⟨h.base, hi, Kd.N_mono (Kd.N_step (Kd.N_bound h.want) (fun k hk1 hlt => hk.2 k hlt (fun hs => by rcases hs with hs | hs; exact hk1.1.1 hs; exact hk1.1.2 hs))) (fun k hk1 => ⟨hk1.1.1, hat k hk1.2 hk1.1.2⟩), Below.trans h.bel (hb.mono h.base)⟩
theorem at_lt {v v' : Value} {n : Nat} (h : v'.ownBlock = v.ownBlock ∨ ∃ b, v'.ownBlock = some b ∧ n ≤ b) : ∀ k, k < n → some k ≠ v.ownBlock → some k ≠ v'.ownBlock := by
  intro k hk hne he
  rcases h with h | ⟨b, h1, h2⟩
  · exact hne (he.trans h)
  · rw [h1] at he
    injection he with he
    omega
theorem Inv.keep_blk (h : Inv w0 w g on v u xs ys) {gb : Nat} {cs : Array Value} (hb : w.heap[gb]? = some (.cells cs 41 (0, 0))) (hk : Kept w w1 (S g v)) : w1.heap[gb]? = some (.cells cs 41 (0, 0)) := by
  refine (hk.2 gb (blk_lt hb) (fun hs => ?_)).trans hb
  rcases hs with hs | hs
  · rw [hs, h.own.1] at hb
    injection hb with hb
    injection hb with _ ht
    exact absurd ht (by decide)
  · exact Kd.N_ne h.own.2 hb (by decide) hs
/-- Behind a change of the row of what is wanted. -/
theorem Inv.wants (h : Inv w0 w g on v u xs ys) {u2 : Value} {ys2 : List S37} (hn : Kd.N k37 37 w1 w0.heap.size (fun k => k ≠ g ∧ some k ≠ v.ownBlock) u2 ys2) (hb : Below w0.heap.size w0 w1) (hg : w.grownBy w1 u.ownBlock) (hat : ∀ k, k < w.heap.size → some k ≠ u.ownBlock → some k ≠ u2.ownBlock) : Inv w0 w1 g on v u2 xs ys2 := by
  have hgu : some g ≠ u.ownBlock := fun he => (h.want.1 g he.symm).1 rfl
  refine ⟨h.base, ⟨(hg.block g h.own.lt hgu).trans h.own.1, ?_⟩, hn, hb⟩
  exact Kd.N_mono (Kd.N_step (Kd.N_bound h.own.2) (fun k hk hlt => hg.block k hlt hk.1.2)) (fun k hk => ⟨hk.1.1, hat k hk.2 hk.1.2⟩)
/-- Nothing waits, nothing is wanted. -/
theorem Inv.none (h : Inv w0 w g on v u xs ys) (hi : ∀ ok, Own w1 g on (.slice none 0 0) ok []) (hb : Below g w w1) : Inv w0 w1 g on (.slice none 0 0) (.slice none 0 0) [] [] :=
  ⟨h.base, hi _, Kd.N_nil _ _ _ _ _, Below.trans h.bel (hb.mono h.base)⟩
end
end Tx
end Go.Proofs.Ytlhcjgmdcnmnnaa.PT
