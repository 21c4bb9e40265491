/-
TxnsOff's walk.
-/
import Derived.Test.YtlhcjgmdcnmnnaaTTxnsAwake
namespace Go.Proofs.Ytlhcjgmdcnmnnaa.PT
open Go.RowKit Go.Proofs.YtlhcjgmdcnmnnaaW.PrintWords Go.Proofs.YtlhcjgmdcnmnnaaW.PrintLast Go.Proofs.YtlhcjgmdcnmnnaaW.PrintMore
set_option linter.unusedVariables false
set_option linter.unusedSimpArgs false
set_option maxHeartbeats 8000000
set_option maxRecDepth 100000
theorem and15 (x : Int) : 0 ≤ Go.bits .and .i64 x 15 ∧ Go.bits .and .i64 x 15 ≤ 15 := by
  unfold Go.bits
  have h1 : (BitVec.ofInt (IntKind.i64.bits) x &&& BitVec.ofInt (IntKind.i64.bits) 15).toNat ≤ 15 := by
    rw [BitVec.toNat_and]
    have : (BitVec.ofInt (IntKind.i64.bits) 15).toNat = 15 := by decide
    rw [this]
    exact Nat.and_le_right
  simp only []
  rw [IntKind.wrap_i64]
  omega
/-- The steps that one round puts. -/
def Tx.pair (j : Int) : List S37 := [Tx.stepOf (Go.bits BinOp.and IntKind.i64 j 1 == 1) [j], ⟨1, ⟨⟨#[]⟩, z28, (Go.bits BinOp.and IntKind.i64 j 1 == 1)⟩, []⟩]
def Tx.sts : Nat → List S37
  | 0 => []
  | n + 1 => Tx.sts n ++ Tx.pair (n : Int)
theorem Tx.sts_len : ∀ n, (Tx.sts n).length = 2 * n
  | 0 => rfl
  | n + 1 => by
    rw [Tx.sts, List.length_append, Tx.sts_len n]
    show 2 * n + 2 = _
    omega
theorem Tx.sts_next (j : Int) (h : 0 ≤ j) : Tx.sts (j + 1).toNat = (Tx.sts j.toNat ++ [Tx.stepOf (Go.bits BinOp.and IntKind.i64 j 1 == 1) [j]]) ++ [(⟨1, ⟨⟨#[]⟩, z28, (Go.bits BinOp.and IntKind.i64 j 1 == 1)⟩, []⟩ : S37)] := by
  rw [show (j + 1).toNat = j.toNat + 1 by omega, Tx.sts, show ((j.toNat : Nat) : Int) = j by omega, List.append_assoc]
  rfl
theorem Tx.sts_get : ∀ (n i : Nat), i < n → (Tx.sts n).getD (2 * i) z37 = (Tx.pair (i : Int)).getD 0 z37 ∧ (Tx.sts n).getD (2 * i + 1) z37 = (Tx.pair (i : Int)).getD 1 z37
  | 0, _, h => by omega
  | n + 1, i, h => by
    have hl := Tx.sts_len n
    rw [Tx.sts]
    simp only [List.getD_eq_getElem?_getD]
    by_cases hi : i < n
    · have ih := Tx.sts_get n i hi
      simp only [List.getD_eq_getElem?_getD] at ih
      rw [List.getElem?_append_left (by omega), List.getElem?_append_left (by omega)]
      exact ih
    · obtain rfl : i = n := by omega
      rw [List.getElem?_append_right (by omega), List.getElem?_append_right (by omega), hl, show 2 * i - 2 * i = 0 by omega, show 2 * i + 1 - 2 * i = 1 by omega]
      exact ⟨rfl, rfl⟩
theorem Tx.rd0 (n j : Int) (h0 : 0 ≤ j) (h : j < n) : rd_T37 (Tx.sts n.toNat) (2 * j) = Tx.stepOf (Go.bits BinOp.and IntKind.i64 j 1 == 1) [j] := by
  have := (Tx.sts_get n.toNat j.toNat (by omega)).1
  unfold rd_T37
  rw [show (2 * j).toNat = 2 * j.toNat by omega, this, show ((j.toNat : Nat) : Int) = j by omega]
  rfl
theorem Tx.rd1 (n j : Int) (h0 : 0 ≤ j) (h : j < n) : rd_T37 (Tx.sts n.toNat) (2 * j + 1) = ⟨1, ⟨⟨#[]⟩, z28, (Go.bits BinOp.and IntKind.i64 j 1 == 1)⟩, []⟩ := by
  have := (Tx.sts_get n.toNat j.toNat (by omega)).2
  unfold rd_T37
  rw [show (2 * j + 1).toNat = 2 * j.toNat + 1 by omega, this, show ((j.toNat : Nat) : Int) = j by omega]
  rfl
theorem Tx.tag_at {w : World} {A : Option Addr} {u : Int} (h : (Kd.int .u64).C w A 1 [u]) : ∃ ad, A = some ad ∧ w.cell? ad = some (.int .u64 u) := by
  obtain ⟨h1, h2, h3⟩ := h
  obtain ⟨ad, e, hj⟩ := h3 (by decide)
  obtain ⟨cs, q1, q2, q3⟩ := hj 0 u rfl
  have q2 : cs = [.int .u64 u] := q2
  subst q2
  exact ⟨ad, e, q3 0 _ rfl⟩
theorem Tx.sts_small (n : Nat) : ∀ x ∈ Tx.sts n, x.f1.f1.f4.length ≤ 1000000 ∧ x.f2.length ≤ 1000000 := by
  induction n with
  | zero => intro x hx; cases hx
  | succ n ih =>
    intro x hx
    rw [Tx.sts] at hx
    rcases List.mem_append.1 hx with h | h
    · exact ih x h
    · unfold Tx.pair at h
      rcases List.mem_cons.1 h with h | h
      · rw [h]; exact ⟨Nat.zero_le _, by show ([_] : List Int).length ≤ 1000000; simp⟩
      · rw [List.mem_singleton] at h
        rw [h]; exact ⟨Nat.zero_le _, Nat.zero_le _⟩
theorem waybilllaw22_TxnsOff.calls (a b : Int) (w : World) : Calls Try.prog 3 #[.int .i64 a, .int .i64 b] w fun e w' => e = .returned (.bool true) ∧ Below w.heap.size w w' := by
  have hu37 := Try.underlying37
  have hu30 := Try.underlying30
  have HB := Aside0.mk (Below.refl w.heap.size w)
  go_enter Try.func3, Try.ntmps3
  go_upto_region 2 with (fail)
  have hA := and15 a
  have hBb := and15 b
  generalize Go.bits BinOp.and IntKind.i64 a 15 = na at hA ⊢
  generalize Go.bits BinOp.and IntKind.i64 b 15 = nb at hBb ⊢
  go_upto_region 5 with (first | (go_at_call 15; refine (Tx.new _).mono ?_; rintro e w1 ⟨g, rfl, hg, hi, hb⟩; have HI := Aside0.mk hi; have HG := Aside0.mk (show w.heap.size ≤ g from Nat.le_trans (below_size (by repeat (first | (with_reducible first | exact HB.out | apply below_alloc | apply pw_below_drewN | apply below_drew1) | exact HB.out))) hg); have n1_ := Aside0.mk (below_step (by repeat (first | (with_reducible first | exact HB.out | apply below_alloc | apply pw_below_drewN | apply below_drew1) | exact HB.out)) hb); clear HB; have HB := n1_; clear n1_; clear hi hg hb) | (go_at_call 16; refine (Tx.awake _).mono ?_; rintro e w6 ⟨rfl, hb⟩; have n0_ := Aside0.mk (Tx.below (by ((with_reducible repeat (first | apply Tx.is_alloc | apply Tx.is_drewN | apply Tx.is_drew)); exact HI.out)) hb); clear HI; have HI := n0_; clear n0_; have n1_ := Aside0.mk (below_step (by repeat (first | (with_reducible first | exact HB.out | apply below_alloc | apply pw_below_drewN | apply below_drew1) | exact HB.out)) hb); clear HB; have HB := n1_; clear n1_; clear hb))
  go_wp2
  go_loopg [6] 20 (fun kq v6 w' => ∃ j : Int, v6 = .int .i64 j ∧ Aside0 (0 ≤ j) ∧ Aside0 (j ≤ na) ∧ Aside0 (kq + j.toNat = 20) ∧ Aside0 (Tx.At w' g false []) ∧ Aside0 (Below w.heap.size w w'))
  case atStart => exact ⟨0, rfl, ⟨by omega⟩, ⟨by omega⟩, ⟨rfl⟩, HI, HB⟩
  case round =>
    clear HI HB
    obtain ⟨j, rfl, HP, HJ, HI0, HI, HB⟩ := hrel
    have hp := HP.out
    have hj := HJ.out
    by_cases c1 : j < na
    · obtain ⟨k1, rfl⟩ : ∃ k1, gk = k1 + 1 := ⟨gk - 1, by have := HI0.out; omega⟩
      have c1b : decide (j < na) = true := decide_eq_true c1
      have HW := Aside0.mk (show wrap64 (j + 1) = j + 1 from by unfold wrap64; omega)
      go_wp2_with (first | (go_at_call 17; refine (Tx.put (g := g) (on := false) (xs := ([] : List S37)) (⟨⟨#[101]⟩, z28, false⟩ : S30) none 0 (by ((with_reducible repeat (first | apply Tx.is_alloc | apply Tx.is_drewN | apply Tx.is_drew)); exact HI.out)) (Kd.C_nil _ _) (Nat.le_refl _) (Nat.zero_le _) (by decide)).mono ?_; rintro e w2 ⟨rfl, hi, hb⟩; clear HI; have HI := Aside0.mk (show Tx.At w2 g false (([] : List S37)) from hi); have n1_ := Aside0.mk (Below.trans (by repeat (first | (with_reducible first | exact HB.out | apply below_alloc | apply pw_below_drewN | apply below_drew1) | exact HB.out)) (hb.mono HG.out)); clear HB; have HB := n1_; clear n1_; clear hb; clear hi) | ((with_reducible refine gate_dst (N := 32) rfl ?_); (try (refine gate_guard (by rfl) ?_; dsimp only)); first | refine Kd.R_lit (Kd.int .u64) _ 32 ?hg (N := 32) ?hd (xs := ([1] : List Int)) (inner := [.int .u64 1]) (ok := fun _ => True) (okp := fun _ => True) ?hr ?hp (fun _ hk => hk) trivial (Below.refl _ _) (Nat.le_refl _) (by simp) ?_; (case hd => rfl); (case hg => rfl); (case hr => first | (go_simp; done) | (go_simp; rfl)); (case hp => exact (Reps.one (show Kd.M (Kd.int .u64) _ _ _ 1 [.int .u64 1] from rfl) (Reps.none _ _))); intro vt_ w3 ho hb hg_ hnew_; clear hg_ hnew_; have n0_ := Aside0.mk (Tx.below (by ((with_reducible repeat (first | apply Tx.is_alloc | apply Tx.is_drewN | apply Tx.is_drew)); exact HI.out)) hb); clear HI; have HI := n0_; clear n0_; have n1_ := Aside0.mk (below_step (by repeat (first | (with_reducible first | exact HB.out | apply below_alloc | apply pw_below_drewN | apply below_drew1) | exact HB.out)) hb); clear HB; have HB := n1_; clear n1_; obtain ⟨At_, ct_, et_⟩ := Kd.R_slice ho; subst et_; have HT := Aside0.mk ho; clear ho hb) | (go_at_call 18; refine (Tx.settle (g := g) (on := false) (xs := ([] : List S37)) ([1] : List Int) _ At_ ct_ (by ((with_reducible repeat (first | apply Tx.is_alloc | apply Tx.is_drewN | apply Tx.is_drew)); exact HI.out)) (by (with_reducible repeat (first | apply Kd.C_alloc | apply Kd.C_drewN | apply Kd.C_drew)); exact (Kd.R_reads' HT.out).2.2) (by have h_ := (Kd.R_reads' HT.out).2.1; exact h_) (by simp) (by decide)).mono ?_; rintro e w2 ⟨rfl, hi, hb⟩; clear HI; have HI := Aside0.mk (show Tx.At w2 g false (([] : List S37)) from hi); have n1_ := Aside0.mk (Below.trans (by repeat (first | (with_reducible first | exact HB.out | apply below_alloc | apply pw_below_drewN | apply below_drew1) | exact HB.out)) (hb.mono HG.out)); clear HB; have HB := n1_; clear n1_; clear hb; clear hi))
      go_roundg k1
      case measure => omega
      case rel => exact ⟨j + 1, by first | rfl | rw [HW.out], ⟨by omega⟩, ⟨by omega⟩, ⟨by have := HI0.out; omega⟩, HI, HB⟩
    · have c1b : decide (j < na) = false := decide_eq_false c1
      clear HP HJ HI0 hp hj c1
      go_upto_region 13 with (first | (go_at_call 19; refine (Tx.isOn (g := g) (on := false) (xs := ([] : List S37)) (by ((with_reducible repeat (first | apply Tx.is_alloc | apply Tx.is_drewN | apply Tx.is_drew)); exact HI.out))).mono ?_; rintro e w5 ⟨rfl, hi, hb⟩; clear HI; have HI := Aside0.mk hi; have n1_ := Aside0.mk (below_step (by repeat (first | (with_reducible first | exact HB.out | apply below_alloc | apply pw_below_drewN | apply below_drew1) | exact HB.out)) hb); clear HB; have HB := n1_; clear n1_; clear hi hb) | (go_at_call 20; refine (Tx.steps (g := g) (on := false) (xs := ([] : List S37)) (by ((with_reducible repeat (first | apply Tx.is_alloc | apply Tx.is_drewN | apply Tx.is_drew)); exact HI.out)) (by decide) (fun x hx => by cases hx)).mono ?_; rintro e w4 ⟨vs, rfl, hn, hi, hb⟩; clear HI; have HI := Aside0.mk hi; have n1_ := Aside0.mk (below_step (by repeat (first | (with_reducible first | exact HB.out | apply below_alloc | apply pw_below_drewN | apply below_drew1) | exact HB.out)) hb); clear HB; have HB := n1_; clear n1_; obtain ⟨As_, cs_, es_⟩ := Kd.N_slice hn; subst es_; have HN := Aside0.mk hn; clear hn; clear hi hb) | (go_at_call 21; refine (Tx.select (g := g) (on := false) (xs := ([] : List S37)) (by ((with_reducible repeat (first | apply Tx.is_alloc | apply Tx.is_drewN | apply Tx.is_drew)); exact HI.out))).mono ?_; rintro e w2 ⟨rfl, hi, hb⟩; clear HI; have HI := Aside0.mk (show Tx.At w2 g true (([] : List S37)) from hi); have n1_ := Aside0.mk (Below.trans (by repeat (first | (with_reducible first | exact HB.out | apply below_alloc | apply pw_below_drewN | apply below_drew1) | exact HB.out)) (hb.mono HG.out)); clear HB; have HB := n1_; clear n1_; clear hb; clear hi))
      go_wp2
      go_loopg [7] 20 (fun kq v7 w' => ∃ j : Int, v7 = .int .i64 j ∧ Aside0 (0 ≤ j) ∧ Aside0 (j ≤ nb) ∧ Aside0 (kq + j.toNat = 20) ∧ Aside0 (Tx.At w' g true (Tx.sts j.toNat)) ∧ Aside0 (Below w.heap.size w w'))
      case atStart => exact ⟨0, rfl, ⟨by omega⟩, ⟨by omega⟩, ⟨rfl⟩, HI, HB⟩
      case round =>
        clear HI HB
        obtain ⟨j, rfl, HP, HJ, HI0, HI, HB⟩ := hrel
        have hp := HP.out
        have hj := HJ.out
        by_cases c2 : j < nb
        · obtain ⟨k1, rfl⟩ : ∃ k1, gk = k1 + 1 := ⟨gk - 1, by have := HI0.out; omega⟩
          have c2b : decide (j < nb) = true := decide_eq_true c2
          have HW := Aside0.mk (show wrap64 (j + 1) = j + 1 from by unfold wrap64; omega)
          obtain ⟨X, hX⟩ : ∃ X, X = Tx.sts j.toNat := ⟨_, rfl⟩
          rw [← hX] at HI
          have HXl := Aside0.mk (show X.length ≤ 40 from by rw [hX, Tx.sts_len]; omega)
          have HX := Aside0.mk hX
          clear hX
          go_wp2_with (first | ((with_reducible refine gate_dst (N := 56) rfl ?_); (try (refine gate_guard (by rfl) ?_; dsimp only)); first | refine Kd.R_lit (Kd.int .u64) _ 32 ?hg (N := 56) ?hd (xs := ([j] : List Int)) (inner := [.int .u64 (j)]) (ok := fun _ => True) (okp := fun _ => True) ?hr ?hp (fun _ hk => hk) trivial (Below.refl _ _) (Nat.le_refl _) (by simp) ?_; (case hd => rfl); (case hg => rfl); (case hr => first | (go_simp; done) | (go_simp; rfl)); (case hp => exact (Reps.one (show Kd.M (Kd.int .u64) _ _ _ j [.int .u64 (j)] from rfl) (Reps.none _ _))); intro vt_ w3 ho hb hg_ hnew_; clear hg_ hnew_; have n0_ := Aside0.mk (Tx.below (by ((with_reducible repeat (first | apply Tx.is_alloc | apply Tx.is_drewN | apply Tx.is_drew)); exact HI.out)) hb); clear HI; have HI := n0_; clear n0_; have n1_ := Aside0.mk (below_step (by repeat (first | (with_reducible first | exact HB.out | apply below_alloc | apply pw_below_drewN | apply below_drew1) | exact HB.out)) hb); clear HB; have HB := n1_; clear n1_; obtain ⟨At_, ct_, et_⟩ := Kd.R_slice ho; subst et_; have HT := Aside0.mk ho; clear ho hb) | (go_at_call 18; refine (Tx.settle (g := g) (on := true) (xs := X) ([j] : List Int) (Go.bits BinOp.and IntKind.i64 j 1 == 1) At_ ct_ (by ((with_reducible repeat (first | apply Tx.is_alloc | apply Tx.is_drewN | apply Tx.is_drew)); exact HI.out)) (by (with_reducible repeat (first | apply Kd.C_alloc | apply Kd.C_drewN | apply Kd.C_drew)); exact (Kd.R_reads' HT.out).2.2) (by have h_ := (Kd.R_reads' HT.out).2.1; exact h_) (by simp) (by have := HXl.out; omega)).mono ?_; rintro e w2 ⟨rfl, hi, hb⟩; clear HI; have HI := Aside0.mk (show Tx.At w2 g true (X ++ [Tx.stepOf (Go.bits BinOp.and IntKind.i64 j 1 == 1) [j]]) from hi); have n1_ := Aside0.mk (Below.trans (by repeat (first | (with_reducible first | exact HB.out | apply below_alloc | apply pw_below_drewN | apply below_drew1) | exact HB.out)) (hb.mono HG.out)); clear HB; have HB := n1_; clear n1_; clear hb; clear hi) | (go_at_call 17; refine (Tx.put (g := g) (on := true) (xs := (X ++ [Tx.stepOf (Go.bits BinOp.and IntKind.i64 j 1 == 1) [j]])) (⟨⟨#[]⟩, z28, (Go.bits BinOp.and IntKind.i64 j 1 == 1)⟩ : S30) none 0 (by ((with_reducible repeat (first | apply Tx.is_alloc | apply Tx.is_drewN | apply Tx.is_drew)); exact HI.out)) (Kd.C_nil _ _) (Nat.le_refl _) (Nat.zero_le _) (by have := HXl.out; rw [List.length_append, List.length_singleton]; omega)).mono ?_; rintro e w2 ⟨rfl, hi, hb⟩; clear HI; have HI := Aside0.mk (show Tx.At w2 g true ((X ++ [Tx.stepOf (Go.bits BinOp.and IntKind.i64 j 1 == 1) [j]]) ++ [⟨1, ⟨⟨#[]⟩, z28, (Go.bits BinOp.and IntKind.i64 j 1 == 1)⟩, []⟩]) from hi); have n1_ := Aside0.mk (Below.trans (by repeat (first | (with_reducible first | exact HB.out | apply below_alloc | apply pw_below_drewN | apply below_drew1) | exact HB.out)) (hb.mono HG.out)); clear HB; have HB := n1_; clear n1_; clear hb; clear hi) | (go_at_call 21; refine (Tx.select (g := g) (on := true) (xs := ((X ++ [Tx.stepOf (Go.bits BinOp.and IntKind.i64 j 1 == 1) [j]]) ++ [⟨1, ⟨⟨#[]⟩, z28, (Go.bits BinOp.and IntKind.i64 j 1 == 1)⟩, []⟩])) (by ((with_reducible repeat (first | apply Tx.is_alloc | apply Tx.is_drewN | apply Tx.is_drew)); exact HI.out))).mono ?_; rintro e w2 ⟨rfl, hi, hb⟩; clear HI; have HI := Aside0.mk (show Tx.At w2 g true (((X ++ [Tx.stepOf (Go.bits BinOp.and IntKind.i64 j 1 == 1) [j]]) ++ [⟨1, ⟨⟨#[]⟩, z28, (Go.bits BinOp.and IntKind.i64 j 1 == 1)⟩, []⟩])) from hi); have n1_ := Aside0.mk (Below.trans (by repeat (first | (with_reducible first | exact HB.out | apply below_alloc | apply pw_below_drewN | apply below_drew1) | exact HB.out)) (hb.mono HG.out)); clear HB; have HB := n1_; clear n1_; clear hb; clear hi))
          go_roundg k1
          case measure => omega
          case rel => exact ⟨j + 1, by first | rfl | rw [HW.out], ⟨by omega⟩, ⟨by omega⟩, ⟨by have := HI0.out; omega⟩, ⟨by rw [Tx.sts_next j hp, ← HX.out]; exact HI.out⟩, HB⟩
        · have c2b : decide (j < nb) = false := decide_eq_false c2
          obtain rfl : nb = j := by omega
          obtain ⟨Y, hY⟩ : ∃ Y, Y = Tx.sts nb.toNat := ⟨_, rfl⟩
          rw [← hY] at HI
          have hYl : (Y.length : Int) = 2 * nb := by rw [hY, Tx.sts_len]; omega
          have HYn := Aside0.mk (show Y.length ≤ 30 from by omega)
          have HYs := Aside0.mk (show ∀ x ∈ Y, x.f1.f1.f4.length ≤ 1000000 ∧ x.f2.length ≤ 1000000 from by rw [hY]; exact Tx.sts_small _)
          have HY := Aside0.mk hY
          clear hY HP HJ HI0 hp hj c2 hA
          go_upto_region 22 with (first | (go_at_call 20; refine (Tx.steps (g := g) (on := true) (xs := Y) (by ((with_reducible repeat (first | apply Tx.is_alloc | apply Tx.is_drewN | apply Tx.is_drew)); exact HI.out)) (by have := HYn.out; omega) (HYs.out)).mono ?_; rintro e w4 ⟨vs, rfl, hn, hi, hb⟩; clear HI; have HI := Aside0.mk hi; have n1_ := Aside0.mk (below_step (by repeat (first | (with_reducible first | exact HB.out | apply below_alloc | apply pw_below_drewN | apply below_drew1) | exact HB.out)) hb); clear HB; have HB := n1_; clear n1_; obtain ⟨As2, cs2, es2⟩ := Kd.N_slice hn; subst es2; have HN := Aside0.mk (Kd.N_mono (ok' := fun _ => True) (Kd.N_lower hn (Nat.zero_le _)) (fun _ _ => trivial)); clear hn; clear hi hb))
          go_wp2
          go_loopg [9] 20 (fun kq v9 w' => ∃ j : Int, v9 = .int .i64 j ∧ Aside0 (0 ≤ j) ∧ Aside0 (j ≤ nb) ∧ Aside0 (kq + j.toNat = 20) ∧ Aside0 (Tx.At w' g true Y) ∧ Aside0 (Kd.N k37 37 w' 0 (fun _ => True) (.slice As2 Y.length cs2) Y) ∧ Aside0 (Below w.heap.size w w'))
          case atStart => exact ⟨0, rfl, ⟨by omega⟩, ⟨by omega⟩, ⟨rfl⟩, HI, HN, HB⟩
          case round =>
            clear HI HB HN
            obtain ⟨j, rfl, HP, HJ, HI0, HI, HN, HB⟩ := hrel
            have hp := HP.out
            have hj := HJ.out
            by_cases c3 : j < nb
            · obtain ⟨k1, rfl⟩ : ∃ k1, gk = k1 + 1 := ⟨gk - 1, by have := HI0.out; omega⟩
              have c3b : decide (j < nb) = true := decide_eq_true c3
              have HW := Aside0.mk (show wrap64 (j + 1) = j + 1 from by unfold wrap64; omega)
              have e0 : rd_T37 Y (2 * j) = Tx.stepOf (Go.bits BinOp.and IntKind.i64 j 1 == 1) [j] := by rw [HY.out]; exact Tx.rd0 nb j hp c3
              have e1 : rd_T37 Y (2 * j + 1) = ⟨1, ⟨⟨#[]⟩, z28, (Go.bits BinOp.and IntKind.i64 j 1 == 1)⟩, []⟩ := by rw [HY.out]; exact Tx.rd1 nb j hp c3
              obtain ⟨as_, A6, c6, A8, c8, eas, hx0, hx1, hx2, hx3, hx4, hx5, hx6, hx7, hx8, hl6, hC6, hl8, hC8⟩ := at_T37 (Kd.N_reads' HN.out).2.2 (2 * j) (by omega) (by omega)
              subst eas
              obtain ⟨as2, B6, d6, B8, d8, eas2, hy0, hy1, hy2, hy3, hy4, hy5, hy6, hy7, hy8, hm6, hD6, hm8, hD8⟩ := at_T37 (Kd.N_reads' HN.out).2.2 (2 * j + 1) (by omega) (by omega)
              cases eas2
              rw [e0] at hx0 hx8 hC8
              rw [e1] at hy0 hy7
              obtain ⟨at8, eat, hat⟩ := Tx.tag_at (u := j) hC8
              subst eat
              have hk8 : wr.cell? ⟨(as_.add ((2 * j).toNat * 9)).block, (as_.add ((2 * j).toNat * 9)).off + 8, none⟩ = some (.slice (some at8) 1 c8) := hx8
              have hk1 : wr.cell? (as_.add ((2 * j + 1).toNat * 9)) = some (.int .i64 1) := hy0
              clear e0 e1 hx1 hx2 hx3 hx4 hx5 hx6 hx7 hx8 hl6 hC6 hl8 hC8 hy0 hy1 hy2 hy3 hy4 hy5 hy6 hy8 hm6 hD6 hm8 hD8
              have p0 : (0 ≤ 2 * j) = True := eq_true (by omega)
              have q0 : (2 * j < (Y.length : Int)) = True := eq_true (by omega)
              have p1 : (0 ≤ 2 * j + 1) = True := eq_true (by omega)
              have q1 : (2 * j + 1 < (Y.length : Int)) = True := eq_true (by omega)
              have hw2 : wrap64 (2 * j) = 2 * j := by unfold wrap64; omega
              have hw3 : wrap64 (2 * j + 1) = 2 * j + 1 := by unfold wrap64; omega
              unfold Tx.stepOf at hx0
              cases hod : (Go.bits BinOp.and IntKind.i64 j 1 == 1) with
              | true =>
                rw [hod] at hx0 hy7
                have hk0 : wr.cell? (as_.add ((2 * j).toNat * 9)) = some (.int .i64 3) := hx0
                have hk7 : wr.cell? ⟨(as_.add ((2 * j + 1).toNat * 9)).block, (as_.add ((2 * j + 1).toNat * 9)).off + 7, none⟩ = some (.bool true) := hy7
                clear hx0 hy7
                go_wp2
                go_roundg k1
                case measure => omega
                case rel => exact ⟨j + 1, by first | rfl | rw [HW.out], ⟨by omega⟩, ⟨by omega⟩, ⟨by have := HI0.out; omega⟩, HI, HN, HB⟩
              | false =>
                rw [hod] at hx0 hy7
                have hk0 : wr.cell? (as_.add ((2 * j).toNat * 9)) = some (.int .i64 2) := hx0
                have hk7 : wr.cell? ⟨(as_.add ((2 * j + 1).toNat * 9)).block, (as_.add ((2 * j + 1).toNat * 9)).off + 7, none⟩ = some (.bool false) := hy7
                clear hx0 hy7
                go_wp2
                go_roundg k1
                case measure => omega
                case rel => exact ⟨j + 1, by first | rfl | rw [HW.out], ⟨by omega⟩, ⟨by omega⟩, ⟨by have := HI0.out; omega⟩, HI, HN, HB⟩
            · have c3b : decide (j < nb) = false := decide_eq_false c3
              go_wp2_with (first | (go_at_call 22; refine (Tx.clear (g := g) (on := true) (xs := Y) (by ((with_reducible repeat (first | apply Tx.is_alloc | apply Tx.is_drewN | apply Tx.is_drew)); exact HI.out))).mono ?_; rintro e w2 ⟨rfl, hi, hb⟩; clear HI; have HI := Aside0.mk (show Tx.At w2 g true (([] : List S37)) from hi); have n1_ := Aside0.mk (Below.trans (by repeat (first | (with_reducible first | exact HB.out | apply below_alloc | apply pw_below_drewN | apply below_drew1) | exact HB.out)) (hb.mono HG.out)); clear HB; have HB := n1_; clear n1_; clear hb; clear hi) | (go_at_call 19; refine (Tx.isOn (g := g) (on := true) (xs := ([] : List S37)) (by ((with_reducible repeat (first | apply Tx.is_alloc | apply Tx.is_drewN | apply Tx.is_drew)); exact HI.out))).mono ?_; rintro e w5 ⟨rfl, hi, hb⟩; clear HI; have HI := Aside0.mk hi; have n1_ := Aside0.mk (below_step (by repeat (first | (with_reducible first | exact HB.out | apply below_alloc | apply pw_below_drewN | apply below_drew1) | exact HB.out)) hb); clear HB; have HB := n1_; clear n1_; clear hi hb) | (go_at_call 20; refine (Tx.steps (g := g) (on := true) (xs := ([] : List S37)) (by ((with_reducible repeat (first | apply Tx.is_alloc | apply Tx.is_drewN | apply Tx.is_drew)); exact HI.out)) (by decide) (fun x hx => by cases hx)).mono ?_; rintro e w4 ⟨vs, rfl, hn, hi, hb⟩; clear HI; have HI := Aside0.mk hi; have n1_ := Aside0.mk (below_step (by repeat (first | (with_reducible first | exact HB.out | apply below_alloc | apply pw_below_drewN | apply below_drew1) | exact HB.out)) hb); clear HB; have HB := n1_; clear n1_; obtain ⟨Az_, cz_, ez_⟩ := Kd.N_slice hn; subst ez_; clear hi hb))
              go_ret
              exact ⟨rfl, HB.out⟩
end Go.Proofs.Ytlhcjgmdcnmnnaa.PT
