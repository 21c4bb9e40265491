/- What functions of the given program come to, and that they do: written out of the translation by a program of this session; Lean checks it. -/
import Derived.Test.YtpjkaodbcclecaaPMx0
import Derived.Test.YtpjkaodbcclecaaPMx2
import Derived.Test.YtpjkaodbcclecaaPMx3
namespace Go.Proofs.Ytpjkaodbcclecaa.PM
open Go.RowKit Go.Proofs.YtpjkaodbcclecaaW.PrintWords Go.Proofs.YtpjkaodbcclecaaW.PrintLast Go.Proofs.YtpjkaodbcclecaaW.PrintMore
attribute [local go_sem] max2_int min2_int max_two min_two max_three min_three max_four min_four   -- for this text's walks alone
set_option linter.unusedVariables false
set_option linter.unusedSimpArgs false

/-! ### octs_number: function 73 -/
def octs_number.l0 : Nat → Int → List Int → Int → Int → Option (Int)
 | 0, _, _, _, _ => none
 | k + 1, x3, x6, x7, x8 => if x8 < x7 then (if 0 ≤ x8 then (if x8 < (x6.length : Int) then (octs_number.l0 k (Go.bits .or .u64 (IntKind.u64.wrap (x3 * 256)) (IntKind.u64.wrap (rd x6 x8))) x6 x7 (wrap64 (x8 + 1))) else (none)) else (none)) else (some x3)
def octs_number.f (k : Nat) (l0 : List Int) : Option (Int) := octs_number.l0 k 0 l0 (l0.length : Int) 0
theorem octs_number.mono_l : ∀ k, (∀ y0 y1 y2 y3, LeO (octs_number.l0 k y0 y1 y2 y3) (octs_number.l0 (k + 1) y0 y1 y2 y3))
 | 0 => fun _ _ _ _ r h => by simp [octs_number.l0] at h
 | k + 1 => by
  have ih0 := octs_number.mono_l k
  ·
   intro y0 y1 y2 y3
   unfold octs_number.l0
   repeat' first
   | (with_reducible exact ih0 _ _ _ _)
   | (with_reducible exact LeO.refl _)
   | (with_reducible exact LeO.none _)
   | (with_reducible refine LeO.ite ?_ ?_)
   | (with_reducible refine LeO.bind ?_ (fun _ => ?_))
   | exact ih0 _ _ _ _
   | exact LeO.none _
   | refine LeO.ite ?_ ?_
   | refine LeO.bind ?_ (fun _ => ?_)
theorem octs_number.mono : ∀ a0 k, LeO (octs_number.f k a0) (octs_number.f (k + 1) a0) := by
 intro a0 k
 have ih0 := octs_number.mono_l k
 unfold octs_number.f
 repeat' first
   | (with_reducible exact ih0 _ _ _ _)
   | (with_reducible exact LeO.refl _)
   | (with_reducible exact LeO.none _)
   | (with_reducible refine LeO.ite ?_ ?_)
   | (with_reducible refine LeO.bind ?_ (fun _ => ?_))
   | exact ih0 _ _ _ _
   | exact LeO.none _
   | refine LeO.ite ?_ ?_
   | refine LeO.bind ?_ (fun _ => ?_)
set_option maxHeartbeats 8000000 in
set_option maxRecDepth 100000 in
theorem octs_number.calls (k : Nat) (A0 : Option Addr) (c0 : Nat) (l0 : List Int) (r : Int) (w : World) (hr0 : Kd.C (Kd.int .u8) w A0 l0.length l0) (hc0 : l0.length ≤ c0) (h : octs_number.f k l0 = some r) :
  Calls Try.prog 73 #[.slice A0 l0.length c0] w fun e w' => e = .returned (.int .u64 r) ∧ Drawn0 w w' := by
 have HR0 := Aside0.mk hr0
 have HC0 := Aside0.mk hc0
 clear hr0 hc0
 have H : (octs_number.l0 k 0 l0 (l0.length : Int) 0) = some r := h
 clear h
 have H' := Aside0.mk H
 clear H
 go_enter Try.func73, Try.ntmps73
 go_wp2
 go_loopg [3, 8] k (fun kq v3 v8 w' => ∃ (x3_1 : Int) (x8_1 : Int), v3 = .int .u64 x3_1 ∧ v8 = .int .i64 x8_1 ∧ Aside0 (octs_number.l0 kq x3_1 l0 (l0.length : Int) x8_1 = some r) ∧ Aside0 (kq ≤ k) ∧ Drawn0 w w')
 case atStart => exact ⟨(0), (0), (by first | rfl | (simp; done) | (simp [*]; done)), (by first | rfl | (simp; done) | (simp [*]; done)), H', ⟨Nat.le_refl _⟩, by repeat (first | exact Drawn0.refl _ | apply Drawn0.step)⟩
 case round =>
  clear H'
  obtain ⟨x3_1, x8_1, rfl, rfl, HA, HK1, ⟨m1, rfl⟩⟩ := hrel
  cases gk with
  | zero => exact absurd HA.out (by simp [octs_number.l0])
  | succ k1 =>
   have H := HA.out
   clear HA
   simp only [octs_number.l0] at H
   by_cases c2 : x8_1 < (l0.length : Int)
   ·
    rw [if_pos c2] at H
    have c2b0 : decide (x8_1 < (l0.length : Int)) = true := decide_eq_true c2
    clear c2
    by_cases c3 : 0 ≤ x8_1
    ·
     rw [if_pos c3] at H
     have c3b0 : decide (0 ≤ x8_1) = true := decide_eq_true c3
     clear c3
     by_cases c4 : x8_1 < (l0.length : Int)
     ·
      rw [if_pos c4] at H
      have c4b0 : decide (x8_1 < (l0.length : Int)) = true := decide_eq_true c4
      clear c4
      have H' := Aside0.mk H
      clear H
      have p134 : 0 ≤ (x8_1 : Int) := of_decide_eq_true (by first | (with_reducible assumption) | assumption)
      have q134 : x8_1 < (l0.length : Int) := of_decide_eq_true (by first | (with_reducible assumption) | assumption)
      obtain ⟨ad134, e134, hx134_0⟩ := Kd.at_int HR0.out x8_1 p134 q134
      cases e134
      replace p134 := eq_true p134
      replace q134 := eq_true q134
      go_wp2
      go_roundg k1
      case measure => have := HK1.out; omega
      case rel => exact ⟨(Go.bits .or .u64 (IntKind.u64.wrap (x3_1 * 256)) (IntKind.u64.wrap (rd l0 x8_1))), (wrap64 (x8_1 + 1)), (by first | rfl | (simp; done) | (simp [*]; done)), (by first | rfl | (simp; done) | (simp [*]; done)), H', ⟨by have := HK1.out; omega⟩, by repeat (first | exact Drawn0.refl _ | apply Drawn0.step)⟩
     ·
      rw [if_neg c4] at H
      exact absurd H (by simp)
    ·
     rw [if_neg c3] at H
     exact absurd H (by simp)
   ·
    rw [if_neg c2] at H
    have c2b0 : decide (x8_1 < (l0.length : Int)) = false := decide_eq_false c2
    clear c2
    obtain rfl := Option.some.inj H
    go_wp2
    all_goals first | (go_ret; exact ⟨by first | rfl | (simp; done) | (simp [*]; done), by repeat (first | exact Drawn0.refl _ | apply Drawn0.step)⟩) | (exfalso; simp_all; done)

/-! ### octs_In_take: function 74 -/
def octs_In_take.f (s0_0 : List Int) (s0_1 : Bool) (a1 : Int) : Option (List Int × List Int × Bool) :=
 if s0_1 = true then some ([], [], true) else if (s0_0.length : Int) < a1 then some ([], [], true) else
 if 0 ≤ a1 then (if s0_0.length < 140737488355328 then some (s0_0.take a1.toNat, s0_0.drop a1.toNat, false) else none) else none
theorem S117_wipe {w0 W : World} {g : Nat} {f0 : List Int} {f1 : Bool} (h : IsS117 w0 W g f0 f1) : IsS117 w0 ((W.setCell ⟨g, 0, none⟩ (.slice none 0 0)).setCell ⟨g, 1, none⟩ (.bool true)) g [] true := by
 obtain ⟨A0, c0, hb, hg, hr0⟩ := h
 exact ⟨none, 0, by simpa using blk_set (blk_set hb 0 (.slice none 0 0)) 1 (.bool true), hg, Kd.C_nil _ _, Nat.zero_le _⟩
theorem S117_put {w0 W : World} {g : Nat} {f0 : List Int} {f1 : Bool} (h : IsS117 w0 W g f0 f1) (A : Option Addr) (l : List Int) (n c : Nat) (hn : n = l.length) (hr : Kd.C (Kd.int .u8) w0 A l.length l) (hc : l.length ≤ c) : IsS117 w0 (W.setCell ⟨g, 0, none⟩ (.slice A n c)) g l f1 := by
 subst hn
 obtain ⟨A0, c0, hb, hg, hr0⟩ := h
 exact ⟨A, c, by simpa using blk_set hb 0 (.slice A l.length c), hg, hr, hc⟩
set_option maxHeartbeats 8000000 in
set_option maxRecDepth 100000 in
theorem octs_In_take.calls (g : Nat) (s0_0 : List Int) (s0_1 : Bool) (a1 : Int) (r1 : List Int) (r2 : List Int) (r3 : Bool) (w0 w : World) (hI : IsS117 w0 w g s0_0 s0_1) (hB : Below w0.heap.size w0 w) (h : octs_In_take.f s0_0 s0_1 a1 = some (r1, r2, r3)) :
  Calls Try.prog 74 #[.pointer (some ⟨g, 0, none⟩), .int .u64 a1] w fun e w' => ∃ v0_ : Value, e = .returned (v0_) ∧ Kd.R (Kd.int .u8) 5 w' w.heap.size (fun _ => True) v0_ r1 ∧ IsS117 w0 w' g r2 r3 ∧ Below w0.heap.size w0 w' ∧ KeepBut w w' g none := by
 have HI0 := Aside0.mk hI
 have HK := Aside0.mk (KeepBut.refl w g none)
 have HL := Aside0.mk hB.size
 have HB := Aside0.mk hB
 obtain ⟨ASz, cSz, HGz, hgz, HSz, HCz⟩ := hI
 have hcz_0 := cellS117_0 HGz
 have hcz_1 := cellS117_1 HGz
 have hfz_0 := blk_frozen HGz 0
 have hfz_1 := blk_frozen HGz 1
 have HM := Aside0.mk (Kd.C_max HSz)
 have HR := Aside0.mk HSz
 have HG := Aside0.mk hgz
 clear hgz HSz HGz hB
 unfold octs_In_take.f at h
 cases s0_1 with
 | true =>
  rw [if_pos rfl] at h
  simp only [Option.some.injEq, Prod.mk.injEq] at h
  obtain ⟨rfl, rfl, rfl⟩ := h
  go_enter Try.func74, Try.ntmps74
  go_wp2
  all_goals first | (go_ret; exact ⟨_, rfl, Kd.R_nil _ _ _ _ _, (S117_wipe HI0.out), (below_set (below_set HB.out HG.out) HG.out), (KeepBut.set_ (KeepBut.set_ HK.out 0 _) 1 _)⟩) | (exfalso; simp_all; done)
 | false =>
  rw [if_neg (by simp)] at h
  have hm := HM.out
  by_cases c1 : (s0_0.length : Int) < a1
  ·
   rw [if_pos c1] at h
   simp only [Option.some.injEq, Prod.mk.injEq] at h
   obtain ⟨rfl, rfl, rfl⟩ := h
   go_enter Try.func74, Try.ntmps74
   go_wp2
   all_goals first | (go_ret; exact ⟨_, rfl, Kd.R_nil _ _ _ _ _, (S117_wipe HI0.out), (below_set (below_set HB.out HG.out) HG.out), (KeepBut.set_ (KeepBut.set_ HK.out 0 _) 1 _)⟩) | (exfalso; simp_all; done)
  ·
   rw [if_neg c1] at h
   by_cases c2 : 0 ≤ a1
   ·
    rw [if_pos c2] at h
    by_cases c3 : s0_0.length < 140737488355328
    ·
     rw [if_pos c3] at h
     simp only [Option.some.injEq, Prod.mk.injEq] at h
     obtain ⟨rfl, rfl, rfl⟩ := h
     obtain ⟨n, rfl⟩ := Int.eq_ofNat_of_zero_le c2
     have hn : n ≤ s0_0.length := by omega
     have hnc : n ≤ cSz := Nat.le_trans hn HCz
     have c1' : ¬ (s0_0.length < n) := by omega
     clear c1 c2
     have hlt : (s0_0.take n).length = n := by rw [List.length_take]; omega
     have HT : ∀ W : World, Below w0.heap.size w0 W → Calls Try.prog 49 #[.slice ASz n cSz] W fun e w' => ∃ v0_ : Value, e = .returned (v0_) ∧ Kd.R (Kd.int .u8) 5 w' W.heap.size (fun _ => True) v0_ (s0_0.take n) ∧ Below W.heap.size W w' := fun W hW => by
      have hr := Kd.C_below (Kd.C_take HR.out hn) hW
      have := slices_Clone_byte_byte.calls ASz cSz (s0_0.take n) (s0_0.take n) W hr (by omega) (by unfold slices_Clone_byte_byte.f; rw [if_pos (by omega)])
      rwa [hlt] at this
     clear hlt
     have HC := Aside0.mk HT
     have HD := Aside0.mk (Kd.C_drop HR.out hn HCz)
     have HZ := Aside0.mk HCz
     clear HT HCz
     go_enter Try.func74, Try.ntmps74
     go_wp2_with fail
     refine (HC.out _ HB.out).mono ?_
     rintro e w1 ⟨v0, rfl, ho, hb⟩
     have hgl := IsS117.lt HI0.out
     have hc0 := (hb.cell (p := ⟨g, 0, none⟩) hgl).trans hcz_0
     have hf0 := (hb.frozen (p := ⟨g, 0, none⟩) hgl).trans hfz_0
     have HI1 := Aside0.mk (IsS117.below HI0.out hb)
     have HB1 := Aside0.mk (below_step HB.out hb)
     have HO := Aside0.mk ho
     have HN := Aside0.mk (IsS117.own_ne HI1.out ho (by decide))
     have HK1 := Aside0.mk (KeepBut.trans HK.out (KeepBut.of_below hb g none) (.inl rfl))
     have hz := HZ.out
     clear hcz_0 hcz_1 hfz_0 hfz_1 hgl hb ho HB HK HC HI0
     obtain ⟨A1_, c1_, HG1, hg1_, hr1_⟩ := HI1.out
     have HS := Aside0.mk (fun u : Value => Kd.R_set HO.out HG1 (by decide) 0 u)
     clear HG1 hg1_ hr1_
     have hl : s0_0.length - n = (s0_0.drop n).length := (List.length_drop).symm
     have HLn := Aside0.mk hl
     clear hl
     by_cases hcn : cSz = n
     ·
      have HE := Aside0.mk hcn
      have HD2 := HD.out
      rw [if_pos hcn] at HD2
      have HD3 := Aside0.mk HD2
      clear HD2
      go_wp2
      all_goals first | (go_ret; exact ⟨_, rfl, HS.out _, S117_put HI1.out _ _ _ _ HLn.out HD3.out (by show (s0_0.drop n).length ≤ _; rw [← HLn.out]; omega), below_set HB1.out HG.out, KeepBut.set_ HK1.out 0 _⟩) | (exfalso; simp_all; done)
     ·
      have HD2 := HD.out
      rw [if_neg hcn] at HD2
      simp only [show (Kd.int .u8).sz = 1 from rfl, Nat.mul_one] at HD2
      have HD3 := Aside0.mk HD2
      clear HD2
      go_wp2
      all_goals first | (go_ret; exact ⟨_, rfl, HS.out _, S117_put HI1.out _ _ _ _ HLn.out HD3.out (by show (s0_0.drop n).length ≤ _; rw [← HLn.out]; omega), below_set HB1.out HG.out, KeepBut.set_ HK1.out 0 _⟩) | (exfalso; simp_all; done)
    ·
     rw [if_neg c3] at h
     exact absurd h (by simp)
   ·
    rw [if_neg c2] at h
    exact absurd h (by simp)
theorem octs_In_take.callsB (g : Nat) (s0_0 : List Int) (s0_1 : Bool) (a1 : Int) (r1 : List Int) (r2 : List Int) (r3 : Bool) (w0 w : World) (hI : IsB117 w0 w g s0_0 s0_1) (hB : Below w0.heap.size w0 w) (h : octs_In_take.f s0_0 s0_1 a1 = some (r1, r2, r3)) :
  Calls Try.prog 74 #[.pointer (some ⟨g, 0, none⟩), .int .u64 a1] w fun e w' => ∃ v0_ : Value, e = .returned (v0_) ∧ Kd.R (Kd.int .u8) 5 w' w.heap.size (fun _ => True) v0_ r1 ∧ IsB117 w0 w' g r2 r3 ∧ Below w0.heap.size w0 w' ∧ KeepBut w w' g none := by
 obtain ⟨wb_, hs_, hv_, hi_⟩ := hI
 refine (octs_In_take.calls g s0_0 s0_1 a1 r1 r2 r3 wb_ w hi_ hv_ h).mono ?_
 rintro e_ w_ ⟨v0_, rfl, ho0_, hi2_, hb_, hk_⟩
 obtain ⟨h1_, h2_⟩ := IsB117.step hB ⟨wb_, hs_, hv_, hi_.ge, hb_, hi2_⟩ hk_
 exact ⟨v0_, rfl, ho0_, h1_, h2_, hk_⟩

/-! ### octs_In_Int: function 53 -/
def octs_In_Int.f (k : Nat) (s0_0 : List Int) (s0_1 : Bool) (a1 : Int) : Option (Int × List Int × Bool) := (octs_width.f a1).bind fun t135 => ((octs_In_take.f s0_0 s0_1 (IntKind.u64.wrap (t135))).bind fun bt136 => ((octs_number.f k bt136.1).bind fun t141 => (some (t141, bt136.2.1, bt136.2.2))))
theorem octs_In_Int.mono : ∀ a0 a1 a2 k, LeO (octs_In_Int.f k a0 a1 a2) (octs_In_Int.f (k + 1) a0 a1 a2) := by
 intro a0 a1 a2 k
 unfold octs_In_Int.f
 repeat' first
   | (with_reducible exact octs_number.mono _ _)
   | (with_reducible exact LeO.refl _)
   | (with_reducible exact LeO.none _)
   | (with_reducible refine LeO.ite ?_ ?_)
   | (with_reducible refine LeO.bind ?_ (fun _ => ?_))
   | exact octs_number.mono _ _
   | exact LeO.none _
   | refine LeO.ite ?_ ?_
   | refine LeO.bind ?_ (fun _ => ?_)
set_option maxHeartbeats 8000000 in
set_option maxRecDepth 100000 in
theorem octs_In_Int.calls (k : Nat) (g : Nat) (s0_0 : List Int) (s0_1 : Bool) (a1 : Int) (r1 : Int) (r2 : List Int) (r3 : Bool) (w0 w : World) (hI : IsS117 w0 w g s0_0 s0_1) (hB : Below w0.heap.size w0 w) (h : octs_In_Int.f k s0_0 s0_1 a1 = some (r1, r2, r3)) :
  Calls Try.prog 53 #[.pointer (some ⟨g, 0, none⟩), .int .i64 a1] w fun e w' => e = .returned (.int .u64 r1) ∧ IsS117 w0 w' g r2 r3 ∧ Below w0.heap.size w0 w' ∧ KeepBut w w' g none := by
 have HI0 := Aside0.mk hI
 have HK := Aside0.mk (KeepBut.refl w g none)
 have HL := Aside0.mk hB.size
 clear hI
 have HW0 := Aside0.mk hB.size
 have HB := Aside0.mk hB
 clear hB
 have H : ((octs_width.f a1).bind fun t135 => ((octs_In_take.f s0_0 s0_1 (IntKind.u64.wrap (t135))).bind fun bt136 => ((octs_number.f k bt136.1).bind fun t141 => (some (t141, bt136.2.1, bt136.2.2))))) = some (r1, r2, r3) := h
 clear h
 replace H := Option.bind_eq_some_iff.mp H
 obtain ⟨t135, A30, H⟩ := H
 replace H : ((octs_In_take.f s0_0 s0_1 (IntKind.u64.wrap (t135))).bind fun bt136 => ((octs_number.f k bt136.1).bind fun t141 => (some (t141, bt136.2.1, bt136.2.2)))) = some (r1, r2, r3) := H
 have A3 := Aside0.mk A30
 clear A30
 replace H := Option.bind_eq_some_iff.mp H
 obtain ⟨⟨t136, t139, t140⟩, A40, H⟩ := H
 replace H : ((octs_number.f k t136).bind fun t141 => (some (t141, t139, t140))) = some (r1, r2, r3) := H
 have A4 := Aside0.mk A40
 clear A40
 replace H := Option.bind_eq_some_iff.mp H
 obtain ⟨t141, A50, H⟩ := H
 replace H : (some (t141, t139, t140)) = some (r1, r2, r3) := H
 have A5 := Aside0.mk A50
 clear A50
 simp only [Option.some.injEq, Prod.mk.injEq] at H
 obtain ⟨rfl, rfl, rfl⟩ := H
 go_enter Try.func53, Try.ntmps53
 go_wp2_with (first | ((with_reducible refine gate_callee (f := 72) rfl ?_); refine goesL_ (some 7) rfl rfl Try.func72 (by kernel_rfl) rfl #[.int .i64 a1] rfl (by (try simp only [List.map_toArray, List.map_cons, List.map_nil]); first | done | rfl | (simp only [List.length_drop, List.length_take]; rfl)) ?_; (with_reducible refine (octs_width.calls a1 t135 _ A3.out).mono ?_); rintro e w6 ⟨rfl, hb⟩; refine ⟨_, rfl, ?_⟩; have n0_ := Aside0.mk (IsS117.below (by repeat (first | (with_reducible first | exact HI0.out | apply IsS117.alloc | apply IsS117.drewN | apply IsS117.drew | apply IsS117.set_1) | exact HI0.out)) hb); have n1_ := Aside0.mk (KeepBut.trans (by repeat (first | (with_reducible first | exact HK.out | apply KeepBut.set_ | apply keep_drewN | apply keep_drew | apply keep_alloc) | exact HK.out)) (KeepBut.of_below hb g none) (.inl rfl)); have n2_ := Aside0.mk (below_step (by repeat (first | (with_reducible first | exact HB.out | apply below_alloc | apply pw_below_drewN | apply below_drew1 | refine below_set ?_ (IsS117.ge HI0.out)) | exact HB.out)) hb); clear HI0; clear HK; clear HB; have HI0 := n0_; have HK := n1_; have HB := n2_; clear n0_ n1_ n2_; (try clear hb); (try clear hb2); (try clear hk); (try clear hi); (try clear hge)) | ((with_reducible refine gate_callee (f := 74) rfl ?_); refine goesL_ (some 9) rfl rfl Try.func74 (by kernel_rfl) rfl #[.pointer (some ⟨g, 0, none⟩), .int .u64 (IntKind.u64.wrap (t135))] rfl (by (try simp only [List.map_toArray, List.map_cons, List.map_nil]); first | done | rfl | (simp only [List.length_drop, List.length_take]; rfl)) ?_; (with_reducible refine (octs_In_take.calls g s0_0 s0_1 (IntKind.u64.wrap (t135)) t136 t139 t140 w0 _ ?side1 ?side2 A4.out).mono ?_); (case side1 => repeat (first | (with_reducible first | exact HI0.out | apply IsS117.alloc | apply IsS117.drewN | apply IsS117.drew | apply IsS117.set_1) | exact HI0.out)); (case side2 => repeat (first | (with_reducible first | exact HB.out | apply below_alloc | apply pw_below_drewN | apply below_drew1 | refine below_set ?_ (IsS117.ge HI0.out)) | exact HB.out)); rintro e w7 ⟨v137, rfl, ho0, hi, hb, hk⟩; refine ⟨_, rfl, ?_⟩; have n0_ := Aside0.mk (Kd.R_lower ho0 (keep_size (w := w) (g := g) (row := none) (by repeat (first | (with_reducible first | exact HK.out | apply KeepBut.set_ | apply keep_drewN | apply keep_drew | apply keep_alloc) | exact HK.out)))); have n1_ := Aside0.mk (KeepBut.trans (by repeat (first | (with_reducible first | exact HK.out | apply KeepBut.set_ | apply keep_drewN | apply keep_drew | apply keep_alloc) | exact HK.out)) hk (.inl rfl)); have n2_ := Aside0.mk (hb); have n3_ := Aside0.mk (hi); clear HK; clear HB; clear HI0; have HO138 := n0_; have HK := n1_; have HB := n2_; have HI0 := n3_; clear n0_ n1_ n2_ n3_; (try clear hb); (try clear hb2); (try clear hk); (try clear hi); (try clear hge); (try clear ho0); obtain ⟨Ao8, co8, eo8⟩ := Kd.R_slice HO138.out; subst eo8) | ((with_reducible refine gate_callee (f := 73) rfl ?_); refine goesL_ (some 10) rfl rfl Try.func73 (by kernel_rfl) rfl #[.slice Ao8 t136.length co8] rfl (by (try simp only [List.map_toArray, List.map_cons, List.map_nil]); first | done | rfl | (simp only [List.length_drop, List.length_take]; rfl)) ?_; (with_reducible refine (octs_number.calls k _ _ t136 t141 _ ?side1 ?side2 A5.out).mono ?_); (case side1 => repeat (first | exact (Kd.R_reads' HO138.out).2.2 | (with_reducible refine Kd.C_alloc ?_ _) | (with_reducible refine Kd.C_drewN ?_ _) | (with_reducible refine Kd.C_drew ?_))); (case side2 => exact (Kd.R_reads' HO138.out).2.1); rintro e w' ⟨rfl, ⟨nd, rfl⟩⟩; refine ⟨_, rfl, ?_⟩))
 all_goals first | (go_ret; exact ⟨by first | rfl | (simp [errW_none, errW_some]; done) | (simp [errW_none, errW_some]; rfl) | (simp [*, errW_none, errW_some]; done) | (simp [*, errW_none, errW_some]; rfl), by repeat (first | (with_reducible first | exact HI0.out | apply IsS117.alloc | apply IsS117.drewN | apply IsS117.drew | apply IsS117.set_1) | exact HI0.out), by repeat (first | (with_reducible first | exact HB.out | apply below_alloc | apply pw_below_drewN | apply below_drew1 | refine below_set ?_ (IsS117.ge HI0.out)) | exact HB.out), by repeat (first | (with_reducible first | exact HK.out | apply KeepBut.set_ | apply keep_drewN | apply keep_drew | apply keep_alloc) | exact HK.out)⟩) | (exfalso; simp_all; done)
theorem octs_In_Int.callsB (k : Nat) (g : Nat) (s0_0 : List Int) (s0_1 : Bool) (a1 : Int) (r1 : Int) (r2 : List Int) (r3 : Bool) (w0 w : World) (hI : IsB117 w0 w g s0_0 s0_1) (hB : Below w0.heap.size w0 w) (h : octs_In_Int.f k s0_0 s0_1 a1 = some (r1, r2, r3)) :
  Calls Try.prog 53 #[.pointer (some ⟨g, 0, none⟩), .int .i64 a1] w fun e w' => e = .returned (.int .u64 r1) ∧ IsB117 w0 w' g r2 r3 ∧ Below w0.heap.size w0 w' ∧ KeepBut w w' g none := by
 obtain ⟨wb_, hs_, hv_, hi_⟩ := hI
 refine (octs_In_Int.calls k g s0_0 s0_1 a1 r1 r2 r3 wb_ w hi_ hv_ h).mono ?_
 rintro e_ w_ ⟨rfl, hi2_, hb_, hk_⟩
 obtain ⟨h1_, h2_⟩ := IsB117.step hB ⟨wb_, hs_, hv_, hi_.ge, hb_, hi2_⟩ hk_
 exact ⟨rfl, h1_, h2_, hk_⟩

/-! ### octs_In_measured: function 75 -/
def octs_In_measured.f (k : Nat) (s0_0 : List Int) (s0_1 : Bool) (a1 : Int) : Option (List Int × List Int × Bool) :=
 if s0_1 = true then octs_In_take.f s0_0 s0_1 (IntKind.u64.wrap a1) else if (s0_0.length : Int) < a1 then octs_In_take.f s0_0 s0_1 (IntKind.u64.wrap a1) else
 if 0 ≤ a1 then (octs_number.f k (s0_0.take a1.toNat)).bind fun t => if (s0_0.length : Int) - a1 < t then some ([], [], true) else octs_In_take.f (s0_0.drop a1.toNat) false t else none
theorem octs_In_measured.mono : ∀ a0 a1 a2 k, LeO (octs_In_measured.f k a0 a1 a2) (octs_In_measured.f (k + 1) a0 a1 a2) := by
 intro a0 a1 a2 k
 unfold octs_In_measured.f
 repeat' first
   | (with_reducible exact octs_number.mono _ _)
   | (with_reducible exact LeO.refl _)
   | (with_reducible exact LeO.none _)
   | (with_reducible refine LeO.ite ?_ ?_)
   | (with_reducible refine LeO.bind ?_ (fun _ => ?_))
set_option maxHeartbeats 8000000 in
set_option maxRecDepth 100000 in
theorem octs_In_measured.calls (k : Nat) (g : Nat) (s0_0 : List Int) (s0_1 : Bool) (a1 : Int) (r1 : List Int) (r2 : List Int) (r3 : Bool) (w0 w : World) (hI : IsS117 w0 w g s0_0 s0_1) (hB : Below w0.heap.size w0 w) (h : octs_In_measured.f k s0_0 s0_1 a1 = some (r1, r2, r3)) :
  Calls Try.prog 75 #[.pointer (some ⟨g, 0, none⟩), .int .i64 a1] w fun e w' => ∃ v0_ : Value, e = .returned (v0_) ∧ Kd.R (Kd.int .u8) 5 w' w.heap.size (fun _ => True) v0_ r1 ∧ IsS117 w0 w' g r2 r3 ∧ Below w0.heap.size w0 w' ∧ KeepBut w w' g none := by
 have HI0 := Aside0.mk hI
 have HK := Aside0.mk (KeepBut.refl w g none)
 have HL := Aside0.mk hB.size
 have HB := Aside0.mk hB
 obtain ⟨ASz, cSz, HGz, hgz, HSz, HCz⟩ := hI
 have hcz_0 := cellS117_0 HGz
 have hcz_1 := cellS117_1 HGz
 have hfz_0 := blk_frozen HGz 0
 have hfz_1 := blk_frozen HGz 1
 have HM := Aside0.mk (Kd.C_max HSz)
 have HR := Aside0.mk HSz
 have HG := Aside0.mk hgz
 clear hgz HSz HGz hB
 have hm := HM.out
 unfold octs_In_measured.f at h
 cases s0_1 with
 | true =>
  rw [if_pos rfl] at h
  clear HCz
  have H' := Aside0.mk h
  clear h
  go_enter Try.func75, Try.ntmps75
  go_wp2_with (go_at_call 74; (with_reducible refine (octs_In_take.calls g s0_0 true _ r1 r2 r3 w0 _ HI0.out HB.out H'.out).mono ?_); rintro e w1 ⟨v0, rfl, ho, hi, hb, hk⟩)
  all_goals first | (go_ret; exact ⟨_, rfl, ho, hi, hb, hk⟩) | (exfalso; simp_all; done)
 | false =>
  rw [if_neg (by simp)] at h
  by_cases c1 : (s0_0.length : Int) < a1
  ·
   rw [if_pos c1] at h
   clear HCz
   have H' := Aside0.mk h
   clear h
   go_enter Try.func75, Try.ntmps75
   go_wp2_with (go_at_call 74; (with_reducible refine (octs_In_take.calls g s0_0 false _ r1 r2 r3 w0 _ HI0.out HB.out H'.out).mono ?_); rintro e w1 ⟨v0, rfl, ho, hi, hb, hk⟩)
   all_goals first | (go_ret; exact ⟨_, rfl, ho, hi, hb, hk⟩) | (exfalso; simp_all; done)
  ·
   rw [if_neg c1] at h
   by_cases c2 : 0 ≤ a1
   ·
    rw [if_pos c2] at h
    obtain ⟨n, rfl⟩ := Int.eq_ofNat_of_zero_le c2
    have hn : n ≤ s0_0.length := by omega
    have hnc : n ≤ cSz := Nat.le_trans hn HCz
    have c1' : ¬ (s0_0.length < n) := by omega
    rw [Int.toNat_natCast] at h
    obtain ⟨t, ht, h2⟩ := Option.bind_eq_some_iff.1 h
    have HZ := Aside0.mk HCz
    clear c1 c2 h HCz
    have hlt : (s0_0.take n).length = n := by rw [List.length_take]; omega
    have HT : ∀ W : World, Below w0.heap.size w0 W → Calls Try.prog 73 #[.slice ASz n cSz] W fun e w' => e = .returned (.int .u64 t) ∧ Drawn0 W w' := fun W hW => by
     have hr := Kd.C_below (Kd.C_take HR.out hn) hW
     have := octs_number.calls k ASz cSz (s0_0.take n) t W hr (by omega) ht
     rwa [hlt] at this
    clear hlt ht
    have HC := Aside0.mk HT
    have HD := Aside0.mk (Kd.C_drop HR.out hn HZ.out)
    clear HT
    have ew : wrap64 ((s0_0.length : Int) - n) = (s0_0.length : Int) - n := by unfold wrap64; omega
    have eu : IntKind.u64.wrap ((s0_0.length : Int) - n) = (s0_0.length : Int) - n := IntWalk.u64_in _ (by omega)
    have hl : s0_0.length - n = (s0_0.drop n).length := (List.length_drop).symm
    have HLn := Aside0.mk hl
    clear hl
    by_cases c3 : (s0_0.length : Int) - n < t
    ·
     rw [if_pos c3] at h2
     simp only [Option.some.injEq, Prod.mk.injEq] at h2
     obtain ⟨rfl, rfl, rfl⟩ := h2
     have c3b : decide ((s0_0.length : Int) - n < t) = true := decide_eq_true c3
     have EW := Aside0.mk ew
     have EU := Aside0.mk eu
     clear ew eu
     go_enter Try.func75, Try.ntmps75
     go_wp2_with (go_at_call 73; (with_reducible refine (HC.out _ HB.out).mono ?_); rintro e w1 ⟨rfl, ⟨m, rfl⟩⟩)
     all_goals first | (go_ret; exact ⟨_, rfl, Kd.R_nil _ _ _ _ _, S117_wipe (IsS117.drewN HI0.out m), below_set (below_set (pw_below_drewN HB.out m) HG.out) HG.out, KeepBut.set_ (KeepBut.set_ (keep_drewN HK.out m) 0 _) 1 _⟩) | (exfalso; simp_all; done)
    ·
     rw [if_neg c3] at h2
     have c3b : decide ((s0_0.length : Int) - n < t) = false := decide_eq_false c3
     have EW := Aside0.mk ew
     have EU := Aside0.mk eu
     clear ew eu
     have H' := Aside0.mk h2
     clear h2 c3
     have hz := HZ.out
     have HIa : ∀ m, IsS117 w0 (w.drewN m) g s0_0 false := fun m => IsS117.drewN HI0.out m
     by_cases hcn : cSz = n
     ·
      subst hcn
      have HD2 := HD.out
      rw [if_pos rfl] at HD2
      have HD3 := Aside0.mk HD2
      clear HD2
      have HI2 : ∀ m A, A = ASz → IsS117 w0 ((w.drewN m).setCell ⟨g, 0, none⟩ (.slice A 0 0)) g (s0_0.drop cSz) false := fun m A hA => by
       subst hA; exact S117_put (HIa m) _ _ _ _ (by rw [← HLn.out]; omega) HD3.out (by rw [← HLn.out]; omega)
      have HIx := Aside0.mk HI2
      clear HI2 HIa
      go_enter Try.func75, Try.ntmps75
      go_wp2_with (first | (go_at_call 73; (with_reducible refine (HC.out _ HB.out).mono ?_); rintro e w1 ⟨rfl, ⟨m, rfl⟩⟩) | (go_at_call 74; (with_reducible refine (octs_In_take.calls g (s0_0.drop cSz) false _ r1 r2 r3 w0 _ (HIx.out _ _ rfl) (below_set (pw_below_drewN HB.out _) HG.out) H'.out).mono ?_); rintro e w1 ⟨v0, rfl, ho, hi, hb, hk⟩))
      all_goals first | (go_ret; exact ⟨_, rfl, Kd.R_lower ho (by simp), hi, hb, KeepBut.trans (KeepBut.set_ (keep_drewN HK.out _) 0 _) hk (.inl rfl)⟩) | (exfalso; simp_all; done)
     ·
      have HD2 := HD.out
      rw [if_neg hcn] at HD2
      simp only [show (Kd.int .u8).sz = 1 from rfl, Nat.mul_one] at HD2
      have HD3 := Aside0.mk HD2
      clear HD2
      have HI2 : ∀ m A, A = ASz.map (·.add n) → IsS117 w0 ((w.drewN m).setCell ⟨g, 0, none⟩ (.slice A (s0_0.length - n) (cSz - n))) g (s0_0.drop n) false := fun m A hA => by
       subst hA; exact S117_put (HIa m) _ _ _ _ HLn.out HD3.out (by rw [← HLn.out]; omega)
      have HIx := Aside0.mk HI2
      clear HI2 HIa
      go_enter Try.func75, Try.ntmps75
      go_wp2_with (first | (go_at_call 73; (with_reducible refine (HC.out _ HB.out).mono ?_); rintro e w1 ⟨rfl, ⟨m, rfl⟩⟩) | (go_at_call 74; (with_reducible refine (octs_In_take.calls g (s0_0.drop n) false _ r1 r2 r3 w0 _ (HIx.out _ _ rfl) (below_set (pw_below_drewN HB.out _) HG.out) H'.out).mono ?_); rintro e w1 ⟨v0, rfl, ho, hi, hb, hk⟩))
      all_goals first | (go_ret; exact ⟨_, rfl, Kd.R_lower ho (by simp), hi, hb, KeepBut.trans (KeepBut.set_ (keep_drewN HK.out _) 0 _) hk (.inl rfl)⟩) | (exfalso; simp_all; done)
   ·
    rw [if_neg c2] at h
    exact absurd h (by simp)
theorem octs_In_measured.callsB (k : Nat) (g : Nat) (s0_0 : List Int) (s0_1 : Bool) (a1 : Int) (r1 : List Int) (r2 : List Int) (r3 : Bool) (w0 w : World) (hI : IsB117 w0 w g s0_0 s0_1) (hB : Below w0.heap.size w0 w) (h : octs_In_measured.f k s0_0 s0_1 a1 = some (r1, r2, r3)) :
  Calls Try.prog 75 #[.pointer (some ⟨g, 0, none⟩), .int .i64 a1] w fun e w' => ∃ v0_ : Value, e = .returned (v0_) ∧ Kd.R (Kd.int .u8) 5 w' w.heap.size (fun _ => True) v0_ r1 ∧ IsB117 w0 w' g r2 r3 ∧ Below w0.heap.size w0 w' ∧ KeepBut w w' g none := by
 obtain ⟨wb_, hs_, hv_, hi_⟩ := hI
 refine (octs_In_measured.calls k g s0_0 s0_1 a1 r1 r2 r3 wb_ w hi_ hv_ h).mono ?_
 rintro e_ w_ ⟨v0_, rfl, ho0_, hi2_, hb_, hk_⟩
 obtain ⟨h1_, h2_⟩ := IsB117.step hB ⟨wb_, hs_, hv_, hi_.ge, hb_, hi2_⟩ hk_
 exact ⟨v0_, rfl, ho0_, h1_, h2_, hk_⟩

/-! ### octs_In_Short: function 54 -/
def octs_In_Short.f (k : Nat) (s0_0 : List Int) (s0_1 : Bool) : Option (ByteArray × List Int × Bool) := (octs_In_measured.f k s0_0 s0_1 1).bind fun bt142 => (some (strOfNums bt142.1, bt142.2.1, bt142.2.2))
theorem octs_In_Short.mono : ∀ a0 a1 k, LeO (octs_In_Short.f k a0 a1) (octs_In_Short.f (k + 1) a0 a1) := by
 intro a0 a1 k
 unfold octs_In_Short.f
 repeat' first
   | (with_reducible exact octs_In_measured.mono _ _ _ _)
   | (with_reducible exact LeO.refl _)
   | (with_reducible exact LeO.none _)
   | (with_reducible refine LeO.ite ?_ ?_)
   | (with_reducible refine LeO.bind ?_ (fun _ => ?_))
   | exact octs_In_measured.mono _ _ _ _
   | exact LeO.none _
   | refine LeO.ite ?_ ?_
   | refine LeO.bind ?_ (fun _ => ?_)
set_option maxHeartbeats 8000000 in
set_option maxRecDepth 100000 in
theorem octs_In_Short.calls (k : Nat) (g : Nat) (s0_0 : List Int) (s0_1 : Bool) (r1 : ByteArray) (r2 : List Int) (r3 : Bool) (w0 w : World) (hI : IsS117 w0 w g s0_0 s0_1) (hB : Below w0.heap.size w0 w) (h : octs_In_Short.f k s0_0 s0_1 = some (r1, r2, r3)) :
  Calls Try.prog 54 #[.pointer (some ⟨g, 0, none⟩)] w fun e w' => e = .returned (.string r1) ∧ IsS117 w0 w' g r2 r3 ∧ Below w0.heap.size w0 w' ∧ KeepBut w w' g none := by
 have HI0 := Aside0.mk hI
 have HK := Aside0.mk (KeepBut.refl w g none)
 have HL := Aside0.mk hB.size
 clear hI
 have HW0 := Aside0.mk hB.size
 have HB := Aside0.mk hB
 clear hB
 have H : ((octs_In_measured.f k s0_0 s0_1 1).bind fun bt142 => (some (strOfNums bt142.1, bt142.2.1, bt142.2.2))) = some (r1, r2, r3) := h
 clear h
 replace H := Option.bind_eq_some_iff.mp H
 obtain ⟨⟨t142, t145, t146⟩, A20, H⟩ := H
 replace H : (some (strOfNums t142, t145, t146)) = some (r1, r2, r3) := H
 have A2 := Aside0.mk A20
 clear A20
 simp only [Option.some.injEq, Prod.mk.injEq] at H
 obtain ⟨rfl, rfl, rfl⟩ := H
 go_enter Try.func54, Try.ntmps54
 go_wp2_with (first | ((with_reducible refine gate_callee (f := 75) rfl ?_); refine goesL_ (some 4) rfl rfl Try.func75 (by kernel_rfl) rfl #[.pointer (some ⟨g, 0, none⟩), .int .i64 1] rfl (by (try simp only [List.map_toArray, List.map_cons, List.map_nil]); first | done | rfl | (simp only [List.length_drop, List.length_take]; rfl)) ?_; (with_reducible refine (octs_In_measured.calls k g s0_0 s0_1 1 t142 t145 t146 w0 _ ?side1 ?side2 A2.out).mono ?_); (case side1 => repeat (first | (with_reducible first | exact HI0.out | apply IsS117.alloc | apply IsS117.drewN | apply IsS117.drew | apply IsS117.set_1) | exact HI0.out)); (case side2 => repeat (first | (with_reducible first | exact HB.out | apply below_alloc | apply pw_below_drewN | apply below_drew1 | refine below_set ?_ (IsS117.ge HI0.out)) | exact HB.out)); rintro e w3 ⟨v143, rfl, ho0, hi, hb, hk⟩; refine ⟨_, rfl, ?_⟩; have n0_ := Aside0.mk (Kd.R_lower ho0 (keep_size (w := w) (g := g) (row := none) (by repeat (first | (with_reducible first | exact HK.out | apply KeepBut.set_ | apply keep_drewN | apply keep_drew | apply keep_alloc) | exact HK.out)))); have n1_ := Aside0.mk (KeepBut.trans (by repeat (first | (with_reducible first | exact HK.out | apply KeepBut.set_ | apply keep_drewN | apply keep_drew | apply keep_alloc) | exact HK.out)) hk (.inl rfl)); have n2_ := Aside0.mk (hb); have n3_ := Aside0.mk (hi); clear HK; clear HB; clear HI0; have HO144 := n0_; have HK := n1_; have HB := n2_; have HI0 := n3_; clear n0_ n1_ n2_ n3_; (try clear hb); (try clear hb2); (try clear hk); (try clear hi); (try clear hge); (try clear ho0); have hcv4 := own_string (P := Try.prog) Try.underlying26 Try.underlying5 Try.underlying9 (Kd.own_of_R HO144.out)))
 all_goals first | (go_ret; exact ⟨by first | rfl | (simp [errW_none, errW_some]; done) | (simp [errW_none, errW_some]; rfl) | (simp [*, errW_none, errW_some]; done) | (simp [*, errW_none, errW_some]; rfl), by repeat (first | (with_reducible first | exact HI0.out | apply IsS117.alloc | apply IsS117.drewN | apply IsS117.drew | apply IsS117.set_1) | exact HI0.out), by repeat (first | (with_reducible first | exact HB.out | apply below_alloc | apply pw_below_drewN | apply below_drew1 | refine below_set ?_ (IsS117.ge HI0.out)) | exact HB.out), by repeat (first | (with_reducible first | exact HK.out | apply KeepBut.set_ | apply keep_drewN | apply keep_drew | apply keep_alloc) | exact HK.out)⟩) | (exfalso; simp_all; done)
theorem octs_In_Short.callsB (k : Nat) (g : Nat) (s0_0 : List Int) (s0_1 : Bool) (r1 : ByteArray) (r2 : List Int) (r3 : Bool) (w0 w : World) (hI : IsB117 w0 w g s0_0 s0_1) (hB : Below w0.heap.size w0 w) (h : octs_In_Short.f k s0_0 s0_1 = some (r1, r2, r3)) :
  Calls Try.prog 54 #[.pointer (some ⟨g, 0, none⟩)] w fun e w' => e = .returned (.string r1) ∧ IsB117 w0 w' g r2 r3 ∧ Below w0.heap.size w0 w' ∧ KeepBut w w' g none := by
 obtain ⟨wb_, hs_, hv_, hi_⟩ := hI
 refine (octs_In_Short.calls k g s0_0 s0_1 r1 r2 r3 wb_ w hi_ hv_ h).mono ?_
 rintro e_ w_ ⟨rfl, hi2_, hb_, hk_⟩
 obtain ⟨h1_, h2_⟩ := IsB117.step hB ⟨wb_, hs_, hv_, hi_.ge, hb_, hi2_⟩ hk_
 exact ⟨rfl, h1_, h2_, hk_⟩

/-! ### octs_In_Ok: function 55 -/
def octs_In_Ok.f (s0_0 : List Int) (s0_1 : Bool) : Option (Bool × List Int × Bool) := some (!s0_1, s0_0, s0_1)
set_option maxHeartbeats 8000000 in
set_option maxRecDepth 100000 in
theorem octs_In_Ok.calls (g : Nat) (s0_0 : List Int) (s0_1 : Bool) (r1 : Bool) (r2 : List Int) (r3 : Bool) (w0 w : World) (hI : IsS117 w0 w g s0_0 s0_1) (hB : Below w0.heap.size w0 w) (h : octs_In_Ok.f s0_0 s0_1 = some (r1, r2, r3)) :
  Calls Try.prog 55 #[.pointer (some ⟨g, 0, none⟩)] w fun e w' => e = .returned (.bool r1) ∧ IsS117 w0 w' g r2 r3 ∧ Below w0.heap.size w0 w' ∧ KeepBut w w' g none := by
 have HI0 := Aside0.mk hI
 have HK := Aside0.mk (KeepBut.refl w g none)
 have HL := Aside0.mk hB.size
 clear hI
 have HW0 := Aside0.mk hB.size
 have HB := Aside0.mk hB
 clear hB
 have H : (some (!s0_1, s0_0, s0_1)) = some (r1, r2, r3) := h
 clear h
 simp only [Option.some.injEq, Prod.mk.injEq] at H
 obtain ⟨rfl, rfl, rfl⟩ := H
 obtain ⟨ASz2_0, cSz2_0, HGz2, hgz2, HSz2_0⟩ := HI0.out
 have hcz2_0 := cellS117_0 HGz2
 have hcz2_1 := cellS117_1 HGz2
 have hfz2_0 := blk_frozen HGz2 0
 have hfz2_1 := blk_frozen HGz2 1
 clear HGz2 hgz2
 go_enter Try.func55, Try.ntmps55
 go_wp2
 all_goals first | (go_ret; exact ⟨by first | rfl | (simp [errW_none, errW_some]; done) | (simp [errW_none, errW_some]; rfl) | (simp [*, errW_none, errW_some]; done) | (simp [*, errW_none, errW_some]; rfl), by repeat (first | (with_reducible first | exact HI0.out | apply IsS117.alloc | apply IsS117.drewN | apply IsS117.drew | apply IsS117.set_1) | exact HI0.out), by repeat (first | (with_reducible first | exact HB.out | apply below_alloc | apply pw_below_drewN | apply below_drew1 | refine below_set ?_ (IsS117.ge HI0.out)) | exact HB.out), by repeat (first | (with_reducible first | exact HK.out | apply KeepBut.set_ | apply keep_drewN | apply keep_drew | apply keep_alloc) | exact HK.out)⟩) | (exfalso; simp_all; done)
theorem octs_In_Ok.callsB (g : Nat) (s0_0 : List Int) (s0_1 : Bool) (r1 : Bool) (r2 : List Int) (r3 : Bool) (w0 w : World) (hI : IsB117 w0 w g s0_0 s0_1) (hB : Below w0.heap.size w0 w) (h : octs_In_Ok.f s0_0 s0_1 = some (r1, r2, r3)) :
  Calls Try.prog 55 #[.pointer (some ⟨g, 0, none⟩)] w fun e w' => e = .returned (.bool r1) ∧ IsB117 w0 w' g r2 r3 ∧ Below w0.heap.size w0 w' ∧ KeepBut w w' g none := by
 obtain ⟨wb_, hs_, hv_, hi_⟩ := hI
 refine (octs_In_Ok.calls g s0_0 s0_1 r1 r2 r3 wb_ w hi_ hv_ h).mono ?_
 rintro e_ w_ ⟨rfl, hi2_, hb_, hk_⟩
 obtain ⟨h1_, h2_⟩ := IsB117.step hB ⟨wb_, hs_, hv_, hi_.ge, hb_, hi2_⟩ hk_
 exact ⟨rfl, h1_, h2_, hk_⟩

end Go.Proofs.Ytpjkaodbcclecaa.PM
