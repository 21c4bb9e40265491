/- What functions of the given program come to, and that they do: written out of the translation by a program of this session; Lean checks it. -/
import Derived.Test.YtlhcjgmdcnmnnaaPB1x0
import Derived.Test.YtlhcjgmdcnmnnaaPB1x1
namespace Go.Proofs.Ytlhcjgmdcnmnnaa.PB1
open Go.RowKit Go.Proofs.YtlhcjgmdcnmnnaaW.PrintWords Go.Proofs.YtlhcjgmdcnmnnaaW.PrintLast Go.Proofs.YtlhcjgmdcnmnnaaW.PrintMore
attribute [local go_sem] max2_int min2_int max_two min_two max_three min_three max_four min_four   -- for this text's walks alone
set_option linter.unusedVariables false
set_option linter.unusedSimpArgs false

/-! ### octs_In_Ok: function 27 -/
def octs_In_Ok.f (s0_0 : List Int) (s0_1 : Bool) : Option (Bool × List Int × Bool) := some (!s0_1, s0_0, s0_1)
set_option maxHeartbeats 8000000 in
set_option maxRecDepth 100000 in
theorem octs_In_Ok.calls (g : Nat) (s0_0 : List Int) (s0_1 : Bool) (r1 : Bool) (r2 : List Int) (r3 : Bool) (w0 w : World) (hI : IsS91 w0 w g s0_0 s0_1) (hB : Below w0.heap.size w0 w) (h : octs_In_Ok.f s0_0 s0_1 = some (r1, r2, r3)) :
    Calls Try.prog 27 #[.pointer (some ⟨g, 0, none⟩)] w fun e w' => e = .returned (.bool r1) ∧ IsS91 w0 w' g r2 r3 ∧ Below w0.heap.size w0 w' ∧ KeepBut w w' g none := by
  have HI0 := Aside0.mk hI
  have HK := Aside0.mk (KeepBut.refl w g none)
  have HL := Aside0.mk hB.size
  clear hI
  have HW0 := Aside0.mk hB.size
  have HB := Aside0.mk hB
  clear hB
  have H : (some (!s0_1, s0_0, s0_1)) = some (r1, r2, r3) := h
  clear h
  simp only [Option.some.injEq, Prod.mk.injEq] at H
  obtain ⟨rfl, rfl, rfl⟩ := H
  obtain ⟨ASz2_0, cSz2_0, HGz2, hgz2, HSz2_0⟩ := HI0.out
  have hcz2_0 := cellS91_0 HGz2
  have hcz2_1 := cellS91_1 HGz2
  have hfz2_0 := blk_frozen HGz2 0
  have hfz2_1 := blk_frozen HGz2 1
  clear HGz2 hgz2
  go_enter Try.func27, Try.ntmps27
  go_wp2
  all_goals first | (go_ret; exact ⟨by first | rfl | (simp [errW_none, errW_some] <;> rfl) | (simp [*, errW_none, errW_some] <;> rfl), by repeat (first | (with_reducible first | exact HI0.out | apply IsS91.alloc | apply IsS91.drewN | apply IsS91.drew | apply IsS91.set_1) | exact HI0.out), by repeat (first | (with_reducible first | exact HB.out | apply below_alloc | apply pw_below_drewN | apply below_drew1 | refine below_set ?_ (IsS91.ge HI0.out)) | exact HB.out), by repeat (first | (with_reducible first | exact HK.out | apply KeepBut.set_ | apply keep_drewN | apply keep_drew | apply keep_alloc) | exact HK.out)⟩) | (exfalso; simp_all; done)
theorem octs_In_Ok.callsB (g : Nat) (s0_0 : List Int) (s0_1 : Bool) (r1 : Bool) (r2 : List Int) (r3 : Bool) (w0 w : World) (hI : IsB91 w0 w g s0_0 s0_1) (hB : Below w0.heap.size w0 w) (h : octs_In_Ok.f s0_0 s0_1 = some (r1, r2, r3)) :
    Calls Try.prog 27 #[.pointer (some ⟨g, 0, none⟩)] w fun e w' => e = .returned (.bool r1) ∧ IsB91 w0 w' g r2 r3 ∧ Below w0.heap.size w0 w' ∧ KeepBut w w' g none := by
  obtain ⟨wb_, hs_, hv_, hi_⟩ := hI
  refine (octs_In_Ok.calls g s0_0 s0_1 r1 r2 r3 wb_ w hi_ hv_ h).mono ?_
  rintro e_ w_ ⟨rfl, hi2_, hb_, hk_⟩
  obtain ⟨h1_, h2_⟩ := IsB91.step hB ⟨wb_, hs_, hv_, hi_.ge, hb_, hi2_⟩ hk_
  exact ⟨rfl, h1_, h2_, hk_⟩

/-! ### octs_In_measured: function 51 -/
def octs_In_measured.f (k : Nat) (s0_0 : List Int) (s0_1 : Bool) (a1 : Int) : Option (List Int × List Int × Bool) :=
  if s0_1 = true then octs_In_take.f s0_0 s0_1 (IntKind.u64.wrap a1) else if (s0_0.length : Int) < a1 then octs_In_take.f s0_0 s0_1 (IntKind.u64.wrap a1) else
  if 0 ≤ a1 then (octs_number.f k (s0_0.take a1.toNat)).bind fun t => if (s0_0.length : Int) - a1 < t then some ([], [], true) else octs_In_take.f (s0_0.drop a1.toNat) false t else none
theorem octs_In_measured.mono : ∀ a0 a1 a2 k, LeO (octs_In_measured.f k a0 a1 a2) (octs_In_measured.f (k + 1) a0 a1 a2) := by
  intro a0 a1 a2 k
  unfold octs_In_measured.f
  repeat' first
      | (with_reducible exact octs_number.mono _ _)
      | (with_reducible exact LeO.refl _)
      | (with_reducible exact LeO.none _)
      | (with_reducible refine LeO.ite ?_ ?_)
      | (with_reducible refine LeO.bind ?_ (fun _ => ?_))
set_option maxHeartbeats 8000000 in
set_option maxRecDepth 100000 in
theorem octs_In_measured.calls (k : Nat) (g : Nat) (s0_0 : List Int) (s0_1 : Bool) (a1 : Int) (r1 : List Int) (r2 : List Int) (r3 : Bool) (w0 w : World) (hI : IsS91 w0 w g s0_0 s0_1) (hB : Below w0.heap.size w0 w) (h : octs_In_measured.f k s0_0 s0_1 a1 = some (r1, r2, r3)) :
    Calls Try.prog 51 #[.pointer (some ⟨g, 0, none⟩), .int .i64 a1] w fun e w' => ∃ v0_ : Value, e = .returned (v0_) ∧ Kd.R (Kd.int .u8) 5 w' w.heap.size (fun _ => True) v0_ r1 ∧ IsS91 w0 w' g r2 r3 ∧ Below w0.heap.size w0 w' ∧ KeepBut w w' g none := by
  have HI0 := Aside0.mk hI
  have HK := Aside0.mk (KeepBut.refl w g none)
  have HL := Aside0.mk hB.size
  have HB := Aside0.mk hB
  obtain ⟨ASz, cSz, HGz, hgz, HSz, HCz⟩ := hI
  have hcz_0 := cellS91_0 HGz
  have hcz_1 := cellS91_1 HGz
  have hfz_0 := blk_frozen HGz 0
  have hfz_1 := blk_frozen HGz 1
  have HM := Aside0.mk (Kd.C_max HSz)
  have HR := Aside0.mk HSz
  have HG := Aside0.mk hgz
  clear hgz HSz HGz hB
  have hm := HM.out
  unfold octs_In_measured.f at h
  cases s0_1 with
  | true =>
    rw [if_pos rfl] at h
    clear HCz
    have H' := Aside0.mk h
    clear h
    go_enter Try.func51, Try.ntmps51
    go_wp2_with (go_at_call 50; (with_reducible refine (octs_In_take.calls g s0_0 true _ r1 r2 r3 w0 _ HI0.out HB.out H'.out).mono ?_); rintro e w1 ⟨v0, rfl, ho, hi, hb, hk⟩)
    all_goals first | (go_ret; exact ⟨_, rfl, ho, hi, hb, hk⟩) | (exfalso; simp_all; done)
  | false =>
    rw [if_neg (by simp)] at h
    by_cases c1 : (s0_0.length : Int) < a1
    · rw [if_pos c1] at h
      clear HCz
      have H' := Aside0.mk h
      clear h
      go_enter Try.func51, Try.ntmps51
      go_wp2_with (go_at_call 50; (with_reducible refine (octs_In_take.calls g s0_0 false _ r1 r2 r3 w0 _ HI0.out HB.out H'.out).mono ?_); rintro e w1 ⟨v0, rfl, ho, hi, hb, hk⟩)
      all_goals first | (go_ret; exact ⟨_, rfl, ho, hi, hb, hk⟩) | (exfalso; simp_all; done)
    · rw [if_neg c1] at h
      by_cases c2 : 0 ≤ a1
      · rw [if_pos c2] at h
        obtain ⟨n, rfl⟩ := Int.eq_ofNat_of_zero_le c2
        have hn : n ≤ s0_0.length := by omega
        have hnc : n ≤ cSz := Nat.le_trans hn HCz
        have c1' : ¬ (s0_0.length < n) := by omega
        rw [Int.toNat_natCast] at h
        obtain ⟨t, ht, h2⟩ := Option.bind_eq_some_iff.1 h
        have HZ := Aside0.mk HCz
        clear c1 c2 h HCz
        have hlt : (s0_0.take n).length = n := by rw [List.length_take]; omega
        have HT : ∀ W : World, Below w0.heap.size w0 W → Calls Try.prog 49 #[.slice ASz n cSz] W fun e w' => e = .returned (.int .u64 t) ∧ Drawn0 W w' := fun W hW => by
          have hr := Kd.C_below (Kd.C_take HR.out hn) hW
          have := octs_number.calls k ASz cSz (s0_0.take n) t W hr (by omega) ht
          rwa [hlt] at this
        clear hlt ht
        have HC := Aside0.mk HT
        have HD := Aside0.mk (Kd.C_drop HR.out hn HZ.out)
        clear HT
        have ew : wrap64 ((s0_0.length : Int) - n) = (s0_0.length : Int) - n := by unfold wrap64; omega
        have eu : IntKind.u64.wrap ((s0_0.length : Int) - n) = (s0_0.length : Int) - n := IntWalk.u64_in _ (by omega)
        have hl : s0_0.length - n = (s0_0.drop n).length := (List.length_drop).symm
        have HLn := Aside0.mk hl
        clear hl
        by_cases c3 : (s0_0.length : Int) - n < t
        · rw [if_pos c3] at h2
          simp only [Option.some.injEq, Prod.mk.injEq] at h2
          obtain ⟨rfl, rfl, rfl⟩ := h2
          have c3b : decide ((s0_0.length : Int) - n < t) = true := decide_eq_true c3
          have EW := Aside0.mk ew
          have EU := Aside0.mk eu
          clear ew eu
          go_enter Try.func51, Try.ntmps51
          go_wp2_with (go_at_call 49; (with_reducible refine (HC.out _ HB.out).mono ?_); rintro e w1 ⟨rfl, ⟨m, rfl⟩⟩)
          all_goals first | (go_ret; exact ⟨_, rfl, Kd.R_nil _ _ _ _ _, S91_wipe (IsS91.drewN HI0.out m), below_set (below_set (pw_below_drewN HB.out m) HG.out) HG.out, KeepBut.set_ (KeepBut.set_ (keep_drewN HK.out m) 0 _) 1 _⟩) | (exfalso; simp_all; done)
        · rw [if_neg c3] at h2
          have c3b : decide ((s0_0.length : Int) - n < t) = false := decide_eq_false c3
          have EW := Aside0.mk ew
          have EU := Aside0.mk eu
          clear ew eu
          have H' := Aside0.mk h2
          clear h2 c3
          have hz := HZ.out
          have HIa : ∀ m, IsS91 w0 (w.drewN m) g s0_0 false := fun m => IsS91.drewN HI0.out m
          by_cases hcn : cSz = n
          · subst hcn
            have HD2 := HD.out
            rw [if_pos rfl] at HD2
            have HD3 := Aside0.mk HD2
            clear HD2
            have HI2 : ∀ m A, A = ASz → IsS91 w0 ((w.drewN m).setCell ⟨g, 0, none⟩ (.slice A 0 0)) g (s0_0.drop cSz) false := fun m A hA => by
              subst hA; exact S91_put (HIa m) _ _ _ _ (by rw [← HLn.out]; omega) HD3.out (by rw [← HLn.out]; omega)
            have HIx := Aside0.mk HI2
            clear HI2 HIa
            go_enter Try.func51, Try.ntmps51
            go_wp2_with (first | (go_at_call 49; (with_reducible refine (HC.out _ HB.out).mono ?_); rintro e w1 ⟨rfl, ⟨m, rfl⟩⟩) | (go_at_call 50; (with_reducible refine (octs_In_take.calls g (s0_0.drop cSz) false _ r1 r2 r3 w0 _ (HIx.out _ _ rfl) (below_set (pw_below_drewN HB.out _) HG.out) H'.out).mono ?_); rintro e w1 ⟨v0, rfl, ho, hi, hb, hk⟩))
            all_goals first | (go_ret; exact ⟨_, rfl, Kd.R_lower ho (by simp), hi, hb, KeepBut.trans (KeepBut.set_ (keep_drewN HK.out _) 0 _) hk (.inl rfl)⟩) | (exfalso; simp_all; done)
          · have HD2 := HD.out
            rw [if_neg hcn] at HD2
            simp only [show (Kd.int .u8).sz = 1 from rfl, Nat.mul_one] at HD2
            have HD3 := Aside0.mk HD2
            clear HD2
            have HI2 : ∀ m A, A = ASz.map (·.add n) → IsS91 w0 ((w.drewN m).setCell ⟨g, 0, none⟩ (.slice A (s0_0.length - n) (cSz - n))) g (s0_0.drop n) false := fun m A hA => by
              subst hA; exact S91_put (HIa m) _ _ _ _ HLn.out HD3.out (by rw [← HLn.out]; omega)
            have HIx := Aside0.mk HI2
            clear HI2 HIa
            go_enter Try.func51, Try.ntmps51
            go_wp2_with (first | (go_at_call 49; (with_reducible refine (HC.out _ HB.out).mono ?_); rintro e w1 ⟨rfl, ⟨m, rfl⟩⟩) | (go_at_call 50; (with_reducible refine (octs_In_take.calls g (s0_0.drop n) false _ r1 r2 r3 w0 _ (HIx.out _ _ rfl) (below_set (pw_below_drewN HB.out _) HG.out) H'.out).mono ?_); rintro e w1 ⟨v0, rfl, ho, hi, hb, hk⟩))
            all_goals first | (go_ret; exact ⟨_, rfl, Kd.R_lower ho (by simp), hi, hb, KeepBut.trans (KeepBut.set_ (keep_drewN HK.out _) 0 _) hk (.inl rfl)⟩) | (exfalso; simp_all; done)
      · rw [if_neg c2] at h
        exact absurd h (by simp)
theorem octs_In_measured.callsB (k : Nat) (g : Nat) (s0_0 : List Int) (s0_1 : Bool) (a1 : Int) (r1 : List Int) (r2 : List Int) (r3 : Bool) (w0 w : World) (hI : IsB91 w0 w g s0_0 s0_1) (hB : Below w0.heap.size w0 w) (h : octs_In_measured.f k s0_0 s0_1 a1 = some (r1, r2, r3)) :
    Calls Try.prog 51 #[.pointer (some ⟨g, 0, none⟩), .int .i64 a1] w fun e w' => ∃ v0_ : Value, e = .returned (v0_) ∧ Kd.R (Kd.int .u8) 5 w' w.heap.size (fun _ => True) v0_ r1 ∧ IsB91 w0 w' g r2 r3 ∧ Below w0.heap.size w0 w' ∧ KeepBut w w' g none := by
  obtain ⟨wb_, hs_, hv_, hi_⟩ := hI
  refine (octs_In_measured.calls k g s0_0 s0_1 a1 r1 r2 r3 wb_ w hi_ hv_ h).mono ?_
  rintro e_ w_ ⟨v0_, rfl, ho0_, hi2_, hb_, hk_⟩
  obtain ⟨h1_, h2_⟩ := IsB91.step hB ⟨wb_, hs_, hv_, hi_.ge, hb_, hi2_⟩ hk_
  exact ⟨v0_, rfl, ho0_, h1_, h2_, hk_⟩

/-! ### octs_In_Short: function 31 -/
def octs_In_Short.f (k : Nat) (s0_0 : List Int) (s0_1 : Bool) : Option (ByteArray × List Int × Bool) := (octs_In_measured.f k s0_0 s0_1 1).bind fun bt117 => (some (strOfNums bt117.1, bt117.2.1, bt117.2.2))
theorem octs_In_Short.mono : ∀ a0 a1 k, LeO (octs_In_Short.f k a0 a1) (octs_In_Short.f (k + 1) a0 a1) := by
  intro a0 a1 k
  unfold octs_In_Short.f
  repeat' first
      | (with_reducible exact octs_In_measured.mono _ _ _ _)
      | (with_reducible exact LeO.refl _)
      | (with_reducible exact LeO.none _)
      | (with_reducible refine LeO.ite ?_ ?_)
      | (with_reducible refine LeO.bind ?_ (fun _ => ?_))
      | exact octs_In_measured.mono _ _ _ _
      | exact LeO.none _
      | refine LeO.ite ?_ ?_
      | refine LeO.bind ?_ (fun _ => ?_)
set_option maxHeartbeats 8000000 in
set_option maxRecDepth 100000 in
theorem octs_In_Short.calls (k : Nat) (g : Nat) (s0_0 : List Int) (s0_1 : Bool) (r1 : ByteArray) (r2 : List Int) (r3 : Bool) (w0 w : World) (hI : IsS91 w0 w g s0_0 s0_1) (hB : Below w0.heap.size w0 w) (h : octs_In_Short.f k s0_0 s0_1 = some (r1, r2, r3)) :
    Calls Try.prog 31 #[.pointer (some ⟨g, 0, none⟩)] w fun e w' => e = .returned (.string r1) ∧ IsS91 w0 w' g r2 r3 ∧ Below w0.heap.size w0 w' ∧ KeepBut w w' g none := by
  have HI0 := Aside0.mk hI
  have HK := Aside0.mk (KeepBut.refl w g none)
  have HL := Aside0.mk hB.size
  clear hI
  have HW0 := Aside0.mk hB.size
  have HB := Aside0.mk hB
  clear hB
  have H : ((octs_In_measured.f k s0_0 s0_1 1).bind fun bt117 => (some (strOfNums bt117.1, bt117.2.1, bt117.2.2))) = some (r1, r2, r3) := h
  clear h
  replace H := Option.bind_eq_some_iff.mp H
  obtain ⟨⟨t117, t120, t121⟩, A20, H⟩ := H
  replace H : (some (strOfNums t117, t120, t121)) = some (r1, r2, r3) := H
  have A2 := Aside0.mk A20
  clear A20
  simp only [Option.some.injEq, Prod.mk.injEq] at H
  obtain ⟨rfl, rfl, rfl⟩ := H
  go_enter Try.func31, Try.ntmps31
  go_wp2_with (first | ((with_reducible refine gate_callee (f := 51) rfl ?_); refine goesL_ (some 4) rfl rfl Try.func51 (by kernel_rfl) rfl #[.pointer (some ⟨g, 0, none⟩), .int .i64 1] rfl (by (try simp only [List.map_toArray, List.map_cons, List.map_nil]); first | done | rfl | (simp only [List.length_drop, List.length_take]; rfl)) ?_; (with_reducible refine (octs_In_measured.calls k g s0_0 s0_1 1 t117 t120 t121 w0 _ ?side1 ?side2 A2.out).mono ?_); (case side1 => repeat (first | (with_reducible first | exact HI0.out | apply IsS91.alloc | apply IsS91.drewN | apply IsS91.drew | apply IsS91.set_1) | exact HI0.out)); (case side2 => repeat (first | (with_reducible first | exact HB.out | apply below_alloc | apply pw_below_drewN | apply below_drew1 | refine below_set ?_ (IsS91.ge HI0.out)) | exact HB.out)); rintro e w3 ⟨v118, rfl, ho0, hi, hb, hk⟩; refine ⟨_, rfl, ?_⟩; have n0_ := Aside0.mk (Kd.R_lower ho0 (keep_size (w := w) (g := g) (row := none) (by repeat (first | (with_reducible first | exact HK.out | apply KeepBut.set_ | apply keep_drewN | apply keep_drew | apply keep_alloc) | exact HK.out)))); have n1_ := Aside0.mk (KeepBut.trans (by repeat (first | (with_reducible first | exact HK.out | apply KeepBut.set_ | apply keep_drewN | apply keep_drew | apply keep_alloc) | exact HK.out)) hk (.inl rfl)); have n2_ := Aside0.mk (hb); have n3_ := Aside0.mk (hi); clear HK; clear HB; clear HI0; have HO119 := n0_; have HK := n1_; have HB := n2_; have HI0 := n3_; clear n0_ n1_ n2_ n3_; (try clear hb); (try clear hb2); (try clear hk); (try clear hi); (try clear hge); (try clear ho0); have hcv4 := own_string (P := Try.prog) Try.underlying26 Try.underlying5 Try.underlying9 (Kd.own_of_R HO119.out)))
  all_goals first | (go_ret; exact ⟨by first | rfl | (simp [errW_none, errW_some] <;> rfl) | (simp [*, errW_none, errW_some] <;> rfl), by repeat (first | (with_reducible first | exact HI0.out | apply IsS91.alloc | apply IsS91.drewN | apply IsS91.drew | apply IsS91.set_1) | exact HI0.out), by repeat (first | (with_reducible first | exact HB.out | apply below_alloc | apply pw_below_drewN | apply below_drew1 | refine below_set ?_ (IsS91.ge HI0.out)) | exact HB.out), by repeat (first | (with_reducible first | exact HK.out | apply KeepBut.set_ | apply keep_drewN | apply keep_drew | apply keep_alloc) | exact HK.out)⟩) | (exfalso; simp_all; done)
theorem octs_In_Short.callsB (k : Nat) (g : Nat) (s0_0 : List Int) (s0_1 : Bool) (r1 : ByteArray) (r2 : List Int) (r3 : Bool) (w0 w : World) (hI : IsB91 w0 w g s0_0 s0_1) (hB : Below w0.heap.size w0 w) (h : octs_In_Short.f k s0_0 s0_1 = some (r1, r2, r3)) :
    Calls Try.prog 31 #[.pointer (some ⟨g, 0, none⟩)] w fun e w' => e = .returned (.string r1) ∧ IsB91 w0 w' g r2 r3 ∧ Below w0.heap.size w0 w' ∧ KeepBut w w' g none := by
  obtain ⟨wb_, hs_, hv_, hi_⟩ := hI
  refine (octs_In_Short.calls k g s0_0 s0_1 r1 r2 r3 wb_ w hi_ hv_ h).mono ?_
  rintro e_ w_ ⟨rfl, hi2_, hb_, hk_⟩
  obtain ⟨h1_, h2_⟩ := IsB91.step hB ⟨wb_, hs_, hv_, hi_.ge, hb_, hi2_⟩ hk_
  exact ⟨rfl, h1_, h2_, hk_⟩

/-! ### octs_In_Left: function 35 -/
def octs_In_Left.f (s0_0 : List Int) (s0_1 : Bool) : Option (Int × List Int × Bool) := some ((s0_0.length : Int), s0_0, s0_1)
set_option maxHeartbeats 8000000 in
set_option maxRecDepth 100000 in
theorem octs_In_Left.calls (g : Nat) (s0_0 : List Int) (s0_1 : Bool) (r1 : Int) (r2 : List Int) (r3 : Bool) (w0 w : World) (hI : IsS91 w0 w g s0_0 s0_1) (hB : Below w0.heap.size w0 w) (h : octs_In_Left.f s0_0 s0_1 = some (r1, r2, r3)) :
    Calls Try.prog 35 #[.pointer (some ⟨g, 0, none⟩)] w fun e w' => e = .returned (.int .i64 r1) ∧ IsS91 w0 w' g r2 r3 ∧ Below w0.heap.size w0 w' ∧ KeepBut w w' g none := by
  have HI0 := Aside0.mk hI
  have HK := Aside0.mk (KeepBut.refl w g none)
  have HL := Aside0.mk hB.size
  clear hI
  have HW0 := Aside0.mk hB.size
  have HB := Aside0.mk hB
  clear hB
  have H : (some ((s0_0.length : Int), s0_0, s0_1)) = some (r1, r2, r3) := h
  clear h
  simp only [Option.some.injEq, Prod.mk.injEq] at H
  obtain ⟨rfl, rfl, rfl⟩ := H
  obtain ⟨ASz2_0, cSz2_0, HGz2, hgz2, HSz2_0⟩ := HI0.out
  have hcz2_0 := cellS91_0 HGz2
  have hcz2_1 := cellS91_1 HGz2
  have hfz2_0 := blk_frozen HGz2 0
  have hfz2_1 := blk_frozen HGz2 1
  clear HGz2 hgz2
  go_enter Try.func35, Try.ntmps35
  go_wp2
  all_goals first | (go_ret; exact ⟨by first | rfl | (simp [errW_none, errW_some] <;> rfl) | (simp [*, errW_none, errW_some] <;> rfl), by repeat (first | (with_reducible first | exact HI0.out | apply IsS91.alloc | apply IsS91.drewN | apply IsS91.drew | apply IsS91.set_1) | exact HI0.out), by repeat (first | (with_reducible first | exact HB.out | apply below_alloc | apply pw_below_drewN | apply below_drew1 | refine below_set ?_ (IsS91.ge HI0.out)) | exact HB.out), by repeat (first | (with_reducible first | exact HK.out | apply KeepBut.set_ | apply keep_drewN | apply keep_drew | apply keep_alloc) | exact HK.out)⟩) | (exfalso; simp_all; done)
theorem octs_In_Left.callsB (g : Nat) (s0_0 : List Int) (s0_1 : Bool) (r1 : Int) (r2 : List Int) (r3 : Bool) (w0 w : World) (hI : IsB91 w0 w g s0_0 s0_1) (hB : Below w0.heap.size w0 w) (h : octs_In_Left.f s0_0 s0_1 = some (r1, r2, r3)) :
    Calls Try.prog 35 #[.pointer (some ⟨g, 0, none⟩)] w fun e w' => e = .returned (.int .i64 r1) ∧ IsB91 w0 w' g r2 r3 ∧ Below w0.heap.size w0 w' ∧ KeepBut w w' g none := by
  obtain ⟨wb_, hs_, hv_, hi_⟩ := hI
  refine (octs_In_Left.calls g s0_0 s0_1 r1 r2 r3 wb_ w hi_ hv_ h).mono ?_
  rintro e_ w_ ⟨rfl, hi2_, hb_, hk_⟩
  obtain ⟨h1_, h2_⟩ := IsB91.step hB ⟨wb_, hs_, hv_, hi_.ge, hb_, hi2_⟩ hk_
  exact ⟨rfl, h1_, h2_, hk_⟩

/-! ### waybilllaw1_awake: function 28 -/
def waybilllaw1_awake.f (k : Nat)  : Option (Bool) := (octs_From.f (([1, 2, 1, 97, 9] : List Int))).bind fun bt125 => ((octs_In_Int.f k bt125.1 bt125.2 2).bind fun bt128 => ((octs_In_Short.f k bt128.2.1 bt128.2.2).bind fun bt131 => ((octs_Int.f k ([] : List Int) 2 258).bind fun t134 => (if bt128.1 = 258 then (if bt131.1.toList = ([97] : List UInt8) then ((octs_In_Left.f bt131.2.1 bt131.2.2).bind fun bt137 => (if bt137.1 = 1 then ((octs_In_Ok.f bt137.2.1 bt137.2.2).bind fun bt140 => (if bt140.1 = true then (if (t134.length : Int) = 2 then (if 0 < (t134.length : Int) then (if (rd t134 0) = 1 then (if 1 < (t134.length : Int) then (some ((rd t134 1) == 2)) else (none)) else (none)) else (none)) else (none)) else (none))) else (none))) else (none)) else (none)))))
theorem waybilllaw1_awake.mono : ∀ k, LeO (waybilllaw1_awake.f k ) (waybilllaw1_awake.f (k + 1) ) := by
  intro  k
  unfold waybilllaw1_awake.f
  repeat' first
      | (with_reducible exact octs_In_Int.mono _ _ _ _)
      | (with_reducible exact octs_In_Short.mono _ _ _)
      | (with_reducible exact octs_Int.mono _ _ _ _)
      | (with_reducible exact LeO.refl _)
      | (with_reducible exact LeO.none _)
      | (with_reducible refine LeO.ite ?_ ?_)
      | (with_reducible refine LeO.bind ?_ (fun _ => ?_))
      | exact octs_In_Int.mono _ _ _ _
      | exact octs_In_Short.mono _ _ _
      | exact octs_Int.mono _ _ _ _
      | exact LeO.none _
      | refine LeO.ite ?_ ?_
      | refine LeO.bind ?_ (fun _ => ?_)
set_option maxHeartbeats 8000000 in
set_option maxRecDepth 100000 in
theorem waybilllaw1_awake.calls (k : Nat)  (r : Bool) (w : World) (h : waybilllaw1_awake.f k  = some r) :
    Calls Try.prog 28 #[] w fun e w' => e = .returned (.bool r) ∧ Below w.heap.size w w' := by
  have hpe45 := fun (W : World) (p : Option Addr) => run_eql_pointer_nil (P := Try.prog) (w := W) 45 p (by kernel_rfl)
  have hpn45 := fun (W : World) (p : Option Addr) => run_neq_pointer_nil (P := Try.prog) (w := W) 45 p (by kernel_rfl)
  have HB := Aside0.mk (Below.refl w.heap.size w)
  have H : ((octs_From.f (([1, 2, 1, 97, 9] : List Int))).bind fun bt125 => ((octs_In_Int.f k bt125.1 bt125.2 2).bind fun bt128 => ((octs_In_Short.f k bt128.2.1 bt128.2.2).bind fun bt131 => ((octs_Int.f k ([] : List Int) 2 258).bind fun t134 => (if bt128.1 = 258 then (if bt131.1.toList = ([97] : List UInt8) then ((octs_In_Left.f bt131.2.1 bt131.2.2).bind fun bt137 => (if bt137.1 = 1 then ((octs_In_Ok.f bt137.2.1 bt137.2.2).bind fun bt140 => (if bt140.1 = true then (if (t134.length : Int) = 2 then (if 0 < (t134.length : Int) then (if (rd t134 0) = 1 then (if 1 < (t134.length : Int) then (some ((rd t134 1) == 2)) else (none)) else (none)) else (none)) else (none)) else (none))) else (none))) else (none)) else (none)))))) = some r := h
  clear h
  obtain ⟨y122, hy122⟩ : ∃ y_ : List Int, y_ = (([1, 2, 1, 97, 9] : List Int)) := ⟨_, rfl⟩
  replace H : ((octs_From.f y122).bind fun bt125 => ((octs_In_Int.f k bt125.1 bt125.2 2).bind fun bt128 => ((octs_In_Short.f k bt128.2.1 bt128.2.2).bind fun bt131 => ((octs_Int.f k ([] : List Int) 2 258).bind fun t134 => (if bt128.1 = 258 then (if bt131.1.toList = ([97] : List UInt8) then ((octs_In_Left.f bt131.2.1 bt131.2.2).bind fun bt137 => (if bt137.1 = 1 then ((octs_In_Ok.f bt137.2.1 bt137.2.2).bind fun bt140 => (if bt140.1 = true then (if (t134.length : Int) = 2 then (if 0 < (t134.length : Int) then (if (rd t134 0) = 1 then (if 1 < (t134.length : Int) then (some ((rd t134 1) == 2)) else (none)) else (none)) else (none)) else (none)) else (none))) else (none))) else (none)) else (none)))))) = some r := by first | (rw [hy122]; with_reducible exact H) | (have H2_ := (Option.bind_some _ _).symm.trans H; rw [hy122]; with_reducible exact H2_) | (have H2_ := (Option.bind_some _ _).symm.trans H; with_reducible exact H2_) | with_reducible exact H | (rw [hy122]; exact H) | exact H
  have Ny122 := Aside0.mk hy122
  clear hy122
  replace H := Option.bind_eq_some_iff.mp H
  obtain ⟨⟨t125, t126⟩, A10, H⟩ := H
  replace H : ((octs_In_Int.f k t125 t126 2).bind fun bt128 => ((octs_In_Short.f k bt128.2.1 bt128.2.2).bind fun bt131 => ((octs_Int.f k ([] : List Int) 2 258).bind fun t134 => (if bt128.1 = 258 then (if bt131.1.toList = ([97] : List UInt8) then ((octs_In_Left.f bt131.2.1 bt131.2.2).bind fun bt137 => (if bt137.1 = 1 then ((octs_In_Ok.f bt137.2.1 bt137.2.2).bind fun bt140 => (if bt140.1 = true then (if (t134.length : Int) = 2 then (if 0 < (t134.length : Int) then (if (rd t134 0) = 1 then (if 1 < (t134.length : Int) then (some ((rd t134 1) == 2)) else (none)) else (none)) else (none)) else (none)) else (none))) else (none))) else (none)) else (none))))) = some r := H
  have A1 := Aside0.mk A10
  clear A10
  replace H := Option.bind_eq_some_iff.mp H
  obtain ⟨⟨t128, t129, t130⟩, A20, H⟩ := H
  replace H : ((octs_In_Short.f k t129 t130).bind fun bt131 => ((octs_Int.f k ([] : List Int) 2 258).bind fun t134 => (if t128 = 258 then (if bt131.1.toList = ([97] : List UInt8) then ((octs_In_Left.f bt131.2.1 bt131.2.2).bind fun bt137 => (if bt137.1 = 1 then ((octs_In_Ok.f bt137.2.1 bt137.2.2).bind fun bt140 => (if bt140.1 = true then (if (t134.length : Int) = 2 then (if 0 < (t134.length : Int) then (if (rd t134 0) = 1 then (if 1 < (t134.length : Int) then (some ((rd t134 1) == 2)) else (none)) else (none)) else (none)) else (none)) else (none))) else (none))) else (none)) else (none)))) = some r := H
  have A2 := Aside0.mk A20
  clear A20
  replace H := Option.bind_eq_some_iff.mp H
  obtain ⟨⟨t131, t132, t133⟩, A30, H⟩ := H
  replace H : ((octs_Int.f k ([] : List Int) 2 258).bind fun t134 => (if t128 = 258 then (if t131.toList = ([97] : List UInt8) then ((octs_In_Left.f t132 t133).bind fun bt137 => (if bt137.1 = 1 then ((octs_In_Ok.f bt137.2.1 bt137.2.2).bind fun bt140 => (if bt140.1 = true then (if (t134.length : Int) = 2 then (if 0 < (t134.length : Int) then (if (rd t134 0) = 1 then (if 1 < (t134.length : Int) then (some ((rd t134 1) == 2)) else (none)) else (none)) else (none)) else (none)) else (none))) else (none))) else (none)) else (none))) = some r := H
  have A3 := Aside0.mk A30
  clear A30
  replace H := Option.bind_eq_some_iff.mp H
  obtain ⟨t134, A40, H⟩ := H
  replace H : (if t128 = 258 then (if t131.toList = ([97] : List UInt8) then ((octs_In_Left.f t132 t133).bind fun bt137 => (if bt137.1 = 1 then ((octs_In_Ok.f bt137.2.1 bt137.2.2).bind fun bt140 => (if bt140.1 = true then (if (t134.length : Int) = 2 then (if 0 < (t134.length : Int) then (if (rd t134 0) = 1 then (if 1 < (t134.length : Int) then (some ((rd t134 1) == 2)) else (none)) else (none)) else (none)) else (none)) else (none))) else (none))) else (none)) else (none)) = some r := H
  have A4 := Aside0.mk A40
  clear A40
  by_cases c5 : t128 = 258
  · rw [if_pos c5] at H
    have c5b0 : (t128 == 258) = true := beq_iff_eq.mpr c5
    have c5b1 : (t128 != 258) = false := bne_eq_false_iff_eq.mpr c5
    clear c5
    by_cases c6 : t131.toList = ([97] : List UInt8)
    · rw [if_pos c6] at H
      have c6b0 : (t131.toList == ([97] : List UInt8)) = true := beq_iff_eq.mpr c6
      have c6b1 : (t131.toList != ([97] : List UInt8)) = false := bne_eq_false_iff_eq.mpr c6
      clear c6
      replace H := Option.bind_eq_some_iff.mp H
      obtain ⟨⟨t137, t138, t139⟩, A70, H⟩ := H
      replace H : (if t137 = 1 then ((octs_In_Ok.f t138 t139).bind fun bt140 => (if bt140.1 = true then (if (t134.length : Int) = 2 then (if 0 < (t134.length : Int) then (if (rd t134 0) = 1 then (if 1 < (t134.length : Int) then (some ((rd t134 1) == 2)) else (none)) else (none)) else (none)) else (none)) else (none))) else (none)) = some r := H
      have A7 := Aside0.mk A70
      clear A70
      by_cases c8 : t137 = 1
      · rw [if_pos c8] at H
        have c8b0 : (t137 == 1) = true := beq_iff_eq.mpr c8
        have c8b1 : (t137 != 1) = false := bne_eq_false_iff_eq.mpr c8
        clear c8
        replace H := Option.bind_eq_some_iff.mp H
        obtain ⟨⟨t140, t141, t142⟩, A90, H⟩ := H
        replace H : (if t140 = true then (if (t134.length : Int) = 2 then (if 0 < (t134.length : Int) then (if (rd t134 0) = 1 then (if 1 < (t134.length : Int) then (some ((rd t134 1) == 2)) else (none)) else (none)) else (none)) else (none)) else (none)) = some r := H
        have A9 := Aside0.mk A90
        clear A90
        by_cases c10 : t140 = true
        · subst c10
          have H1 : (if (t134.length : Int) = 2 then (if 0 < (t134.length : Int) then (if (rd t134 0) = 1 then (if 1 < (t134.length : Int) then (some ((rd t134 1) == 2)) else (none)) else (none)) else (none)) else (none)) = some r := by rw [if_pos rfl] at H; exact H
          clear H
          have H := H1
          clear H1
          by_cases c11 : (t134.length : Int) = 2
          · rw [if_pos c11] at H
            have c11b0 : ((t134.length : Int) == 2) = true := beq_iff_eq.mpr c11
            have c11b1 : ((t134.length : Int) != 2) = false := bne_eq_false_iff_eq.mpr c11
            clear c11
            by_cases c12 : 0 < (t134.length : Int)
            · rw [if_pos c12] at H
              have c12b0 : decide (0 < (t134.length : Int)) = true := decide_eq_true c12
              have c12b1 : decide (0 < t134.length) = true := decide_eq_true (by omega)
              clear c12
              by_cases c13 : (rd t134 0) = 1
              · rw [if_pos c13] at H
                have c13b0 : ((rd t134 0) == 1) = true := beq_iff_eq.mpr c13
                have c13b1 : ((rd t134 0) != 1) = false := bne_eq_false_iff_eq.mpr c13
                clear c13
                by_cases c14 : 1 < (t134.length : Int)
                · rw [if_pos c14] at H
                  have c14b0 : decide (1 < (t134.length : Int)) = true := decide_eq_true c14
                  have c14b1 : decide (1 < t134.length) = true := decide_eq_true (by omega)
                  clear c14
                  obtain rfl := Option.some.inj H
                  go_enter Try.func28, Try.ntmps28
                  go_wp2_with (first | ((with_reducible refine gate_dst (N := 5) rfl ?_); (try (refine gate_guard (by rfl) ?_; dsimp only)); refine Kd.R_lit (Kd.int .u8) _ 5 ?hg (N := 5) ?hd (xs := ([1, 2, 1, 97, 9] : List Int)) (inner := [.int .u8 1, .int .u8 2, .int .u8 1, .int .u8 97, .int .u8 9]) (ok := fun _ => True) (okp := fun _ => True) ?hr ?hp (fun _ hk => hk) trivial (Below.refl _ _) (Nat.le_refl _) (by simp) ?_; (case hd => rfl); (case hg => rfl); (case hr => first | (go_simp; done) | (go_simp; rfl)); (case hp => exact (Reps.one (show Kd.M (Kd.int .u8) _ _ _ 1 [.int .u8 1] from rfl) (Reps.one (show Kd.M (Kd.int .u8) _ _ _ 2 [.int .u8 2] from rfl) (Reps.one (show Kd.M (Kd.int .u8) _ _ _ 1 [.int .u8 1] from rfl) (Reps.one (show Kd.M (Kd.int .u8) _ _ _ 97 [.int .u8 97] from rfl) (Reps.one (show Kd.M (Kd.int .u8) _ _ _ 9 [.int .u8 9] from rfl) (Reps.none _ _))))))); intro v123 w15 ho16 hb hg_ hnew_; clear hg_ hnew_; (first | rw [← Ny122.out] at ho16 | (simp only [Int.reduceToNat] at ho16; rw [← Ny122.out] at ho16)); have n0_ := Aside0.mk (Kd.R_lower ho16 (below_size (by repeat (first | (with_reducible first | exact HB.out | apply below_alloc | apply pw_below_drewN | apply below_drew1) | exact HB.out)))); have n1_ := Aside0.mk (below_step (by repeat (first | (with_reducible first | exact HB.out | apply below_alloc | apply pw_below_drewN | apply below_drew1) | exact HB.out)) hb); clear HB; have HO124 := n0_; have HB := n1_; clear n0_ n1_; clear hb ho16; obtain ⟨Ao17, co17, eo17⟩ := Kd.R_slice HO124.out; subst eo17) | ((with_reducible refine gate_callee (f := 25) rfl ?_); refine goesL_ (some 6) rfl rfl Try.func25 (by kernel_rfl) rfl #[.slice Ao17 y122.length co17] rfl (by (try simp only [List.map_toArray, List.map_cons, List.map_nil]); first | done | rfl | (simp only [List.length_drop, List.length_take]; rfl)) ?_; (with_reducible refine (octs_From.callsB _ _ y122 t125 t126 w _ ?side1 ?side2 ?side3 A1.out).mono ?_); (case side1 => repeat (first | (with_reducible first | exact HB.out | apply below_alloc | apply pw_below_drewN | apply below_drew1) | exact HB.out)); (case side2 => repeat (first | exact (Kd.R_reads' HO124.out).2.2 | (with_reducible refine Kd.C_alloc ?_ _) | (with_reducible refine Kd.C_drewN ?_ _) | (with_reducible refine Kd.C_drew ?_))); (case side3 => exact (Kd.R_reads' HO124.out).2.1); rintro e w18 ⟨g127, rfl, hi, hb, hb2, hge⟩; refine ⟨_, rfl, ?_⟩; have n0_ := Aside0.mk (Kd.R_below (by (with_reducible repeat (first | apply Kd.R_alloc | apply Kd.R_drewN | apply Kd.R_drew)); exact HO124.out) hb2); have n1_ := Aside0.mk (hb); have n2_ := Aside0.mk (hi); clear HO124; clear HB; have HO124 := n0_; have HB := n1_; have HI127 := n2_; clear n0_ n1_ n2_; (try clear hb); (try clear hb2); (try clear hk); (try clear hi); (try clear hge)) | ((with_reducible refine gate_callee (f := 26) rfl ?_); refine goesL_ (some 10) rfl rfl Try.func26 (by kernel_rfl) rfl #[.pointer (some ⟨g127, 0, none⟩), .int .i64 2] rfl (by (try simp only [List.map_toArray, List.map_cons, List.map_nil]); first | done | rfl | (simp only [List.length_drop, List.length_take]; rfl)) ?_; (with_reducible refine (octs_In_Int.callsB k g127 t125 t126 2 t128 t129 t130 w _ ?side1 ?side2 A2.out).mono ?_); (case side1 => repeat (first | (with_reducible first | exact HI127.out | apply IsB91.alloc | apply IsB91.drewN | apply IsB91.drew | apply IsB91.set_1) | exact HI127.out)); (case side2 => repeat (first | (with_reducible first | exact HB.out | apply below_alloc | apply pw_below_drewN | apply below_drew1 | refine below_set ?_ (IsB91.ge HI127.out)) | exact HB.out)); rintro e w19 ⟨rfl, hi, hb, hk⟩; refine ⟨_, rfl, ?_⟩; have n0_ := Aside0.mk (Kd.R_mono (Kd.R_keep (IsB91.apart (show IsB91 w _ g127 t125 t126 from by repeat (first | (with_reducible first | exact HI127.out | apply IsB91.alloc | apply IsB91.drewN | apply IsB91.drew | apply IsB91.set_1) | exact HI127.out)) (by (with_reducible repeat (first | apply Kd.R_alloc | apply Kd.R_drewN | apply Kd.R_drew)); exact HO124.out) (by decide)) hk (fun _ h => h.2)) (fun _ h => h.1)); have n1_ := Aside0.mk (hb); have n2_ := Aside0.mk (hi); clear HO124; clear HB; clear HI127; have HO124 := n0_; have HB := n1_; have HI127 := n2_; clear n0_ n1_ n2_; (try clear hb); (try clear hb2); (try clear hk); (try clear hi); (try clear hge)) | ((with_reducible refine gate_callee (f := 31) rfl ?_); refine goesL_ (some 12) rfl rfl Try.func31 (by kernel_rfl) rfl #[.pointer (some ⟨g127, 0, none⟩)] rfl (by (try simp only [List.map_toArray, List.map_cons, List.map_nil]); first | done | rfl | (simp only [List.length_drop, List.length_take]; rfl)) ?_; (with_reducible refine (octs_In_Short.callsB k g127 t129 t130 t131 t132 t133 w _ ?side1 ?side2 A3.out).mono ?_); (case side1 => repeat (first | (with_reducible first | exact HI127.out | apply IsB91.alloc | apply IsB91.drewN | apply IsB91.drew | apply IsB91.set_1) | exact HI127.out)); (case side2 => repeat (first | (with_reducible first | exact HB.out | apply below_alloc | apply pw_below_drewN | apply below_drew1 | refine below_set ?_ (IsB91.ge HI127.out)) | exact HB.out)); rintro e w20 ⟨rfl, hi, hb, hk⟩; refine ⟨_, rfl, ?_⟩; have n0_ := Aside0.mk (Kd.R_mono (Kd.R_keep (IsB91.apart (show IsB91 w _ g127 t129 t130 from by repeat (first | (with_reducible first | exact HI127.out | apply IsB91.alloc | apply IsB91.drewN | apply IsB91.drew | apply IsB91.set_1) | exact HI127.out)) (by (with_reducible repeat (first | apply Kd.R_alloc | apply Kd.R_drewN | apply Kd.R_drew)); exact HO124.out) (by decide)) hk (fun _ h => h.2)) (fun _ h => h.1)); have n1_ := Aside0.mk (hb); have n2_ := Aside0.mk (hi); clear HO124; clear HB; clear HI127; have HO124 := n0_; have HB := n1_; have HI127 := n2_; clear n0_ n1_ n2_; (try clear hb); (try clear hb2); (try clear hk); (try clear hi); (try clear hge)) | ((with_reducible refine gate_callee (f := 24) rfl ?_); refine goesL_ (some 13) rfl rfl Try.func24 (by kernel_rfl) rfl #[.slice none 0 0, .int .i64 2, .int .u64 258] rfl (by (try simp only [List.map_toArray, List.map_cons, List.map_nil]); first | done | rfl | (simp only [List.length_drop, List.length_take]; rfl)) ?_; (refine (octs_Int.calls k _ _ ([] : List Int) 2 258 t134 _ ?side1 ?side2 A4.out).mono ?_); (case side1 => exact Kd.C_nil _ _); (case side2 => exact Nat.le_refl _); rintro e w21 ⟨v135, rfl, ho0, hb⟩; refine ⟨_, rfl, ?_⟩; have n0_ := Aside0.mk (Kd.R_elder' (by (with_reducible repeat (first | apply Kd.R_alloc | apply Kd.R_drewN | apply Kd.R_drew)); exact HO124.out) (Kd.R_base ho0) hb); have n1_ := Aside0.mk (Kd.R_lower (Kd.R_new' ho0 (Kd.R_lt (by (with_reducible repeat (first | apply Kd.R_alloc | apply Kd.R_drewN | apply Kd.R_drew)); exact HO124.out))) (below_size (by repeat (first | (with_reducible first | exact HB.out | apply below_alloc | apply pw_below_drewN | apply below_drew1 | refine below_set ?_ (IsB91.ge HI127.out)) | exact HB.out)))); have n2_ := Aside0.mk (IsB91.below (by repeat (first | (with_reducible first | exact HI127.out | apply IsB91.alloc | apply IsB91.drewN | apply IsB91.drew | apply IsB91.set_1) | exact HI127.out)) hb); have n3_ := Aside0.mk (below_step (by repeat (first | (with_reducible first | exact HB.out | apply below_alloc | apply pw_below_drewN | apply below_drew1 | refine below_set ?_ (IsB91.ge HI127.out)) | exact HB.out)) hb); clear HO124; clear HI127; clear HB; have HO124 := n0_; have HO136 := n1_; have HI127 := n2_; have HB := n3_; clear n0_ n1_ n2_ n3_; (try clear hb); (try clear hb2); (try clear hk); (try clear hi); (try clear hge); (try clear ho0)) | (go_at_call 35; (with_reducible refine (octs_In_Left.callsB g127 t132 t133 t137 t138 t139 w _ ?side1 ?side2 A7.out).mono ?_); (case side1 => repeat (first | (with_reducible first | exact HI127.out | apply IsB91.alloc | apply IsB91.drewN | apply IsB91.drew | apply IsB91.set_1) | exact HI127.out)); (case side2 => repeat (first | (with_reducible first | exact HB.out | apply below_alloc | apply pw_below_drewN | apply below_drew1 | refine below_set ?_ (IsB91.ge HI127.out)) | exact HB.out)); rintro e w22 ⟨rfl, hi, hb, hk⟩; have n0_ := Aside0.mk (Kd.R_mono (Kd.R_keep (IsB91.apart (show IsB91 w _ g127 t132 t133 from by repeat (first | (with_reducible first | exact HI127.out | apply IsB91.alloc | apply IsB91.drewN | apply IsB91.drew | apply IsB91.set_1) | exact HI127.out)) (by (with_reducible repeat (first | apply Kd.R_alloc | apply Kd.R_drewN | apply Kd.R_drew)); exact HO124.out) (by decide)) hk (fun _ h => h.2)) (fun _ h => h.1)); have n1_ := Aside0.mk (Kd.R_mono (Kd.R_keep (IsB91.apart (show IsB91 w _ g127 t132 t133 from by repeat (first | (with_reducible first | exact HI127.out | apply IsB91.alloc | apply IsB91.drewN | apply IsB91.drew | apply IsB91.set_1) | exact HI127.out)) (by (with_reducible repeat (first | apply Kd.R_alloc | apply Kd.R_drewN | apply Kd.R_drew)); exact HO136.out) (by decide)) hk (fun _ h => h.2)) (fun _ h => h.1)); have n2_ := Aside0.mk (hb); have n3_ := Aside0.mk (hi); clear HO124; clear HO136; clear HB; clear HI127; have HO124 := n0_; have HO136 := n1_; have HB := n2_; have HI127 := n3_; clear n0_ n1_ n2_ n3_; (try clear hb); (try clear hb2); (try clear hk); (try clear hi); (try clear hge)) | (go_at_call 27; (with_reducible refine (octs_In_Ok.callsB g127 t138 t139 true t141 t142 w _ ?side1 ?side2 A9.out).mono ?_); (case side1 => repeat (first | (with_reducible first | exact HI127.out | apply IsB91.alloc | apply IsB91.drewN | apply IsB91.drew | apply IsB91.set_1) | exact HI127.out)); (case side2 => repeat (first | (with_reducible first | exact HB.out | apply below_alloc | apply pw_below_drewN | apply below_drew1 | refine below_set ?_ (IsB91.ge HI127.out)) | exact HB.out)); rintro e w23 ⟨rfl, hi, hb, hk⟩; have n0_ := Aside0.mk (Kd.R_mono (Kd.R_keep (IsB91.apart (show IsB91 w _ g127 t138 t139 from by repeat (first | (with_reducible first | exact HI127.out | apply IsB91.alloc | apply IsB91.drewN | apply IsB91.drew | apply IsB91.set_1) | exact HI127.out)) (by (with_reducible repeat (first | apply Kd.R_alloc | apply Kd.R_drewN | apply Kd.R_drew)); exact HO124.out) (by decide)) hk (fun _ h => h.2)) (fun _ h => h.1)); have n1_ := Aside0.mk (Kd.R_mono (Kd.R_keep (IsB91.apart (show IsB91 w _ g127 t138 t139 from by repeat (first | (with_reducible first | exact HI127.out | apply IsB91.alloc | apply IsB91.drewN | apply IsB91.drew | apply IsB91.set_1) | exact HI127.out)) (by (with_reducible repeat (first | apply Kd.R_alloc | apply Kd.R_drewN | apply Kd.R_drew)); exact HO136.out) (by decide)) hk (fun _ h => h.2)) (fun _ h => h.1)); have n2_ := Aside0.mk (hb); have n3_ := Aside0.mk (hi); clear HO124; clear HO136; clear HB; clear HI127; have HO124 := n0_; have HO136 := n1_; have HB := n2_; have HI127 := n3_; clear n0_ n1_ n2_ n3_; (try clear hb); (try clear hb2); (try clear hk); (try clear hi); (try clear hge); obtain ⟨Ao24, co24, eo24⟩ := Kd.R_slice HO136.out; subst eo24; have p143 : 0 ≤ (0 : Int) := (by omega); have q143 : 0 < (t134.length : Int) := of_decide_eq_true (by first | (with_reducible assumption) | assumption); obtain ⟨ad143, e143, hx143_0⟩ := Kd.at_int (Kd.R_reads' HO136.out).2.2 0 p143 q143; cases e143; have qi143 : (0 < t134.length) = True := eq_true (by omega); (try rw [show ((0 : Int)).toNat = 0 from rfl] at hx143_0); (try rw [Addr.add_zero'] at hx143_0); replace p143 := eq_true p143; replace q143 := eq_true q143; have p144 : 0 ≤ (1 : Int) := (by omega); have q144 : 1 < (t134.length : Int) := of_decide_eq_true (by first | (with_reducible assumption) | assumption); obtain ⟨ad144, e144, hx144_0⟩ := Kd.at_int (Kd.R_reads' HO136.out).2.2 1 p144 q144; obtain rfl : ad143 = ad144 := (by injection e144); (try simp only [show (1 : Int).toNat = 1 from rfl, Nat.reduceMul, Nat.reduceEqDiff, Go.Addr.add, ↓reduceIte] at hx144_0); have qi144 : (1 < t134.length) = True := eq_true (by omega); (try rw [show ((1 : Int)).toNat = 1 from rfl] at hx144_0); replace p144 := eq_true p144; replace q144 := eq_true q144))
                  all_goals first | (go_ret; exact ⟨by first | rfl | (simp [errW_none, errW_some] <;> rfl) | (simp [*, errW_none, errW_some] <;> rfl), by repeat (first | (with_reducible first | exact HB.out | apply below_alloc | apply pw_below_drewN | apply below_drew1 | refine below_set ?_ (IsB91.ge HI127.out)) | exact HB.out)⟩) | (exfalso; simp_all; done)
                · rw [if_neg c14] at H
                  exact absurd H (by simp)
              · rw [if_neg c13] at H
                exact absurd H (by simp)
            · rw [if_neg c12] at H
              exact absurd H (by simp)
          · rw [if_neg c11] at H
            exact absurd H (by simp)
        · replace c10 := Bool.eq_false_iff.mpr c10
          subst c10
          have H1 : (none) = some r := by rw [if_neg (show ¬ (false = true) by decide)] at H; exact H
          clear H
          have H := H1
          clear H1
          exact absurd H (by simp)
      · rw [if_neg c8] at H
        exact absurd H (by simp)
    · rw [if_neg c6] at H
      exact absurd H (by simp)
  · rw [if_neg c5] at H
    exact absurd H (by simp)

/-! ### octs_In_Long: function 33 -/
def octs_In_Long.f (k : Nat) (s0_0 : List Int) (s0_1 : Bool) : Option (List Int × List Int × Bool) := (octs_In_measured.f k s0_0 s0_1 4).bind fun bt145 => (some (bt145.1, bt145.2.1, bt145.2.2))
theorem octs_In_Long.mono : ∀ a0 a1 k, LeO (octs_In_Long.f k a0 a1) (octs_In_Long.f (k + 1) a0 a1) := by
  intro a0 a1 k
  unfold octs_In_Long.f
  repeat' first
      | (with_reducible exact octs_In_measured.mono _ _ _ _)
      | (with_reducible exact LeO.refl _)
      | (with_reducible exact LeO.none _)
      | (with_reducible refine LeO.ite ?_ ?_)
      | (with_reducible refine LeO.bind ?_ (fun _ => ?_))
      | exact octs_In_measured.mono _ _ _ _
      | exact LeO.none _
      | refine LeO.ite ?_ ?_
      | refine LeO.bind ?_ (fun _ => ?_)
set_option maxHeartbeats 8000000 in
set_option maxRecDepth 100000 in
theorem octs_In_Long.calls (k : Nat) (g : Nat) (s0_0 : List Int) (s0_1 : Bool) (r1 : List Int) (r2 : List Int) (r3 : Bool) (w0 w : World) (hI : IsS91 w0 w g s0_0 s0_1) (hB : Below w0.heap.size w0 w) (h : octs_In_Long.f k s0_0 s0_1 = some (r1, r2, r3)) :
    Calls Try.prog 33 #[.pointer (some ⟨g, 0, none⟩)] w fun e w' => ∃ v0_ : Value, e = .returned (v0_) ∧ Kd.R (Kd.int .u8) 5 w' w.heap.size (fun _ => True) v0_ r1 ∧ IsS91 w0 w' g r2 r3 ∧ Below w0.heap.size w0 w' ∧ KeepBut w w' g none := by
  have HI0 := Aside0.mk hI
  have HK := Aside0.mk (KeepBut.refl w g none)
  have HL := Aside0.mk hB.size
  clear hI
  have HW0 := Aside0.mk hB.size
  have HB := Aside0.mk hB
  clear hB
  have H : ((octs_In_measured.f k s0_0 s0_1 4).bind fun bt145 => (some (bt145.1, bt145.2.1, bt145.2.2))) = some (r1, r2, r3) := h
  clear h
  replace H := Option.bind_eq_some_iff.mp H
  obtain ⟨⟨t145, t148, t149⟩, A20, H⟩ := H
  replace H : (some (t145, t148, t149)) = some (r1, r2, r3) := H
  have A2 := Aside0.mk A20
  clear A20
  simp only [Option.some.injEq, Prod.mk.injEq] at H
  obtain ⟨rfl, rfl, rfl⟩ := H
  go_enter Try.func33, Try.ntmps33
  go_wp2_with (first | ((with_reducible refine gate_callee (f := 51) rfl ?_); refine goesL_ (some 4) rfl rfl Try.func51 (by kernel_rfl) rfl #[.pointer (some ⟨g, 0, none⟩), .int .i64 4] rfl (by (try simp only [List.map_toArray, List.map_cons, List.map_nil]); first | done | rfl | (simp only [List.length_drop, List.length_take]; rfl)) ?_; (with_reducible refine (octs_In_measured.calls k g s0_0 s0_1 4 t145 t148 t149 w0 _ ?side1 ?side2 A2.out).mono ?_); (case side1 => repeat (first | (with_reducible first | exact HI0.out | apply IsS91.alloc | apply IsS91.drewN | apply IsS91.drew | apply IsS91.set_1) | exact HI0.out)); (case side2 => repeat (first | (with_reducible first | exact HB.out | apply below_alloc | apply pw_below_drewN | apply below_drew1 | refine below_set ?_ (IsS91.ge HI0.out)) | exact HB.out)); rintro e w3 ⟨v146, rfl, ho0, hi, hb, hk⟩; refine ⟨_, rfl, ?_⟩; have n0_ := Aside0.mk (Kd.R_lower ho0 (keep_size (w := w) (g := g) (row := none) (by repeat (first | (with_reducible first | exact HK.out | apply KeepBut.set_ | apply keep_drewN | apply keep_drew | apply keep_alloc) | exact HK.out)))); have n1_ := Aside0.mk (KeepBut.trans (by repeat (first | (with_reducible first | exact HK.out | apply KeepBut.set_ | apply keep_drewN | apply keep_drew | apply keep_alloc) | exact HK.out)) hk (.inl rfl)); have n2_ := Aside0.mk (hb); have n3_ := Aside0.mk (hi); clear HK; clear HB; clear HI0; have HO147 := n0_; have HK := n1_; have HB := n2_; have HI0 := n3_; clear n0_ n1_ n2_ n3_; (try clear hb); (try clear hb2); (try clear hk); (try clear hi); (try clear hge); (try clear ho0)))
  all_goals first | (go_ret; exact ⟨_, by first | rfl | (simp [errW_none, errW_some] <;> rfl) | (simp [*, errW_none, errW_some] <;> rfl), by (with_reducible repeat (first | apply Kd.R_alloc | apply Kd.R_drewN | apply Kd.R_drew)); exact HO147.out, by repeat (first | (with_reducible first | exact HI0.out | apply IsS91.alloc | apply IsS91.drewN | apply IsS91.drew | apply IsS91.set_1) | exact HI0.out), by repeat (first | (with_reducible first | exact HB.out | apply below_alloc | apply pw_below_drewN | apply below_drew1 | refine below_set ?_ (IsS91.ge HI0.out)) | exact HB.out), by repeat (first | (with_reducible first | exact HK.out | apply KeepBut.set_ | apply keep_drewN | apply keep_drew | apply keep_alloc) | exact HK.out)⟩) | (exfalso; simp_all; done)
theorem octs_In_Long.callsB (k : Nat) (g : Nat) (s0_0 : List Int) (s0_1 : Bool) (r1 : List Int) (r2 : List Int) (r3 : Bool) (w0 w : World) (hI : IsB91 w0 w g s0_0 s0_1) (hB : Below w0.heap.size w0 w) (h : octs_In_Long.f k s0_0 s0_1 = some (r1, r2, r3)) :
    Calls Try.prog 33 #[.pointer (some ⟨g, 0, none⟩)] w fun e w' => ∃ v0_ : Value, e = .returned (v0_) ∧ Kd.R (Kd.int .u8) 5 w' w.heap.size (fun _ => True) v0_ r1 ∧ IsB91 w0 w' g r2 r3 ∧ Below w0.heap.size w0 w' ∧ KeepBut w w' g none := by
  obtain ⟨wb_, hs_, hv_, hi_⟩ := hI
  refine (octs_In_Long.calls k g s0_0 s0_1 r1 r2 r3 wb_ w hi_ hv_ h).mono ?_
  rintro e_ w_ ⟨v0_, rfl, ho0_, hi2_, hb_, hk_⟩
  obtain ⟨h1_, h2_⟩ := IsB91.step hB ⟨wb_, hs_, hv_, hi_.ge, hb_, hi2_⟩ hk_
  exact ⟨v0_, rfl, ho0_, h1_, h2_, hk_⟩

/-! ### octs_Short: function 36 -/
def octs_Short.f (k : Nat) (l0 : List Int) (a1 : ByteArray) : Option (List Int × Bool) := if (a1.size : Int) > 255 then ((slices_Clone_byte_byte.f l0).bind fun t150 => (some (t150, false))) else ((octs_Int.f k l0 1 (IntKind.u64.wrap ((a1.size : Int)))).bind fun t153 => (if t153.length + a1.size < 140737488355328 then (some ((t153 ++ bytesOf a1), true)) else (none)))
theorem octs_Short.mono : ∀ a0 a1 k, LeO (octs_Short.f k a0 a1) (octs_Short.f (k + 1) a0 a1) := by
  intro a0 a1 k
  unfold octs_Short.f
  repeat' first
      | (with_reducible exact octs_Int.mono _ _ _ _)
      | (with_reducible exact LeO.refl _)
      | (with_reducible exact LeO.none _)
      | (with_reducible refine LeO.ite ?_ ?_)
      | (with_reducible refine LeO.bind ?_ (fun _ => ?_))
      | exact octs_Int.mono _ _ _ _
      | exact LeO.none _
      | refine LeO.ite ?_ ?_
      | refine LeO.bind ?_ (fun _ => ?_)
set_option maxHeartbeats 8000000 in
set_option maxRecDepth 100000 in
theorem octs_Short.calls (k : Nat) (A0 : Option Addr) (c0 : Nat) (l0 : List Int) (a1 : ByteArray) (r1 : List Int) (r2 : Bool) (w : World) (hr0 : Kd.C (Kd.int .u8) w A0 l0.length l0) (hc0 : l0.length ≤ c0) (h : octs_Short.f k l0 a1 = some (r1, r2)) :
    Calls Try.prog 36 #[.slice A0 l0.length c0, .string a1] w fun e w' => ∃ v0_ : Value, e = .returned (.tuple #[v0_, .bool r2]) ∧ Kd.R (Kd.int .u8) 5 w' w.heap.size (fun _ => True) v0_ r1 ∧ Below w.heap.size w w' := by
  have HR0 := Aside0.mk hr0
  have HC0 := Aside0.mk hc0
  clear hr0 hc0
  have HB := Aside0.mk (Below.refl w.heap.size w)
  have H : (if (a1.size : Int) > 255 then ((slices_Clone_byte_byte.f l0).bind fun t150 => (some (t150, false))) else ((octs_Int.f k l0 1 (IntKind.u64.wrap ((a1.size : Int)))).bind fun t153 => (if t153.length + a1.size < 140737488355328 then (some ((t153 ++ bytesOf a1), true)) else (none)))) = some (r1, r2) := h
  clear h
  by_cases c3 : (a1.size : Int) > 255
  · rw [if_pos c3] at H
    have c3b0 : decide (255 < (a1.size : Int)) = true := decide_eq_true c3
    have c3b1 : decide (255 < a1.size) = true := decide_eq_true (by omega)
    clear c3
    replace H := Option.bind_eq_some_iff.mp H
    obtain ⟨t150, A40, H⟩ := H
    replace H : (some (t150, false)) = some (r1, r2) := H
    have A4 := Aside0.mk A40
    clear A40
    simp only [Option.some.injEq, Prod.mk.injEq] at H
    obtain ⟨rfl, rfl⟩ := H
    go_enter Try.func36, Try.ntmps36
    go_wp2_with (first | ((with_reducible refine gate_callee (f := 47) rfl ?_); refine goesL_ (some 10) rfl rfl Try.func47 (by kernel_rfl) rfl #[.slice A0 l0.length c0] rfl (by (try simp only [List.map_toArray, List.map_cons, List.map_nil]); first | done | rfl | (simp only [List.length_drop, List.length_take]; rfl)) ?_; (with_reducible refine (slices_Clone_byte_byte.calls _ _ l0 t150 _ ?side1 ?side2 A4.out).mono ?_); (case side1 => repeat (first | exact HR0.out | (with_reducible refine Kd.C_alloc ?_ _) | (with_reducible refine Kd.C_drewN ?_ _) | (with_reducible refine Kd.C_drew ?_))); (case side2 => exact HC0.out); rintro e w5 ⟨v151, rfl, ho0, hb⟩; refine ⟨_, rfl, ?_⟩; have n0_ := Aside0.mk (Kd.R_lower ho0 (below_size (by repeat (first | (with_reducible first | exact HB.out | apply below_alloc | apply pw_below_drewN | apply below_drew1) | exact HB.out)))); have n1_ := Aside0.mk (below_step (by repeat (first | (with_reducible first | exact HB.out | apply below_alloc | apply pw_below_drewN | apply below_drew1) | exact HB.out)) hb); clear HB; have HO152 := n0_; have HB := n1_; clear n0_ n1_; (try clear hb); (try clear hb2); (try clear hk); (try clear hi); (try clear hge); (try clear ho0)))
    all_goals first | (go_ret2; exact ⟨_, by first | rfl | (simp [errW_none, errW_some] <;> rfl) | (simp [*, errW_none, errW_some] <;> rfl), by (with_reducible repeat (first | apply Kd.R_alloc | apply Kd.R_drewN | apply Kd.R_drew)); exact HO152.out, by repeat (first | (with_reducible first | exact HB.out | apply below_alloc | apply pw_below_drewN | apply below_drew1) | exact HB.out)⟩) | (exfalso; simp_all; done)
  · rw [if_neg c3] at H
    have c3b0 : decide (255 < (a1.size : Int)) = false := decide_eq_false c3
    have c3b1 : decide (255 < a1.size) = false := decide_eq_false (by omega)
    clear c3
    replace H := Option.bind_eq_some_iff.mp H
    obtain ⟨t153, A60, H⟩ := H
    replace H : (if t153.length + a1.size < 140737488355328 then (some ((t153 ++ bytesOf a1), true)) else (none)) = some (r1, r2) := H
    have A6 := Aside0.mk A60
    clear A60
    by_cases c7 : t153.length + a1.size < 140737488355328
    · rw [if_pos c7] at H
      have LMc7 := Aside0.mk c7
      clear c7
      obtain ⟨y156, hy156⟩ : ∃ y_ : List Int, y_ = (t153 ++ bytesOf a1) := ⟨_, rfl⟩
      replace H : (some (y156, true)) = some (r1, r2) := by first | (rw [hy156]; with_reducible exact H) | (have H2_ := (Option.bind_some _ _).symm.trans H; rw [hy156]; with_reducible exact H2_) | (have H2_ := (Option.bind_some _ _).symm.trans H; with_reducible exact H2_) | with_reducible exact H | (rw [hy156]; exact H) | exact H
      have Ny156 := Aside0.mk hy156
      clear hy156
      simp only [Option.some.injEq, Prod.mk.injEq] at H
      obtain ⟨rfl, rfl⟩ := H
      go_enter Try.func36, Try.ntmps36
      go_wp2_with (first | ((with_reducible refine gate_callee (f := 24) rfl ?_); refine goesL_ (some 15) rfl rfl Try.func24 (by kernel_rfl) rfl #[.slice A0 l0.length c0, .int .i64 1, .int .u64 (IntKind.u64.wrap ((a1.size : Int)))] rfl (by (try simp only [List.map_toArray, List.map_cons, List.map_nil]); first | done | rfl | (simp only [List.length_drop, List.length_take]; rfl)) ?_; (with_reducible refine (octs_Int.calls k _ _ l0 1 (IntKind.u64.wrap ((a1.size : Int))) t153 _ ?side1 ?side2 A6.out).mono ?_); (case side1 => repeat (first | exact HR0.out | (with_reducible refine Kd.C_alloc ?_ _) | (with_reducible refine Kd.C_drewN ?_ _) | (with_reducible refine Kd.C_drew ?_))); (case side2 => exact HC0.out); rintro e w8 ⟨v154, rfl, ho0, hb⟩; refine ⟨_, rfl, ?_⟩; have n0_ := Aside0.mk (Kd.R_lower ho0 (below_size (by repeat (first | (with_reducible first | exact HB.out | apply below_alloc | apply pw_below_drewN | apply below_drew1) | exact HB.out)))); have n1_ := Aside0.mk (below_step (by repeat (first | (with_reducible first | exact HB.out | apply below_alloc | apply pw_below_drewN | apply below_drew1) | exact HB.out)) hb); clear HB; have HO155 := n0_; have HB := n1_; clear n0_ n1_; (try clear hb); (try clear hb2); (try clear hk); (try clear hi); (try clear hge); (try clear ho0)) | (at_builtin; refine print_append_str (w0 := w) w.heap.size rfl (.tmp 15) _ 26 9 5 rfl Try.underlying26 Try.underlying9 info5 v154 t153 a1 rfl rfl ?aO ?aB ?aS ?aL ?_; (case aB => exact (by repeat (first | (with_reducible first | exact HB.out | apply below_alloc | apply pw_below_drewN | apply below_drew1) | exact HB.out))); (case aO => exact (Kd.own_of_R (by (with_reducible repeat (first | apply Kd.R_alloc | apply Kd.R_drewN | apply Kd.R_drew)); exact HO155.out))); (case aS => exact (below_size (by repeat (first | (with_reducible first | exact HB.out | apply below_alloc | apply pw_below_drewN | apply below_drew1) | exact HB.out)))); (case aL => have := LMc7.out; omega); intro v157 w9 ho0 hb hg; have ho := Kd.R_of_own (h1 := fun _ => rfl) (ok := fun _ => True) ho0 (fun _ _ => trivial); clear ho0; have hat := True.intro; rw [← Ny156.out] at ho; change Kd.R (Kd.int .u8) 5 w9 w.heap.size (fun _ => True) v157 y156 at ho; have n0_ := Aside0.mk (hb); have n1_ := Aside0.mk (ho); clear HB; clear HO155; have HB := n0_; have HO158 := n1_; clear n0_ n1_; clear ho hb hg hat))
      all_goals first | (go_ret2; exact ⟨_, by first | rfl | (simp [errW_none, errW_some] <;> rfl) | (simp [*, errW_none, errW_some] <;> rfl), by (with_reducible repeat (first | apply Kd.R_alloc | apply Kd.R_drewN | apply Kd.R_drew)); exact HO158.out, by repeat (first | (with_reducible first | exact HB.out | apply below_alloc | apply pw_below_drewN | apply below_drew1) | exact HB.out)⟩) | (exfalso; simp_all; done)
    · rw [if_neg c7] at H
      exact absurd H (by simp)

/-! ### octs_Long: function 37 -/
def octs_Long.f (k : Nat) (l0 : List Int) (l1 : List Int) : Option (List Int) := (octs_Int.f k l0 4 (IntKind.u64.wrap ((l1.length : Int)))).bind fun t159 => (if t159.length + l1.length < 140737488355328 then (some (t159 ++ l1)) else (none))
theorem octs_Long.mono : ∀ a0 a1 k, LeO (octs_Long.f k a0 a1) (octs_Long.f (k + 1) a0 a1) := by
  intro a0 a1 k
  unfold octs_Long.f
  repeat' first
      | (with_reducible exact octs_Int.mono _ _ _ _)
      | (with_reducible exact LeO.refl _)
      | (with_reducible exact LeO.none _)
      | (with_reducible refine LeO.ite ?_ ?_)
      | (with_reducible refine LeO.bind ?_ (fun _ => ?_))
      | exact octs_Int.mono _ _ _ _
      | exact LeO.none _
      | refine LeO.ite ?_ ?_
      | refine LeO.bind ?_ (fun _ => ?_)
set_option maxHeartbeats 8000000 in
set_option maxRecDepth 100000 in
theorem octs_Long.calls (k : Nat) (A0 : Option Addr) (c0 : Nat) (l0 : List Int) (A1 : Option Addr) (c1 : Nat) (l1 : List Int) (r : List Int) (w : World) (hr0 : Kd.C (Kd.int .u8) w A0 l0.length l0) (hc0 : l0.length ≤ c0) (hr1 : Kd.C (Kd.int .u8) w A1 l1.length l1) (hc1 : l1.length ≤ c1) (h : octs_Long.f k l0 l1 = some r) :
    Calls Try.prog 37 #[.slice A0 l0.length c0, .slice A1 l1.length c1] w fun e w' => ∃ v0_ : Value, e = .returned (v0_) ∧ Kd.R (Kd.int .u8) 5 w' w.heap.size (fun _ => True) v0_ r ∧ Below w.heap.size w w' := by
  have HR0 := Aside0.mk hr0
  have HC0 := Aside0.mk hc0
  clear hr0 hc0
  have HR1 := Aside0.mk hr1
  have HC1 := Aside0.mk hc1
  clear hr1 hc1
  have HB := Aside0.mk (Below.refl w.heap.size w)
  have H : ((octs_Int.f k l0 4 (IntKind.u64.wrap ((l1.length : Int)))).bind fun t159 => (if t159.length + l1.length < 140737488355328 then (some (t159 ++ l1)) else (none))) = some r := h
  clear h
  replace H := Option.bind_eq_some_iff.mp H
  obtain ⟨t159, A30, H⟩ := H
  replace H : (if t159.length + l1.length < 140737488355328 then (some (t159 ++ l1)) else (none)) = some r := H
  have A3 := Aside0.mk A30
  clear A30
  by_cases c4 : t159.length + l1.length < 140737488355328
  · rw [if_pos c4] at H
    have LMc4 := Aside0.mk c4
    clear c4
    obtain ⟨y162, hy162⟩ : ∃ y_ : List Int, y_ = (t159 ++ l1) := ⟨_, rfl⟩
    replace H : (some y162) = some r := by first | (rw [hy162]; with_reducible exact H) | (have H2_ := (Option.bind_some _ _).symm.trans H; rw [hy162]; with_reducible exact H2_) | (have H2_ := (Option.bind_some _ _).symm.trans H; with_reducible exact H2_) | with_reducible exact H | (rw [hy162]; exact H) | exact H
    have Ny162 := Aside0.mk hy162
    clear hy162
    obtain rfl := Option.some.inj H
    go_enter Try.func37, Try.ntmps37
    go_wp2_with (first | ((with_reducible refine gate_callee (f := 24) rfl ?_); refine goesL_ (some 9) rfl rfl Try.func24 (by kernel_rfl) rfl #[.slice A0 l0.length c0, .int .i64 4, .int .u64 (IntKind.u64.wrap ((l1.length : Int)))] rfl (by (try simp only [List.map_toArray, List.map_cons, List.map_nil]); first | done | rfl | (simp only [List.length_drop, List.length_take]; rfl)) ?_; (with_reducible refine (octs_Int.calls k _ _ l0 4 (IntKind.u64.wrap ((l1.length : Int))) t159 _ ?side1 ?side2 A3.out).mono ?_); (case side1 => repeat (first | exact HR0.out | (with_reducible refine Kd.C_alloc ?_ _) | (with_reducible refine Kd.C_drewN ?_ _) | (with_reducible refine Kd.C_drew ?_))); (case side2 => exact HC0.out); rintro e w5 ⟨v160, rfl, ho0, hb⟩; refine ⟨_, rfl, ?_⟩; have n0_ := Aside0.mk (Kd.R_lower ho0 (below_size (by repeat (first | (with_reducible first | exact HB.out | apply below_alloc | apply pw_below_drewN | apply below_drew1) | exact HB.out)))); have n1_ := Aside0.mk (below_step (by repeat (first | (with_reducible first | exact HB.out | apply below_alloc | apply pw_below_drewN | apply below_drew1) | exact HB.out)) hb); clear HB; have HO161 := n0_; have HB := n1_; clear n0_ n1_; (try clear hb); (try clear hb2); (try clear hk); (try clear hi); (try clear hge); (try clear ho0)) | ((with_reducible refine gate_builtin (b := .append) (xs := #[.tmp 9, .tmp 10]) rfl ?_); at_builtin; refine Kd.R_append_rows (Kd.int .u8) (w0 := w) w.heap.size rfl (.tmp 9) (.tmp 10) 26 5 (.int .u8 0) 1 rfl Try.underlying26 info5 rfl (by decide) (by omega) v160 t159 l1 _ _ _ (fun _ => True) (fun _ => False) rfl rfl ?aO ?aR (fun _ _ h => h) (fun _ h => h.elim) ?aF ?aB ?aS ?aL ?_; (case aR => repeat (first | exact (Kd.C_below HR1.out HB.out) | (with_reducible refine Kd.C_alloc ?_ _) | (with_reducible refine Kd.C_drewN ?_ _) | (with_reducible refine Kd.C_drew ?_))); (case aB => exact (by repeat (first | (with_reducible first | exact HB.out | apply below_alloc | apply pw_below_drewN | apply below_drew1) | exact HB.out))); (case aF => exact (fun _ _ => trivial)); (case aO => exact (by (with_reducible repeat (first | apply Kd.R_alloc | apply Kd.R_drewN | apply Kd.R_drew)); exact HO161.out)); (case aS => exact (below_size (by repeat (first | (with_reducible first | exact HB.out | apply below_alloc | apply pw_below_drewN | apply below_drew1) | exact HB.out)))); (case aL => have := LMc4.out; omega); intro v163 w6 ho hb hg hat; rw [← Ny162.out] at ho; have n0_ := Aside0.mk (hb); have n1_ := Aside0.mk (ho); clear HB; clear HO161; have HB := n0_; have HO164 := n1_; clear n0_ n1_; clear ho hb hg hat))
    all_goals first | (go_ret; exact ⟨_, by first | rfl | (simp [errW_none, errW_some] <;> rfl) | (simp [*, errW_none, errW_some] <;> rfl), by (with_reducible repeat (first | apply Kd.R_alloc | apply Kd.R_drewN | apply Kd.R_drew)); exact HO164.out, by repeat (first | (with_reducible first | exact HB.out | apply below_alloc | apply pw_below_drewN | apply below_drew1) | exact HB.out)⟩) | (exfalso; simp_all; done)
  · rw [if_neg c4] at H
    exact absurd H (by simp)

end Go.Proofs.Ytlhcjgmdcnmnnaa.PB1
