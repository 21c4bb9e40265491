/- What functions of the given program come to, and that they do: written out of the translation by a program of this session; Lean checks it. -/
import Derived.Test.YtfhaffpegncdiaaPTx0
import Derived.Test.YtfhaffpegncdiaaPTx3
namespace Go.Proofs.Ytfhaffpegncdiaa.PT
open Go.RowKit Go.Proofs.YtfhaffpegncdiaaW.PrintWords Go.Proofs.YtfhaffpegncdiaaW.PrintLast Go.Proofs.YtfhaffpegncdiaaW.PrintMore
attribute [local go_sem] max2_int min2_int max_two min_two max_three min_three max_four min_four   -- for this text's walks alone
set_option linter.unusedVariables false
set_option linter.unusedSimpArgs false

/-! ### octs_In_Ok: function 46 -/
def octs_In_Ok.f (s0_0 : List Int) (s0_1 : Bool) : Option (Bool × List Int × Bool) := some (!s0_1, s0_0, s0_1)
set_option maxHeartbeats 8000000 in
set_option maxRecDepth 100000 in
theorem octs_In_Ok.calls (g : Nat) (s0_0 : List Int) (s0_1 : Bool) (r1 : Bool) (r2 : List Int) (r3 : Bool) (w0 w : World) (hI : IsS91 w0 w g s0_0 s0_1) (hB : Below w0.heap.size w0 w) (h : octs_In_Ok.f s0_0 s0_1 = some (r1, r2, r3)) :
  Calls Try.prog 46 #[.pointer (some ⟨g, 0, none⟩)] w fun e w' => e = .returned (.bool r1) ∧ IsS91 w0 w' g r2 r3 ∧ Below w0.heap.size w0 w' ∧ KeepBut w w' g none := by
 have HI0 := Zs.mk hI
 have HK := Zs.mk (KeepBut.refl w g none)
 have HL := Zs.mk hB.size
 clear hI
 have HW0 := Zs.mk hB.size
 have HB := Zs.mk hB
 clear hB
 have H : (some (!s0_1, s0_0, s0_1)) = some (r1, r2, r3) := h
 clear h
 simp only [Option.some.injEq, Prod.mk.injEq] at H
 obtain ⟨rfl, rfl, rfl⟩ := H
 obtain ⟨ASz2_0, cSz2_0, HGz2, hgz2, HSz2_0⟩ := HI0.out
 have hcz2_0 := cellS91_0 HGz2
 have hcz2_1 := cellS91_1 HGz2
 have hfz2_0 := zbf HGz2 0
 have hfz2_1 := zbf HGz2 1
 clear HGz2 hgz2
 go_enter Try.func46, Try.ntmps46
 go_wp2
 all_goals first | (go_ret; exact ⟨by first | rfl | (simp [zen, zes]; done) | (simp [zen, zes]; rfl) | (simp [*, zen, zes]; done) | (simp [*, zen, zes]; rfl), by repeat (first | (with_reducible first | exact HI0.out | apply IsS91.alloc | apply IsS91.drewN | apply IsS91.drew | apply IsS91.set_1) | exact HI0.out), by repeat (first | (with_reducible first | exact HB.out | apply zba | apply zbn | apply zbd | refine zbs ?_ (IsS91.ge HI0.out)) | exact HB.out), by repeat (first | (with_reducible first | exact HK.out | apply KeepBut.set_ | apply keep_drewN | apply keep_drew | apply keep_alloc) | exact HK.out)⟩) | (exfalso; simp_all; done)
/-! ### octs_In_measured: function 63 -/
def octs_In_measured.f (k : Nat) (s0_0 : List Int) (s0_1 : Bool) (a1 : Int) : Option (List Int × List Int × Bool) :=
 if s0_1 = true then octs_In_take.f s0_0 s0_1 (IntKind.u64.wrap a1) else if (s0_0.length : Int) < a1 then octs_In_take.f s0_0 s0_1 (IntKind.u64.wrap a1) else
 if 0 ≤ a1 then (octs_number.f k (s0_0.take a1.toNat)).bind fun t => if (s0_0.length : Int) - a1 < t then some ([], [], true) else octs_In_take.f (s0_0.drop a1.toNat) false t else none
set_option maxHeartbeats 8000000 in
set_option maxRecDepth 100000 in
theorem octs_In_measured.calls (k : Nat) (g : Nat) (s0_0 : List Int) (s0_1 : Bool) (a1 : Int) (r1 : List Int) (r2 : List Int) (r3 : Bool) (w0 w : World) (hI : IsS91 w0 w g s0_0 s0_1) (hB : Below w0.heap.size w0 w) (h : octs_In_measured.f k s0_0 s0_1 a1 = some (r1, r2, r3)) :
  Calls Try.prog 63 #[.pointer (some ⟨g, 0, none⟩), .int .i64 a1] w fun e w' => ∃ v0_ : Value, e = .returned (v0_) ∧ Kd.R (Kd.int .u8) 5 w' w.heap.size (fun _ => True) v0_ r1 ∧ IsS91 w0 w' g r2 r3 ∧ Below w0.heap.size w0 w' ∧ KeepBut w w' g none := by
 have HI0 := Zs.mk hI
 have HK := Zs.mk (KeepBut.refl w g none)
 have HL := Zs.mk hB.size
 have HB := Zs.mk hB
 obtain ⟨ASz, cSz, HGz, hgz, HSz, HCz⟩ := hI
 have hcz_0 := cellS91_0 HGz
 have hcz_1 := cellS91_1 HGz
 have hfz_0 := zbf HGz 0
 have hfz_1 := zbf HGz 1
 have HM := Zs.mk (Kd.C_max HSz)
 have HR := Zs.mk HSz
 have HG := Zs.mk hgz
 clear hgz HSz HGz hB
 have hm := HM.out
 unfold octs_In_measured.f at h
 cases s0_1 with
 | true =>
  rw [if_pos rfl] at h
  clear HCz
  have H' := Zs.mk h
  clear h
  go_enter Try.func63, Try.ntmps63
  go_wp2_with (go_at_call 62; (with_reducible refine (octs_In_take.calls g s0_0 true _ r1 r2 r3 w0 _ HI0.out HB.out H'.out).mono ?_); rintro e w1 ⟨v0, rfl, ho, hi, hb, hk⟩)
  all_goals first | (go_ret; exact ⟨_, rfl, ho, hi, hb, hk⟩) | (exfalso; simp_all; done)
 | false =>
  rw [if_neg (by simp)] at h
  by_cases c1 : (s0_0.length : Int) < a1
  ·
   rw [if_pos c1] at h
   clear HCz
   have H' := Zs.mk h
   clear h
   go_enter Try.func63, Try.ntmps63
   go_wp2_with (go_at_call 62; (with_reducible refine (octs_In_take.calls g s0_0 false _ r1 r2 r3 w0 _ HI0.out HB.out H'.out).mono ?_); rintro e w1 ⟨v0, rfl, ho, hi, hb, hk⟩)
   all_goals first | (go_ret; exact ⟨_, rfl, ho, hi, hb, hk⟩) | (exfalso; simp_all; done)
  rw [if_neg c1] at h
  by_cases c2 : 0 ≤ a1
  ·
   rw [if_pos c2] at h
   obtain ⟨n, rfl⟩ := Int.eq_ofNat_of_zero_le c2
   have hn : n ≤ s0_0.length := by omega
   have hnc : n ≤ cSz := Nat.le_trans hn HCz
   have c1' : ¬ (s0_0.length < n) := by omega
   rw [Int.toNat_natCast] at h
   obtain ⟨t, ht, h2⟩ := Option.bind_eq_some_iff.1 h
   have HZ := Zs.mk HCz
   clear c1 c2 h HCz
   have hlt : (s0_0.take n).length = n := by rw [List.length_take]; omega
   have HT : ∀ W : World, Below w0.heap.size w0 W → Calls Try.prog 61 #[.slice ASz n cSz] W fun e w' => e = .returned (.int .u64 t) ∧ Drawn0 W w' := fun W hW => by
    have hr := Kd.C_below (Kd.C_take HR.out hn) hW
    have := octs_number.calls k ASz cSz (s0_0.take n) t W hr (by omega) ht
    rwa [hlt] at this
   clear hlt ht
   have HC := Zs.mk HT
   have HD := Zs.mk (Kd.C_drop HR.out hn HZ.out)
   clear HT
   have ew : wrap64 ((s0_0.length : Int) - n) = (s0_0.length : Int) - n := by unfold wrap64; omega
   have eu : IntKind.u64.wrap ((s0_0.length : Int) - n) = (s0_0.length : Int) - n := IntWalk.u64_in _ (by omega)
   have hl : s0_0.length - n = (s0_0.drop n).length := (List.length_drop).symm
   have HLn := Zs.mk hl
   clear hl
   by_cases c3 : (s0_0.length : Int) - n < t
   ·
    rw [if_pos c3] at h2
    simp only [Option.some.injEq, Prod.mk.injEq] at h2
    obtain ⟨rfl, rfl, rfl⟩ := h2
    have c3b : decide ((s0_0.length : Int) - n < t) = true := decide_eq_true c3
    have EW := Zs.mk ew
    have EU := Zs.mk eu
    clear ew eu
    go_enter Try.func63, Try.ntmps63
    go_wp2_with (go_at_call 61; (with_reducible refine (HC.out _ HB.out).mono ?_); rintro e w1 ⟨rfl, ⟨m, rfl⟩⟩)
    all_goals first | (go_ret; exact ⟨_, rfl, Kd.R_nil _ _ _ _ _, S91_wipe (IsS91.drewN HI0.out m), zbs (zbs (zbn HB.out m) HG.out) HG.out, KeepBut.set_ (KeepBut.set_ (keep_drewN HK.out m) 0 _) 1 _⟩) | (exfalso; simp_all; done)
   rw [if_neg c3] at h2
   have c3b : decide ((s0_0.length : Int) - n < t) = false := decide_eq_false c3
   have EW := Zs.mk ew
   have EU := Zs.mk eu
   clear ew eu
   have H' := Zs.mk h2
   clear h2 c3
   have hz := HZ.out
   have HIa : ∀ m, IsS91 w0 (w.drewN m) g s0_0 false := fun m => IsS91.drewN HI0.out m
   by_cases hcn : cSz = n
   ·
    subst hcn
    have HD2 := HD.out
    rw [if_pos rfl] at HD2
    have HD3 := Zs.mk HD2
    clear HD2
    have HI2 : ∀ m A, A = ASz → IsS91 w0 ((w.drewN m).setCell ⟨g, 0, none⟩ (.slice A 0 0)) g (s0_0.drop cSz) false := fun m A hA => by
     subst hA; exact S91_put (HIa m) _ _ _ _ (by rw [← HLn.out]; omega) HD3.out (by rw [← HLn.out]; omega)
    have HIx := Zs.mk HI2
    clear HI2 HIa
    go_enter Try.func63, Try.ntmps63
    go_wp2_with (first | (go_at_call 61; (with_reducible refine (HC.out _ HB.out).mono ?_); rintro e w1 ⟨rfl, ⟨m, rfl⟩⟩) | (go_at_call 62; (with_reducible refine (octs_In_take.calls g (s0_0.drop cSz) false _ r1 r2 r3 w0 _ (HIx.out _ _ rfl) (zbs (zbn HB.out _) HG.out) H'.out).mono ?_); rintro e w1 ⟨v0, rfl, ho, hi, hb, hk⟩))
    all_goals first | (go_ret; exact ⟨_, rfl, Kd.R_lower ho (by simp), hi, hb, KeepBut.trans (KeepBut.set_ (keep_drewN HK.out _) 0 _) hk (.inl rfl)⟩) | (exfalso; simp_all; done)
   have HD2 := HD.out
   rw [if_neg hcn] at HD2
   simp only [show (Kd.int .u8).sz = 1 from rfl, Nat.mul_one] at HD2
   have HD3 := Zs.mk HD2
   clear HD2
   have HI2 : ∀ m A, A = ASz.map (·.add n) → IsS91 w0 ((w.drewN m).setCell ⟨g, 0, none⟩ (.slice A (s0_0.length - n) (cSz - n))) g (s0_0.drop n) false := fun m A hA => by
    subst hA; exact S91_put (HIa m) _ _ _ _ HLn.out HD3.out (by rw [← HLn.out]; omega)
   have HIx := Zs.mk HI2
   clear HI2 HIa
   go_enter Try.func63, Try.ntmps63
   go_wp2_with (first | (go_at_call 61; (with_reducible refine (HC.out _ HB.out).mono ?_); rintro e w1 ⟨rfl, ⟨m, rfl⟩⟩) | (go_at_call 62; (with_reducible refine (octs_In_take.calls g (s0_0.drop n) false _ r1 r2 r3 w0 _ (HIx.out _ _ rfl) (zbs (zbn HB.out _) HG.out) H'.out).mono ?_); rintro e w1 ⟨v0, rfl, ho, hi, hb, hk⟩))
   all_goals first | (go_ret; exact ⟨_, rfl, Kd.R_lower ho (by simp), hi, hb, KeepBut.trans (KeepBut.set_ (keep_drewN HK.out _) 0 _) hk (.inl rfl)⟩) | (exfalso; simp_all; done)
  rw [if_neg c2] at h
  exact absurd h (by simp)
/-! ### octs_In_Short: function 47 -/
def octs_In_Short.f (k : Nat) (s0_0 : List Int) (s0_1 : Bool) : Option (ByteArray × List Int × Bool) := (octs_In_measured.f k s0_0 s0_1 1).bind fun bt160 => (some (strOfNums bt160.1, bt160.2.1, bt160.2.2))
set_option maxHeartbeats 8000000 in
set_option maxRecDepth 100000 in
theorem octs_In_Short.calls (k : Nat) (g : Nat) (s0_0 : List Int) (s0_1 : Bool) (r1 : ByteArray) (r2 : List Int) (r3 : Bool) (w0 w : World) (hI : IsS91 w0 w g s0_0 s0_1) (hB : Below w0.heap.size w0 w) (h : octs_In_Short.f k s0_0 s0_1 = some (r1, r2, r3)) :
  Calls Try.prog 47 #[.pointer (some ⟨g, 0, none⟩)] w fun e w' => e = .returned (.string r1) ∧ IsS91 w0 w' g r2 r3 ∧ Below w0.heap.size w0 w' ∧ KeepBut w w' g none := by
 have HI0 := Zs.mk hI
 have HK := Zs.mk (KeepBut.refl w g none)
 have HL := Zs.mk hB.size
 clear hI
 have HW0 := Zs.mk hB.size
 have HB := Zs.mk hB
 clear hB
 have H : ((octs_In_measured.f k s0_0 s0_1 1).bind fun bt160 => (some (strOfNums bt160.1, bt160.2.1, bt160.2.2))) = some (r1, r2, r3) := h
 clear h
 replace H := Option.bind_eq_some_iff.mp H
 obtain ⟨⟨t160, t163, t164⟩, A20, H⟩ := H
 replace H : (some (strOfNums t160, t163, t164)) = some (r1, r2, r3) := H
 have A2 := Zs.mk A20
 clear A20
 simp only [Option.some.injEq, Prod.mk.injEq] at H
 obtain ⟨rfl, rfl, rfl⟩ := H
 go_enter Try.func47, Try.ntmps47
 go_wp2_with (first | ((with_reducible refine gate_callee (f := 63) rfl ?_); refine goesL_ (some 4) rfl rfl Try.func63 (by kernel_rfl) rfl #[.pointer (some ⟨g, 0, none⟩), .int .i64 1] rfl (by (try simp only [List.map_toArray, List.map_cons, List.map_nil]); first | done | rfl | (simp only [List.length_drop, List.length_take]; rfl)) ?_; (with_reducible refine (octs_In_measured.calls k g s0_0 s0_1 1 t160 t163 t164 w0 _ ?side1 ?side2 A2.out).mono ?_); (case side1 => repeat (first | (with_reducible first | exact HI0.out | apply IsS91.alloc | apply IsS91.drewN | apply IsS91.drew | apply IsS91.set_1) | exact HI0.out)); (case side2 => repeat (first | (with_reducible first | exact HB.out | apply zba | apply zbn | apply zbd | refine zbs ?_ (IsS91.ge HI0.out)) | exact HB.out)); rintro e w3 ⟨v161, rfl, ho0, hi, hb, hk⟩; refine ⟨_, rfl, ?_⟩; have n0_ := Zs.mk (Kd.R_lower ho0 (keep_size (w := w) (g := g) (row := none) (by repeat (first | (with_reducible first | exact HK.out | apply KeepBut.set_ | apply keep_drewN | apply keep_drew | apply keep_alloc) | exact HK.out)))); have n1_ := Zs.mk (KeepBut.trans (by repeat (first | (with_reducible first | exact HK.out | apply KeepBut.set_ | apply keep_drewN | apply keep_drew | apply keep_alloc) | exact HK.out)) hk (.inl rfl)); have n2_ := Zs.mk (hb); have n3_ := Zs.mk (hi); clear HK; clear HB; clear HI0; have HO162 := n0_; have HK := n1_; have HB := n2_; have HI0 := n3_; clear n0_ n1_ n2_ n3_; (try clear hb); (try clear hb2); (try clear hk); (try clear hi); (try clear hge); (try clear ho0); have hcv4 := own_string (P := Try.prog) Try.underlying25 Try.underlying5 Try.underlying9 (Kd.own_of_R HO162.out)))
 all_goals first | (go_ret; exact ⟨by first | rfl | (simp [zen, zes]; done) | (simp [zen, zes]; rfl) | (simp [*, zen, zes]; done) | (simp [*, zen, zes]; rfl), by repeat (first | (with_reducible first | exact HI0.out | apply IsS91.alloc | apply IsS91.drewN | apply IsS91.drew | apply IsS91.set_1) | exact HI0.out), by repeat (first | (with_reducible first | exact HB.out | apply zba | apply zbn | apply zbd | refine zbs ?_ (IsS91.ge HI0.out)) | exact HB.out), by repeat (first | (with_reducible first | exact HK.out | apply KeepBut.set_ | apply keep_drewN | apply keep_drew | apply keep_alloc) | exact HK.out)⟩) | (exfalso; simp_all; done)
/-! ### octs_In_Left: function 55 -/
def octs_In_Left.f (s0_0 : List Int) (s0_1 : Bool) : Option (Int × List Int × Bool) := some ((s0_0.length : Int), s0_0, s0_1)
set_option maxHeartbeats 8000000 in
set_option maxRecDepth 100000 in
theorem octs_In_Left.calls (g : Nat) (s0_0 : List Int) (s0_1 : Bool) (r1 : Int) (r2 : List Int) (r3 : Bool) (w0 w : World) (hI : IsS91 w0 w g s0_0 s0_1) (hB : Below w0.heap.size w0 w) (h : octs_In_Left.f s0_0 s0_1 = some (r1, r2, r3)) :
  Calls Try.prog 55 #[.pointer (some ⟨g, 0, none⟩)] w fun e w' => e = .returned (.int .i64 r1) ∧ IsS91 w0 w' g r2 r3 ∧ Below w0.heap.size w0 w' ∧ KeepBut w w' g none := by
 have HI0 := Zs.mk hI
 have HK := Zs.mk (KeepBut.refl w g none)
 have HL := Zs.mk hB.size
 clear hI
 have HW0 := Zs.mk hB.size
 have HB := Zs.mk hB
 clear hB
 have H : (some ((s0_0.length : Int), s0_0, s0_1)) = some (r1, r2, r3) := h
 clear h
 simp only [Option.some.injEq, Prod.mk.injEq] at H
 obtain ⟨rfl, rfl, rfl⟩ := H
 obtain ⟨ASz2_0, cSz2_0, HGz2, hgz2, HSz2_0⟩ := HI0.out
 have hcz2_0 := cellS91_0 HGz2
 have hcz2_1 := cellS91_1 HGz2
 have hfz2_0 := zbf HGz2 0
 have hfz2_1 := zbf HGz2 1
 clear HGz2 hgz2
 go_enter Try.func55, Try.ntmps55
 go_wp2
 all_goals first | (go_ret; exact ⟨by first | rfl | (simp [zen, zes]; done) | (simp [zen, zes]; rfl) | (simp [*, zen, zes]; done) | (simp [*, zen, zes]; rfl), by repeat (first | (with_reducible first | exact HI0.out | apply IsS91.alloc | apply IsS91.drewN | apply IsS91.drew | apply IsS91.set_1) | exact HI0.out), by repeat (first | (with_reducible first | exact HB.out | apply zba | apply zbn | apply zbd | refine zbs ?_ (IsS91.ge HI0.out)) | exact HB.out), by repeat (first | (with_reducible first | exact HK.out | apply KeepBut.set_ | apply keep_drewN | apply keep_drew | apply keep_alloc) | exact HK.out)⟩) | (exfalso; simp_all; done)
/-! ### octs_In_Long: function 66 -/
def octs_In_Long.f (k : Nat) (s0_0 : List Int) (s0_1 : Bool) : Option (List Int × List Int × Bool) := (octs_In_measured.f k s0_0 s0_1 4).bind fun bt165 => (some (bt165.1, bt165.2.1, bt165.2.2))
set_option maxHeartbeats 8000000 in
set_option maxRecDepth 100000 in
theorem octs_In_Long.calls (k : Nat) (g : Nat) (s0_0 : List Int) (s0_1 : Bool) (r1 : List Int) (r2 : List Int) (r3 : Bool) (w0 w : World) (hI : IsS91 w0 w g s0_0 s0_1) (hB : Below w0.heap.size w0 w) (h : octs_In_Long.f k s0_0 s0_1 = some (r1, r2, r3)) :
  Calls Try.prog 66 #[.pointer (some ⟨g, 0, none⟩)] w fun e w' => ∃ v0_ : Value, e = .returned (v0_) ∧ Kd.R (Kd.int .u8) 5 w' w.heap.size (fun _ => True) v0_ r1 ∧ IsS91 w0 w' g r2 r3 ∧ Below w0.heap.size w0 w' ∧ KeepBut w w' g none := by
 have HI0 := Zs.mk hI
 have HK := Zs.mk (KeepBut.refl w g none)
 have HL := Zs.mk hB.size
 clear hI
 have HW0 := Zs.mk hB.size
 have HB := Zs.mk hB
 clear hB
 have H : ((octs_In_measured.f k s0_0 s0_1 4).bind fun bt165 => (some (bt165.1, bt165.2.1, bt165.2.2))) = some (r1, r2, r3) := h
 clear h
 replace H := Option.bind_eq_some_iff.mp H
 obtain ⟨⟨t165, t168, t169⟩, A20, H⟩ := H
 replace H : (some (t165, t168, t169)) = some (r1, r2, r3) := H
 have A2 := Zs.mk A20
 clear A20
 simp only [Option.some.injEq, Prod.mk.injEq] at H
 obtain ⟨rfl, rfl, rfl⟩ := H
 go_enter Try.func66, Try.ntmps66
 go_wp2_with (first | ((with_reducible refine gate_callee (f := 63) rfl ?_); refine goesL_ (some 4) rfl rfl Try.func63 (by kernel_rfl) rfl #[.pointer (some ⟨g, 0, none⟩), .int .i64 4] rfl (by (try simp only [List.map_toArray, List.map_cons, List.map_nil]); first | done | rfl | (simp only [List.length_drop, List.length_take]; rfl)) ?_; (with_reducible refine (octs_In_measured.calls k g s0_0 s0_1 4 t165 t168 t169 w0 _ ?side1 ?side2 A2.out).mono ?_); (case side1 => repeat (first | (with_reducible first | exact HI0.out | apply IsS91.alloc | apply IsS91.drewN | apply IsS91.drew | apply IsS91.set_1) | exact HI0.out)); (case side2 => repeat (first | (with_reducible first | exact HB.out | apply zba | apply zbn | apply zbd | refine zbs ?_ (IsS91.ge HI0.out)) | exact HB.out)); rintro e w3 ⟨v166, rfl, ho0, hi, hb, hk⟩; refine ⟨_, rfl, ?_⟩; have n0_ := Zs.mk (Kd.R_lower ho0 (keep_size (w := w) (g := g) (row := none) (by repeat (first | (with_reducible first | exact HK.out | apply KeepBut.set_ | apply keep_drewN | apply keep_drew | apply keep_alloc) | exact HK.out)))); have n1_ := Zs.mk (KeepBut.trans (by repeat (first | (with_reducible first | exact HK.out | apply KeepBut.set_ | apply keep_drewN | apply keep_drew | apply keep_alloc) | exact HK.out)) hk (.inl rfl)); have n2_ := Zs.mk (hb); have n3_ := Zs.mk (hi); clear HK; clear HB; clear HI0; have HO167 := n0_; have HK := n1_; have HB := n2_; have HI0 := n3_; clear n0_ n1_ n2_ n3_; (try clear hb); (try clear hb2); (try clear hk); (try clear hi); (try clear hge); (try clear ho0)))
 all_goals first | (go_ret; exact ⟨_, by first | rfl | (simp [zen, zes]; done) | (simp [zen, zes]; rfl) | (simp [*, zen, zes]; done) | (simp [*, zen, zes]; rfl), by (with_reducible repeat (first | apply Kd.R_alloc | apply Kd.R_drewN | apply Kd.R_drew)); exact HO167.out, by repeat (first | (with_reducible first | exact HI0.out | apply IsS91.alloc | apply IsS91.drewN | apply IsS91.drew | apply IsS91.set_1) | exact HI0.out), by repeat (first | (with_reducible first | exact HB.out | apply zba | apply zbn | apply zbd | refine zbs ?_ (IsS91.ge HI0.out)) | exact HB.out), by repeat (first | (with_reducible first | exact HK.out | apply KeepBut.set_ | apply keep_drewN | apply keep_drew | apply keep_alloc) | exact HK.out)⟩) | (exfalso; simp_all; done)
end Go.Proofs.Ytfhaffpegncdiaa.PT
